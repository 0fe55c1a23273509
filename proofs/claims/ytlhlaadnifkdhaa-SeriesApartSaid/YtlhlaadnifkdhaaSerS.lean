/- Unlike labels have unlike texts; each series is as if it were alone: in plain words. No law is proved here. -/
import Derived.Test.YtlhlaadnifkdhaaM3
namespace Go.Proofs.Ytlhlaadnifkdhaa.Sr
open Go.RowKit Go.Proofs.YtlhlaadnifkdhaaW.PrintWords Go.Proofs.YtlhlaadnifkdhaaW.PrintLast Go.Proofs.YtlhlaadnifkdhaaW.PrintMore Go.Proofs.Ytlhlaadnifkdhaa.Q Go.Proofs.Ytlhlaadnifkdhaa.Own Go.Proofs.Ytlhlaadnifkdhaa.Nmd Go.Proofs.Ytlhlaadnifkdhaa.Pure
set_option linter.unusedVariables false
set_option linter.unusedSimpArgs false

/-! Texts -/
theorem esc_yes {c : UInt8} (h : c = 34 ∨ c = 92) : esc c = [92, c] := by unfold esc; rw [if_pos h]
theorem esc_no {c : UInt8} (h : ¬ (c = 34 ∨ c = 92)) : esc c = [c] := by unfold esc; rw [if_neg h]
theorem esc_head (c : UInt8) (r s : List UInt8) : esc c ++ r ≠ 34 :: s := by
  by_cases h : c = 34 ∨ c = 92
  · rw [esc_yes h]
    intro e
    injection e with e1 _
    exact absurd e1 (by decide)
  · rw [esc_no h]
    intro e
    injection e with e1 _
    exact h (.inl e1)
theorem esc_inj : ∀ (u v r s : List UInt8), u.flatMap esc ++ 34 :: r = v.flatMap esc ++ 34 :: s → u = v ∧ r = s
  | [], [], r, s, h => by
    injection h with _ h
    exact ⟨rfl, h⟩
  | [], d :: v, r, s, h => by
    rw [List.flatMap_cons, List.append_assoc] at h
    exact absurd h.symm (esc_head d _ _)
  | c :: u, [], r, s, h => by
    rw [List.flatMap_cons, List.append_assoc] at h
    exact absurd h (esc_head c _ _)
  | c :: u, d :: v, r, s, h => by
    rw [List.flatMap_cons, List.flatMap_cons, List.append_assoc, List.append_assoc] at h
    by_cases hc : c = 34 ∨ c = 92
    · rw [esc_yes hc] at h
      by_cases hd : d = 34 ∨ d = 92
      · rw [esc_yes hd] at h
        injection h with _ h
        injection h with h1 h2
        obtain ⟨e1, e2⟩ := esc_inj u v r s h2
        exact ⟨by rw [h1, e1], e2⟩
      · rw [esc_no hd] at h
        injection h with h1 _
        exact absurd (Or.inr h1.symm) hd
    · rw [esc_no hc] at h
      by_cases hd : d = 34 ∨ d = 92
      · rw [esc_yes hd] at h
        injection h with h1 _
        exact absurd (Or.inr h1) hc
      · rw [esc_no hd] at h
        injection h with h1 h2
        obtain ⟨e1, e2⟩ := esc_inj u v r s h2
        exact ⟨by rw [h1, e1], e2⟩
def markU (c : UInt8) : Bool := markB c.toNat
theorem mark_inj : ∀ (n m t s : List UInt8), n.all markU = true → m.all markU = true → n ++ 61 :: t = m ++ 61 :: s → n = m ∧ t = s
  | [], [], t, s, _, _, h => by
    injection h with _ h
    exact ⟨rfl, h⟩
  | [], d :: m, t, s, _, hm, h => by
    injection h with h1 _
    rw [List.all_cons, Bool.and_eq_true, ← h1] at hm
    exact absurd hm.1 (by decide)
  | c :: n, [], t, s, hn, _, h => by
    injection h with h1 _
    rw [List.all_cons, Bool.and_eq_true, h1] at hn
    exact absurd hn.1 (by decide)
  | c :: n, d :: m, t, s, hn, hm, h => by
    injection h with h1 h2
    rw [List.all_cons, Bool.and_eq_true] at hn hm
    obtain ⟨e1, e2⟩ := mark_inj n m t s hn.2 hm.2 h2
    exact ⟨by rw [h1, e1], e2⟩
theorem name_marks {s : ByteArray} (h : mayName s = true) : (B s).all markU = true := by
  unfold mayName at h
  simp only [Bool.and_eq_true] at h
  exact h.2.2.2
theorem item_inj {x y : LB} {r s : List UInt8} (hx : mayName x.f0 = true) (hy : mayName y.f0 = true) (h : item x ++ r = item y ++ s) : x = y ∧ r = s := by
  unfold item quoteL at h
  simp only [List.append_assoc, List.cons_append, List.nil_append] at h
  obtain ⟨e1, e2⟩ := mark_inj _ _ _ _ (name_marks hx) (name_marks hy) h
  injection e2 with _ e2
  obtain ⟨e3, e4⟩ := esc_inj _ _ _ _ e2
  refine ⟨?_, e4⟩
  cases x; cases y
  have a := B_inj e1
  have b := B_inj e3
  dsimp only at a b
  rw [a, b]
theorem item_head {x : LB} (hx : mayName x.f0 = true) (r s : List UInt8) : item x ++ r ≠ 125 :: s := by
  unfold item
  intro h
  have hm := name_marks hx
  cases hn : B x.f0 with
  | nil =>
    rw [hn] at h
    injection h with h1 _
    exact absurd h1 (by decide)
  | cons c n =>
    rw [hn] at h hm
    injection h with h1 _
    rw [List.all_cons, Bool.and_eq_true, h1] at hm
    exact absurd hm.1 (by decide)
theorem join_inj : ∀ (l m : List LB), (∀ y ∈ l, mayName y.f0 = true) → (∀ y ∈ m, mayName y.f0 = true) → joinC l ++ [125] = joinC m ++ [125] → l = m
  | [], [], _, _, _ => rfl
  | [], y :: m, _, hm, h => by
    exfalso
    cases m with
    | nil =>
      rw [joinC_one] at h
      exact item_head (hm y (List.mem_cons_self ..)) _ _ h.symm
    | cons z m =>
      rw [joinC_two, List.append_assoc] at h
      exact item_head (hm y (List.mem_cons_self ..)) _ _ h.symm
  | x :: l, [], hl, _, h => by
    exfalso
    cases l with
    | nil =>
      rw [joinC_one] at h
      exact item_head (hl x (List.mem_cons_self ..)) _ _ h
    | cons z l =>
      rw [joinC_two, List.append_assoc] at h
      exact item_head (hl x (List.mem_cons_self ..)) _ _ h
  | x :: l, y :: m, hl, hm, h => by
    have hx := hl x (List.mem_cons_self ..)
    have hy := hm y (List.mem_cons_self ..)
    cases l with
    | nil =>
      cases m with
      | nil =>
        rw [joinC_one, joinC_one] at h
        rw [(item_inj hx hy h).1]
      | cons z m =>
        rw [joinC_one, joinC_two, List.append_assoc] at h
        have := (item_inj hx hy h).2
        injection this with h1 _
        exact absurd h1 (by decide)
    | cons z l =>
      cases m with
      | nil =>
        rw [joinC_one, joinC_two, List.append_assoc] at h
        have := (item_inj hx hy h).2
        injection this with h1 _
        exact absurd h1 (by decide)
      | cons u m =>
        rw [joinC_two, joinC_two, List.append_assoc, List.append_assoc] at h
        obtain ⟨e1, e2⟩ := item_inj hx hy h
        injection e2 with _ e2
        rw [e1, join_inj (z :: l) (u :: m) (fun y hy => hl y (List.mem_cons_of_mem _ hy)) (fun y hy => hm y (List.mem_cons_of_mem _ hy)) e2]
theorem key_inj {a b : List LB} (ha : mayB a = true) (hb : mayB b = true) (h : keyT a = keyT b) : a = b := by
  have h : printL a = printL b := h
  unfold printL at h
  injection h with _ h
  exact join_inj a b (fun y hy => ((may_small ha).2 y hy).1) (fun y hy => ((may_small hb).2 y hy).1) h

/-! One series among all -/
def isQ (q : List LB) (v : PV) : Bool := sameLs v.1 q
theorem isQ_iff {q : List LB} {v : PV} : isQ q v = true ↔ v.1 = q := sameLs_iff
def VMay (V : List PV) : Prop := Rise keyP V ∧ ∀ v ∈ V, mayB v.1 = true
theorem ins_filter {p : PV → Bool} {x : PV} (hx : p x = false) : ∀ L : List PV, (insF keyP L x).filter p = L.filter p
  | [] => by unfold insF; rw [List.filter_cons_of_neg (by rw [hx]; decide)]
  | y :: L => by
    unfold insF
    split
    · rw [List.filter_cons_of_neg (by rw [hx]; decide)]
    · rw [List.filter_cons, List.filter_cons, ins_filter hx L]
theorem cut_noneP {V : List PV} {n : List UInt8} (h : findF keyP V n = none) : cutF keyP V n = V := by
  unfold cutF
  rw [List.filter_eq_self]
  intro a ha
  exact bne_iff_ne.2 (find_none.1 h a ha)
theorem exp_filter (V : List PV) (q : List LB) (a : Int) : expV (V.filter (isQ q)) a = (expV V a).filter (isQ q) := by
  unfold expV
  rw [List.filter_filter, List.filter_map, List.filter_map, List.filter_filter]
  congr 1
  exact List.filter_congr fun v _ => by
    show (_ && _) = (_ && _)
    rw [Bool.and_comm]
    rfl
theorem add_err {V : List PV} (hr : Rise keyP V) {ls : List LB} {x : SM} (h : (addV V ls x).1 ≠ 0) : (addV V ls x).2 = V := by
  unfold addV at h ⊢
  by_cases hm : mayB ls = false
  · rw [if_pos hm]
  rw [if_neg hm] at h ⊢
  cases hf : findF keyP V (keyT ls) with
  | some v =>
    rw [hf] at h
    have h : pushE v.2 x ≠ 0 := h
    obtain ⟨hv, hk⟩ := find_mem hf
    show V.map (fun u => if keyP u = keyT ls then (u.1, pushL u.2 x) else u) = V
    refine (List.map_congr_left fun u hu => ?_).trans (List.map_id _)
    by_cases hku : keyP u = keyT ls
    · rw [if_pos hku]
      have e := find_of (rise_unlike hr) hu
      rw [hku, hf] at e
      injection e with e
      subst e
      unfold pushL
      rw [if_neg h]
      rfl
    · rw [if_neg hku]
      rfl
  | none =>
    rw [hf] at h
    show (if pushE [] x ≠ 0 then (pushE [] x, V) else if 8 ≤ V.length then ((170 : Int), V) else (0, setF keyP V (ls, [x])) : Int × List PV).2 = V
    have h : (if pushE [] x ≠ 0 then (pushE [] x, V) else if 8 ≤ V.length then ((170 : Int), V) else (0, setF keyP V (ls, [x])) : Int × List PV).1 ≠ 0 := h
    by_cases h1 : pushE [] x ≠ 0
    · rw [if_pos h1]
    · rw [if_neg h1] at h ⊢
      by_cases h2 : 8 ≤ V.length
      · rw [if_pos h2]
      · rw [if_neg h2] at h
        exact absurd rfl h
theorem add_may {V : List PV} {ls : List LB} {x : SM} (h : (addV V ls x).1 = 0) : mayB ls = true := by
  unfold addV at h
  by_cases hm : mayB ls = false
  · rw [if_pos hm] at h
    exact absurd h (show ¬ (70 : Int) = 0 by decide)
  · simpa using hm
theorem add_some {V : List PV} {ls : List LB} {x : SM} {v : PV} (hm : mayB ls = true) (hf : findF keyP V (keyT ls) = some v) : addV V ls x = (pushE v.2 x, V.map fun u => if keyP u = keyT ls then (u.1, pushL u.2 x) else u) := by
  unfold addV
  rw [if_neg (by rw [hm]; decide), hf]
theorem add_new {V : List PV} {ls : List LB} {x : SM} (hm : mayB ls = true) (hf : findF keyP V (keyT ls) = none) : addV V ls x = if pushE [] x ≠ 0 then (pushE [] x, V) else if 8 ≤ V.length then (170, V) else (0, setF keyP V (ls, [x])) := by
  unfold addV
  rw [if_neg (by rw [hm]; decide), hf]
theorem add_new0 {V : List PV} {ls : List LB} {x : SM} (hm : mayB ls = true) (hf : findF keyP V (keyT ls) = none) (h : (addV V ls x).1 = 0) : pushE [] x = 0 ∧ V.length < 8 ∧ addV V ls x = (0, setF keyP V (ls, [x])) := by
  rw [add_new hm hf] at h ⊢
  by_cases h1 : pushE [] x ≠ 0
  · rw [if_pos h1] at h
    exact absurd h h1
  · rw [if_neg h1] at h ⊢
    by_cases h2 : 8 ≤ V.length
    · rw [if_pos h2] at h
      exact absurd h (show ¬ (170 : Int) = 0 by decide)
    · rw [if_neg h2]
      exact ⟨by simpa using h1, by omega, rfl⟩
theorem q_none {V : List PV} {q : List LB} (hf : findF keyP V (keyT q) = none) : V.filter (isQ q) = [] := by
  rw [List.filter_eq_nil_iff]
  intro v hv e
  refine find_none.1 hf v hv ?_
  unfold keyP
  rw [isQ_iff.1 e]
theorem q_key {V : List PV} (hV : VMay V) {q : List LB} (hq : mayB q = true) {v : PV} (hv : v ∈ V) (hk : keyP v = keyT q) : v.1 = q := key_inj (hV.2 v hv) hq hk
theorem find_q {V : List PV} (hV : VMay V) {q : List LB} (hq : mayB q = true) {v : PV} (hf : findF keyP V (keyT q) = some v) : findF keyP (V.filter (isQ q)) (keyT q) = some v := by
  obtain ⟨hv, hk⟩ := find_mem hf
  have hm : v ∈ V.filter (isQ q) := List.mem_filter.2 ⟨hv, isQ_iff.2 (q_key hV hq hv hk)⟩
  rw [← hk]
  exact find_of (rise_unlike (hV.1.sublist List.filter_sublist)) hm
theorem add_q {V : List PV} (hV : VMay V) {q : List LB} {x : SM} (h : (addV V q x).1 = 0) : (addV (V.filter (isQ q)) q x).1 = 0 ∧ (addV (V.filter (isQ q)) q x).2 = (addV V q x).2.filter (isQ q) := by
  have hq := add_may h
  cases hf : findF keyP V (keyT q) with
  | some v =>
    rw [add_some hq hf] at h ⊢
    rw [add_some hq (find_q hV hq hf)]
    refine ⟨h, ?_⟩
    show (V.filter (isQ q)).map _ = (V.map _).filter (isQ q)
    rw [List.filter_map]
    congr 1
    refine List.filter_congr fun u _ => ?_
    show isQ q u = isQ q (if keyP u = keyT q then ((u.1, pushL u.2 x) : PV) else u)
    split <;> rfl
  | none =>
    obtain ⟨h1, h2, h3⟩ := add_new0 hq hf h
    rw [h3, q_none hf]
    have e1 : addV [] q x = (0, [(q, [x])]) := by
      unfold addV
      rw [if_neg (by rw [hq]; decide)]
      show (if pushE [] x ≠ 0 then (pushE [] x, []) else if 8 ≤ 0 then ((170 : Int), []) else (0, setF keyP [] (q, [x])) : Int × List PV) = _
      rw [if_neg (by rw [h1]; decide), if_neg (by decide)]
      rfl
    rw [e1]
    refine ⟨rfl, ?_⟩
    have hp : ((setF keyP V (q, [x])).filter (isQ q)).Perm [(q, [x])] := by
      unfold setF
      refine ((ins_perm _ _).filter _).trans ?_
      rw [List.filter_cons_of_pos (show isQ q (q, [x]) = true from sameLs_iff.2 rfl), show keyP (q, [x]) = keyT q from rfl, cut_noneP hf, q_none hf]
    exact (List.perm_singleton.1 hp).symm
theorem add_other {V : List PV} (hV : VMay V) {q ls : List LB} {x : SM} (hne : sameLs ls q = false) (h : (addV V ls x).1 = 0) : (addV V ls x).2.filter (isQ q) = V.filter (isQ q) := by
  have hm := add_may h
  have hnq : ls ≠ q := fun e => by rw [sameLs_iff.2 e] at hne; cases hne
  cases hf : findF keyP V (keyT ls) with
  | some v =>
    rw [add_some hm hf]
    show (V.map _).filter (isQ q) = _
    rw [List.filter_map]
    rw [show (isQ q ∘ fun u : PV => if keyP u = keyT ls then ((u.1, pushL u.2 x) : PV) else u) = isQ q from funext fun u => by
      show isQ q (if keyP u = keyT ls then ((u.1, pushL u.2 x) : PV) else u) = isQ q u
      split <;> rfl]
    refine (List.map_congr_left fun u hu => ?_).trans (List.map_id _)
    obtain ⟨hu1, hu2⟩ := List.mem_filter.1 hu
    rw [if_neg]
    · rfl
    · intro hk
      exact hnq ((q_key hV hm hu1 hk).symm.trans (isQ_iff.1 hu2))
  | none =>
    obtain ⟨h1, h2, h3⟩ := add_new0 hm hf h
    rw [h3]
    unfold setF
    rw [ins_filter (by
      rw [Bool.eq_false_iff]
      intro e
      exact hnq (isQ_iff.1 e)), show keyP (ls, [x]) = keyT ls from rfl, cut_noneP hf]
theorem VMay.add {V : List PV} (hV : VMay V) (ls : List LB) (x : SM) : VMay (addV V ls x).2 := by
  by_cases h0 : (addV V ls x).1 = 0
  · have hm := add_may h0
    cases hf : findF keyP V (keyT ls) with
    | some v =>
      rw [add_some hm hf]
      refine ⟨?_, fun u hu => ?_⟩
      · unfold Rise
        show (V.map _).Pairwise _
        rw [List.pairwise_map]
        refine hV.1.imp fun {a b} hab => ?_
        have e : ∀ u : PV, keyP (if keyP u = keyT ls then ((u.1, pushL u.2 x) : PV) else u) = keyP u := fun u => by split <;> rfl
        rw [e, e]
        exact hab
      · obtain ⟨u', hu', rfl⟩ := List.mem_map.1 hu
        have := hV.2 u' hu'
        split
        · exact this
        · exact this
    | none =>
      obtain ⟨h1, h2, h3⟩ := add_new0 hm hf h0
      rw [h3]
      refine ⟨set_rise hV.1 _, fun u hu => ?_⟩
      rcases List.mem_cons.1 ((ins_perm _ _).mem_iff.1 hu) with rfl | hu
      · exact hm
      · exact hV.2 u (cut_mem.1 hu).1
  · rw [add_err hV.1 h0]
    exact hV
theorem VMay.exp {V : List PV} (hV : VMay V) (a : Int) : VMay (expV V a) := by
  unfold expV
  refine ⟨?_, fun u hu => ?_⟩
  · refine List.Pairwise.filter _ ?_
    rw [List.pairwise_map]
    exact hV.1.imp fun {a b} hab => hab
  · obtain ⟨u', hu', rfl⟩ := List.mem_map.1 (List.mem_filter.1 hu).1
    exact hV.2 u' hu'
theorem may_run (l : List AT) : VMay (runV l) := by
  unfold runV
  have key : ∀ (l : List AT) (V : List PV), VMay V → VMay (l.foldl stepV V) := by
    intro l
    induction l with
    | nil => exact fun V h => h
    | cons a l ih =>
      intro V h
      refine ih _ ?_
      unfold stepV
      split
      · exact h.exp _
      · exact h.add _ _
  exact key l [] ⟨List.Pairwise.nil, fun v hv => absurd hv List.not_mem_nil⟩
/-! What was accepted -/
def accStep (st : List PV × List AT) (a : AT) : List PV × List AT :=
  if a.f0 = true then (expV st.1 a.f2.f0, st.2 ++ [a]) else if (addV st.1 a.f1 a.f2).1 = 0 then ((addV st.1 a.f1 a.f2).2, st.2 ++ [a]) else ((addV st.1 a.f1 a.f2).2, st.2)
def accR (l : List AT) : List PV × List AT := l.foldl accStep ([], [])
def accL (l : List AT) : List AT := (accR l).2
theorem acc_snoc (l : List AT) (a : AT) : accR (l ++ [a]) = accStep (accR l) a := by
  unfold accR
  rw [List.foldl_append]
  rfl
theorem run_snoc (l : List AT) (a : AT) : runV (l ++ [a]) = stepV (runV l) a := by
  unfold runV
  rw [List.foldl_append]
  rfl
theorem list_snoc {α : Type} {P : List α → Prop} (h0 : P []) (h1 : ∀ l a, P l → P (l ++ [a])) (l : List α) : P l := by
  have key : ∀ n (l : List α), l.length = n → P l := by
    intro n
    induction n with
    | zero =>
      intro l hl
      rw [List.length_eq_zero_iff.1 hl]
      exact h0
    | succ n ih =>
      intro l hl
      have hne : l ≠ [] := by rintro rfl; simp at hl
      rw [← List.dropLast_concat_getLast hne]
      exact h1 _ _ (ih _ (by rw [List.length_dropLast]; omega))
  exact key _ l rfl
theorem acc_run (l : List AT) : (accR l).1 = runV l := by
  refine list_snoc (P := fun l => (accR l).1 = runV l) rfl (fun l a ih => ?_) l
  rw [acc_snoc, run_snoc]
  unfold accStep stepV
  rw [ih]
  split
  · rfl
  · split <;> rfl
def aloneS (q : List LB) (U : List PV) (a : AT) : List PV := if a.f0 = true then expV U a.f2.f0 else if sameLs a.f1 q = true then (addV U a.f1 a.f2).2 else U
def alone (q : List LB) (l : List AT) : List PV := l.foldl (aloneS q) []
theorem alone_snoc (q : List LB) (l : List AT) (a : AT) : alone q (l ++ [a]) = aloneS q (alone q l) a := by
  unfold alone
  rw [List.foldl_append]
  rfl
theorem alone_take (q : List LB) (l : List AT) {k : Nat} (h : k < l.length) : alone q (l.take (k + 1)) = aloneS q (alone q (l.take k)) l[k] := by
  rw [List.take_succ_eq_append_getElem h, alone_snoc]
/-- The stage's theorem, in plain words. -/
theorem alone_ok {q : List LB} (hq : mayB q = true) (l : List AT) : alone q (accL l) = (runV l).filter (isQ q) ∧ ∀ k (h : k < (accL l).length), (accL l)[k].f0 = false → sameLs (accL l)[k].f1 q = true → (addV (alone q ((accL l).take k)) (accL l)[k].f1 (accL l)[k].f2).1 = 0 := by
  refine list_snoc (P := fun l => alone q (accL l) = (runV l).filter (isQ q) ∧ ∀ k (h : k < (accL l).length), (accL l)[k].f0 = false → sameLs (accL l)[k].f1 q = true → (addV (alone q ((accL l).take k)) (accL l)[k].f1 (accL l)[k].f2).1 = 0) ⟨rfl, fun k h => absurd h (Nat.not_lt_zero _)⟩ (fun l a ih => ?_) l
  obtain ⟨ih1, ih2⟩ := ih
  have hV := may_run l
  have hold : ∀ (M : List AT), M = accL l ++ [a] → (a.f0 = false → sameLs a.f1 q = true → (addV (alone q (accL l)) a.f1 a.f2).1 = 0) → ∀ k (h : k < M.length), M[k].f0 = false → sameLs M[k].f1 q = true → (addV (alone q (M.take k)) M[k].f1 M[k].f2).1 = 0 := by
    rintro M rfl ha k h h0 h1
    by_cases hk : k < (accL l).length
    · rw [List.getElem_append_left hk] at h0 h1 ⊢
      rw [List.take_append_of_le_length (by omega)]
      exact ih2 k hk h0 h1
    · have : k = (accL l).length := by
        rw [List.length_append] at h
        simp at h
        omega
      subst this
      rw [List.getElem_append_right (Nat.le_refl _)] at h0 h1 ⊢
      simp only [Nat.sub_self, List.getElem_cons_zero] at h0 h1 ⊢
      rw [List.take_left']
      · exact ha h0 h1
      · rfl
  by_cases h0 : a.f0 = true
  · have e1 : accL (l ++ [a]) = accL l ++ [a] := by
      unfold accL
      rw [acc_snoc]
      unfold accStep
      rw [if_pos h0]
    refine ⟨?_, hold _ e1 (fun h => by rw [h0] at h; cases h)⟩
    rw [e1, alone_snoc, run_snoc]
    unfold aloneS stepV
    rw [if_pos h0, if_pos h0, ih1, exp_filter]
  · by_cases hz : (addV (runV l) a.f1 a.f2).1 = 0
    · have e1 : accL (l ++ [a]) = accL l ++ [a] := by
        unfold accL
        rw [acc_snoc]
        unfold accStep
        rw [if_neg h0, acc_run, if_pos hz]
      refine ⟨?_, hold _ e1 (fun _ hs => ?_)⟩
      · rw [e1, alone_snoc, run_snoc]
        unfold aloneS stepV
        rw [if_neg h0, if_neg h0, ih1]
        cases hs : sameLs a.f1 q with
        | true =>
          have := sameLs_iff.1 hs
          rw [if_pos rfl]
          rw [this] at hz ⊢
          exact (add_q hV hz).2
        | false =>
          rw [if_neg (by decide)]
          exact (add_other hV hs hz).symm
      · rw [ih1]
        have := sameLs_iff.1 hs
        rw [this] at hz ⊢
        exact (add_q hV hz).1
    · have e1 : accL (l ++ [a]) = accL l := by
        unfold accL
        rw [acc_snoc]
        unfold accStep
        rw [if_neg h0, acc_run, if_neg hz]
      have e2 : runV (l ++ [a]) = runV l := by
        rw [run_snoc]
        unfold stepV
        rw [if_neg h0]
        exact add_err hV.1 hz
      have key : ∀ (M : List AT), M = accL l → alone q M = (runV l).filter (isQ q) ∧ ∀ k (h : k < M.length), M[k].f0 = false → sameLs M[k].f1 q = true → (addV (alone q (M.take k)) M[k].f1 M[k].f2).1 = 0 := by
        rintro M rfl
        exact ⟨ih1, ih2⟩
      rw [e2]
      exact key _ e1
end Go.Proofs.Ytlhlaadnifkdhaa.Sr
