/- Plain laws of the program's reader of labels: what it reads is written so, and what is written so it reads. -/
import Derived.Test.YtiicfejaoilfcaaQ16
import Derived.Test.YtiicfejaoilfcaaQ15
import Derived.Test.YtiicfejaoilfcaaQ19
import Derived.Test.YtiicfejaoilfcaaMayP
namespace Go.Proofs.Ytiicfejaoilfcaa.Pure
open Go.RowKit Go.Proofs.YtiicfejaoilfcaaW.PrintWords Go.Proofs.YtiicfejaoilfcaaW.PrintLast Go.Proofs.Ytiicfejaoilfcaa.Q
set_option linter.unusedVariables false
set_option linter.unusedSimpArgs false

abbrev B (s : ByteArray) : List UInt8 := s.data.toList
theorem B_str (l : List UInt8) : B (str l) = l := rfl
theorem str_B (s : ByteArray) : str (B s) = s := Lib.mk_data s
theorem size_str (l : List UInt8) : (str l).size = l.length := by rw [← data_length]; rfl
theorem B_inj {a b : ByteArray} (h : B a = B b) : a = b := by rw [← str_B a, ← str_B b, h]
def item (x : S31) : List UInt8 := B x.f0 ++ 61 :: quoteL (B x.f1)
def joinC : List S31 → List UInt8
  | [] => []
  | x :: l => item x ++ (match l with | [] => [] | _ :: _ => 44 :: joinC l)
def printL (l : List S31) : List UInt8 := 123 :: (joinC l ++ [125])
theorem joinC_one (x : S31) : joinC [x] = item x := by rw [joinC, List.append_nil]
theorem joinC_two (x y : S31) (l : List S31) : joinC (x :: y :: l) = item x ++ 44 :: joinC (y :: l) := by rw [joinC]

/-! What stands in quotes -/
theorem unq_esc_app (u acc r : List UInt8) : unq acc (u.flatMap esc ++ 34 :: r) = some (acc ++ u, r) := by
  induction u generalizing acc with
  | nil => rw [List.flatMap_nil, List.nil_append, unq_end, List.append_nil]
  | cons c u ih =>
    rw [List.flatMap_cons]
    by_cases h : c = 34 ∨ c = 92
    · rw [show esc c = [92, c] by unfold esc; rw [if_pos h]]
      rw [show ([92, c] ++ u.flatMap esc) ++ 34 :: r = 92 :: c :: (u.flatMap esc ++ 34 :: r) by simp, unq_esc h, ih]
      simp
    · rw [show esc c = [c] by unfold esc; rw [if_neg h]]
      rw [show ([c] ++ u.flatMap esc) ++ 34 :: r = c :: (u.flatMap esc ++ 34 :: r) by simp, unq_one (fun e => h (.inl e)) (fun e => h (.inr e)), ih]
      simp
theorem unq_sound (n : Nat) : ∀ (l acc v r : List UInt8), l.length ≤ n → unq acc l = some (v, r) → ∃ u, v = acc ++ u ∧ l = u.flatMap esc ++ 34 :: r := by
  induction n with
  | zero =>
    intro l acc v r hl h
    rw [List.length_eq_zero_iff.1 (Nat.le_zero.1 hl), unq_nil] at h
    cases h
  | succ n ih =>
    intro l acc v r hl h
    cases l with
    | nil => rw [unq_nil] at h; cases h
    | cons c m =>
      by_cases h34 : c = 34
      · subst h34
        rw [unq_end] at h
        simp only [Option.some.injEq, Prod.mk.injEq] at h
        exact ⟨[], by simp [h.1], by simp [h.2]⟩
      · by_cases h92 : c = 92
        · subst h92
          cases m with
          | nil => rw [unq_last] at h; cases h
          | cons d m =>
            by_cases hd : d = 34 ∨ d = 92
            · rw [unq_esc hd] at h
              obtain ⟨u, hu, hm⟩ := ih m _ v r (by simp at hl; omega) h
              refine ⟨d :: u, by rw [hu]; simp, ?_⟩
              rw [List.flatMap_cons, show esc d = [92, d] by unfold esc; rw [if_pos hd], hm]
              simp
            · rw [unq_bad (fun e => hd (.inl e)) (fun e => hd (.inr e))] at h
              cases h
        · rw [unq_one h34 h92] at h
          obtain ⟨u, hu, hm⟩ := ih m _ v r (by simp at hl; omega) h
          refine ⟨c :: u, by rw [hu]; simp, ?_⟩
          rw [List.flatMap_cons, show esc c = [c] by unfold esc; rw [if_neg (fun e => e.elim h34 h92)], hm]
          simp
theorem quotedL_app (u r : List UInt8) : quotedL (quoteL u ++ r) = some (u, r) := by
  unfold quoteL quotedL
  rw [List.cons_append]
  simp only [if_true]
  rw [List.append_assoc]
  have := unq_esc_app u [] r
  simpa using this
theorem quotedL_sound {l v r : List UInt8} (h : quotedL l = some (v, r)) : l = quoteL v ++ r := by
  unfold quotedL at h
  cases l with
  | nil => cases h
  | cons c m =>
    simp only at h
    by_cases hc : c = 34
    · rw [if_pos hc] at h
      obtain ⟨u, hu, hm⟩ := unq_sound m.length m [] v r (Nat.le_refl _) h
      rw [List.nil_append] at hu
      subst hu
      rw [hm, hc]
      unfold quoteL
      simp
    · rw [if_neg hc] at h
      cases h

/-! One label -/
def markU (c : UInt8) : Bool := markB c.toNat
def spanL (l : List UInt8) : Nat := (l.takeWhile markU).length
theorem spanL_le (l : List UInt8) : spanL l ≤ l.length := (List.takeWhile_sublist _).length_le
theorem spanL_cons (c : UInt8) (l : List UInt8) : spanL (c :: l) = if markU c = true then spanL l + 1 else 0 := by
  unfold spanL
  rw [List.takeWhile_cons]
  split <;> simp
theorem spanL_app (n t : List UInt8) (hn : n.all markU = true) : spanL (n ++ 61 :: t) = n.length := by
  induction n with
  | nil => rw [List.nil_append, spanL_cons, if_neg (by decide)]; rfl
  | cons c n ih =>
    rw [List.all_cons, Bool.and_eq_true] at hn
    rw [List.cons_append, spanL_cons, if_pos hn.1, ih hn.2, List.length_cons]
/-- A label that begins a text: the label, and what stands behind it. -/
def labL (l : List UInt8) : Option (S31 × List UInt8) := match l.drop (spanL l) with
  | [] => none
  | c :: t => if c = 61 then (match quotedL t with | none => none | some (v, r) => some (⟨str (l.take (spanL l)), str v⟩, r)) else none
theorem labL_sound {l : List UInt8} {x : S31} {r : List UInt8} (h : labL l = some (x, r)) : l = item x ++ r := by
  unfold labL at h
  cases hd : l.drop (spanL l) with
  | nil => rw [hd] at h; cases h
  | cons c t =>
    rw [hd] at h
    simp only at h
    by_cases hc : c = 61
    · rw [if_pos hc] at h
      cases hq : quotedL t with
      | none => rw [hq] at h; cases h
      | some p =>
        obtain ⟨v, r'⟩ := p
        rw [hq] at h
        simp only [Option.some.injEq, Prod.mk.injEq] at h
        obtain ⟨rfl, rfl⟩ := h
        have ht := quotedL_sound hq
        unfold item
        rw [B_str, B_str, List.append_assoc, List.cons_append, ← ht, ← hc, ← hd, List.take_append_drop]
    · rw [if_neg hc] at h
      cases h
theorem name_marks {s : ByteArray} (h : mayName s = true) : (B s).all markU = true := by
  unfold mayName at h
  simp only [Bool.and_eq_true] at h
  exact h.2.2.2
theorem labL_app {x : S31} (hx : mayName x.f0 = true) (r : List UInt8) : labL (item x ++ r) = some (x, r) := by
  have hs : spanL (item x ++ r) = (B x.f0).length := by
    unfold item
    rw [List.append_assoc, List.cons_append]
    exact spanL_app _ _ (name_marks hx)
  unfold labL
  rw [hs]
  have hd : (item x ++ r).drop (B x.f0).length = 61 :: (quoteL (B x.f1) ++ r) := by
    unfold item
    rw [List.append_assoc, List.drop_left]
    rfl
  have ht : (item x ++ r).take (B x.f0).length = B x.f0 := by
    unfold item
    rw [List.append_assoc, List.take_left]
  rw [hd, ht]
  simp only [if_true, quotedL_app, str_B]

/-! The program's loop -/
abbrev Res := List S31 × ByteArray × Int
abbrev errR : Res := ([], ⟨#[]⟩, 70)
theorem cut_eq (a p : ByteArray) (hp : p.size ≤ 9223372036854775807) : strings_CutPrefix.f a p = if (B p).isPrefixOf (B a) = true then some (str ((B a).drop p.size), true) else some (a, false) := by
  unfold strings_CutPrefix.f stringslite_CutPrefix.f
  have h := prefix_eq a p
  unfold strings_HasPrefix.f at h
  have h' : stringslite_HasPrefix.f a p = some ((B p).isPrefixOf (B a)) := by
    cases hx : stringslite_HasPrefix.f a p with
    | none => rw [hx] at h; cases h
    | some b => rw [hx] at h; exact h
  rw [h', Option.bind_some]
  cases hb : (B p).isPrefixOf (B a) with
  | true =>
    have hl := (List.isPrefixOf_iff_prefix.1 hb).length_le
    rw [data_length, data_length] at hl
    rw [if_pos rfl, if_pos rfl, if_pos (by omega), if_pos (by omega), Option.bind_some, Int.toNat_natCast, extract_str]
  | false => rfl
theorem cut_one (a : ByteArray) (c : UInt8) : strings_CutPrefix.f a ⟨#[c]⟩ = match B a with | [] => some (a, false) | d :: m => if d = c then some (str m, true) else some (a, false) := by
  rw [cut_eq a ⟨#[c]⟩ (by have : (⟨#[c]⟩ : ByteArray).size = 1 := rfl; omega)]
  have h : (B ⟨#[c]⟩).isPrefixOf (B a) = ((B a).head? == some c) := prefix_one a c
  rw [h]
  cases hb : B a with
  | nil => simp
  | cons d m =>
    by_cases hc : d = c
    · subst hc
      rw [if_pos (by simp)]
      simp only [if_true]
      rfl
    · rw [if_neg (by simpa using hc)]
      simp only [if_neg hc]
theorem span_ev (acc : List S31) (rest : ByteArray) (hs : rest.size ≤ 9223372036854775807) {r : Res} : ∀ (d : Nat) (x : Int), 0 ≤ x → x ≤ rest.size → (rest.size : Int) - x = d →
    Ev (fun k => labels_Parse.j3 k acc rest (x + (spanL ((B rest).drop x.toNat) : Int))) r → Ev (fun k => labels_Parse.l1 k acc rest x) r := by
  intro d
  induction d with
  | zero =>
    intro x h0 h1 hd h
    rw [drop_end rest x (by omega)] at h
    refine Ev.step (fun k => by rw [labels_Parse.l1, if_neg (by omega)]) ?_
    simpa [spanL] using h
  | succ d ih =>
    intro x h0 h1 hd h
    have hx : x < rest.size := by omega
    obtain ⟨c, hc, hdr⟩ := drop_bt rest x h0 hx
    rw [hdr, spanL_cons] at h
    refine Ev.step (fun k => by rw [labels_Parse.l1, if_pos hx, if_pos h0, mark_eq, Option.bind_some, hc]) ?_
    by_cases hm : markB (c.toNat : Int) = true
    · rw [if_pos (show markU c = true from hm)] at h
      refine ev_pos hm ?_
      rw [w64 (by omega) (by omega)]
      refine ih (x + 1) (by omega) (by omega) (by omega) ?_
      rw [show x + 1 + (spanL ((B rest).drop (x + 1).toNat) : Int) = x + ((spanL ((B rest).drop (x + 1).toNat) + 1 : Nat) : Int) by omega]
      exact h
    · rw [if_neg (show ¬ markU c = true from hm)] at h
      refine ev_neg hm ?_
      simpa using h
theorem l0_j3 {acc : List S31} {rest : ByteArray} (hs : rest.size ≤ 9223372036854775807) {r : Res} (h : Ev (fun k => labels_Parse.j3 k acc rest (spanL (B rest) : Int)) r) : Ev (fun k => labels_Parse.l0 k acc rest true) r := by
  refine Ev.step (fun k => by rw [labels_Parse.l0, if_pos rfl]) ?_
  refine span_ev acc rest hs rest.size 0 (by omega) (by omega) (by omega) ?_
  simpa using h
theorem take_str (s : ByteArray) (n : Nat) : s.extract 0 n = str ((B s).take n) := by
  rw [Lib.extract_eq, List.drop_zero, Nat.sub_zero]
  rfl
theorem j4_true (acc : List S31) (rest : ByteArray) (ok : Bool) : Ev (fun k => labels_Parse.j4 k acc rest ok true) errR := Ev.step (fun k => by rw [labels_Parse.j4, if_pos rfl]) (Ev.now _)
theorem bt_zero (c : UInt8) (m : List UInt8) : bt (str (c :: m)) 0 = (c.toNat : Int) := by
  have h := bt_list (str (c :: m)) 0 (by simp [str])
  exact h
theorem extract_one (c : UInt8) (m : List UInt8) : (str (c :: m)).extract 1 (str (c :: m)).size = str m := by
  rw [extract_str]
  rfl
/-- What one round comes to. -/
theorem round (acc : List S31) (rest : ByteArray) (hs : rest.size ≤ 140737488351232) (ha : acc.length ≤ 1000) {q : Res}
    (h : (match labL (B rest) with | none => q = errR | some (x, r) => if mayB (acc ++ [x]) = true then (match r with | [] => q = errR | c :: m => if c = 125 then q = (acc ++ [x], str m, 0) else if c = 44 then Ev (fun k => labels_Parse.l0 k (acc ++ [x]) (str m) true) q else q = errR) else q = errR)) :
    Ev (fun k => labels_Parse.l0 k acc rest true) q := by
  refine l0_j3 (by omega) ?_
  have hsp := spanL_le (B rest)
  rw [data_length] at hsp
  refine Ev.step (fun k => by rw [labels_Parse.j3, if_pos (by omega), if_pos (by omega), Int.toNat_natCast, extract_str]) ?_
  rw [cut_one, B_str]
  unfold labL at h
  cases hd : (B rest).drop (spanL (B rest)) with
  | nil =>
    rw [hd] at h
    simp only at h
    subst h
    exact ev_bsome (ev_neg (by simp) (Ev.now _))
  | cons c t =>
    rw [hd] at h
    simp only at h
    by_cases hc : c = 61
    · rw [if_pos hc] at h
      simp only [if_pos hc]
      refine ev_bsome (ev_pos rfl ?_)
      have htl : t.length ≤ rest.size := by
        have : ((B rest).drop (spanL (B rest))).length = (c :: t).length := by rw [hd]
        rw [List.length_drop, data_length, List.length_cons] at this
        omega
      unfold labels_quoted.f
      rw [if_pos (by rw [size_str]; omega)]
      rw [show (str t).data.toList = t from rfl]
      cases hq : quotedL t with
      | none =>
        rw [hq] at h
        simp only at h
        subst h
        simp only
        refine ev_bsome (ev_pos (by omega) (ev_bsome (ev_neg (by simp) ?_)))
        exact j4_true _ _ _
      | some p =>
        obtain ⟨v, r⟩ := p
        rw [hq] at h
        simp only at h ⊢
        refine ev_bsome (ev_pos (by omega) (ev_bsome (ev_pos rfl ?_)))
        rw [take_str]
        refine Ev.bind (may _ (by simp; omega)) ?_
        by_cases hm : mayB (acc ++ [(⟨str ((B rest).take (spanL (B rest))), str v⟩ : S31)]) = true
        · rw [if_pos hm] at h
          refine ev_pos hm ?_
          cases r with
          | nil =>
            simp only at h
            subst h
            rw [ByteArray.toList_eq]
            exact j4_true _ _ _
          | cons c m =>
            simp only at h
            rw [ByteArray.toList_eq]
            refine Ev.step (fun k => by rw [labels_Parse.j4, if_neg (by simp [str]), if_pos (by rw [size_str]; simp), if_pos (by rw [size_str]; simp; omega), bt_zero, extract_one]) ?_
            by_cases h125 : c = 125
            · rw [if_pos h125] at h
              subst h
              exact ev_pos (by rw [h125]; rfl) (Ev.now _)
            · rw [if_neg h125] at h
              refine ev_neg (fun e => h125 (UInt8.toNat_inj.1 (by have : (125 : UInt8).toNat = 125 := rfl; omega))) ?_
              by_cases h44 : c = 44
              · rw [if_pos h44] at h
                exact ev_pos (by rw [h44]; rfl) h
              · rw [if_neg h44] at h
                subst h
                exact ev_neg (fun e => h44 (UInt8.toNat_inj.1 (by have : (44 : UInt8).toNat = 44 := rfl; omega))) (Ev.now _)
        · rw [if_neg hm] at h
          subst h
          exact ev_neg hm (j4_true _ _ _)
    · rw [if_neg hc] at h
      subst h
      simp only [if_neg hc]
      exact ev_bsome (ev_neg (by simp) (Ev.now _))
/-- What the loop tells is either nothing, or what stands there. -/
theorem loop_sound (n : Nat) : ∀ (acc : List S31) (rest : ByteArray), rest.size ≤ n → rest.size ≤ 140737488351232 → acc.length ≤ 4 →
    ∃ q, Ev (fun k => labels_Parse.l0 k acc rest true) q ∧ (q = errR ∨ ∃ l m, l ≠ [] ∧ mayB (acc ++ l) = true ∧ B rest = joinC l ++ 125 :: m ∧ q = (acc ++ l, str m, 0)) := by
  induction n with
  | zero =>
    intro acc rest h0 hs ha
    refine ⟨errR, round acc rest hs (by omega) ?_, .inl rfl⟩
    have hn : B rest = [] := List.length_eq_zero_iff.1 (by rw [data_length]; omega)
    rw [hn]
    rfl
  | succ n ih =>
    intro acc rest h0 hs ha
    cases hl : labL (B rest) with
    | none => exact ⟨errR, round acc rest hs (by omega) (by rw [hl]), .inl rfl⟩
    | some p =>
      obtain ⟨x, r⟩ := p
      have hrest := labL_sound hl
      by_cases hm : mayB (acc ++ [x]) = true
      · cases r with
        | nil => exact ⟨errR, round acc rest hs (by omega) (by rw [hl]; simp only [if_pos hm]), .inl rfl⟩
        | cons c m =>
          by_cases h125 : c = 125
          · refine ⟨(acc ++ [x], str m, 0), round acc rest hs (by omega) (by rw [hl]; simp only [if_pos hm, if_pos h125]), .inr ⟨[x], m, by simp, hm, ?_, rfl⟩⟩
            rw [hrest, joinC_one, h125]
          · by_cases h44 : c = 44
            · have hlen : (str m).size + 1 ≤ rest.size := by
                have : (B rest).length = (item x ++ c :: m).length := by rw [hrest]
                rw [data_length, List.length_append, List.length_cons] at this
                rw [size_str]
                omega
              obtain ⟨q, hq, hor⟩ := ih (acc ++ [x]) (str m) (by omega) (by omega) (may_small hm).1
              refine ⟨q, round acc rest hs (by omega) (by rw [hl]; simp only [if_pos hm, if_neg h125, if_pos h44]; exact hq), ?_⟩
              rcases hor with rfl | ⟨l, m', hne, hml, hB, rfl⟩
              · exact .inl rfl
              · refine .inr ⟨x :: l, m', by simp, by simpa using hml, ?_, by simp⟩
                rw [hrest, h44]
                rw [B_str] at hB
                cases l with
                | nil => exact absurd rfl hne
                | cons y l => rw [joinC_two, hB, List.append_assoc, List.cons_append]
            · exact ⟨errR, round acc rest hs (by omega) (by rw [hl]; simp only [if_pos hm, if_neg h125, if_neg h44]), .inl rfl⟩
      · exact ⟨errR, round acc rest hs (by omega) (by rw [hl]; simp only [if_neg hm]), .inl rfl⟩
theorem okL_snoc : ∀ {l m : List S31} {p : Option S31}, okL p (l ++ m) = true → okL p l = true
  | [], _, _, _ => rfl
  | x :: l, m, p, h => by
    rw [List.cons_append, okL.eq_def] at h
    rw [okL.eq_def]
    simp only [Bool.and_eq_true] at h ⊢
    exact ⟨h.1, h.2.1, h.2.2.1, okL_snoc h.2.2.2⟩
theorem may_prefix {l m : List S31} (h : mayB (l ++ m) = true) : mayB l = true := by
  unfold mayB at h ⊢
  rw [Bool.and_eq_true, decide_eq_true_eq, List.length_append] at h
  rw [Bool.and_eq_true, decide_eq_true_eq]
  exact ⟨okL_snoc h.1, by omega⟩
theorem loop_back : ∀ (l : List S31) (x : S31) (acc : List S31) (rest : ByteArray) (m : List UInt8), rest.size ≤ 140737488351232 → acc.length ≤ 4 → mayB (acc ++ x :: l) = true → B rest = joinC (x :: l) ++ 125 :: m →
    Ev (fun k => labels_Parse.l0 k acc rest true) (acc ++ x :: l, str m, 0)
  | [], x, acc, rest, m, hs, ha, hm, hB => by
    have hx := (may_small hm).2 x (by simp)
    refine round acc rest hs (by omega) ?_
    rw [hB, joinC_one, labL_app hx.1]
    simp only [if_pos hm, if_true]
  | y :: l, x, acc, rest, m, hs, ha, hm, hB => by
    have hx := (may_small hm).2 x (by simp)
    have hm' : mayB (acc ++ [x]) = true := may_prefix (m := y :: l) (by simpa using hm)
    refine round acc rest hs (by omega) ?_
    rw [hB, joinC_two, List.append_assoc, labL_app hx.1]
    simp only [if_pos hm', List.cons_append, show ¬ ((44 : UInt8) = 125) by decide, if_false, if_true]
    have hlen : (str (joinC (y :: l) ++ 125 :: m)).size ≤ rest.size := by
      have h1 : (B rest).length = (joinC (x :: y :: l) ++ 125 :: m).length := by rw [hB]
      rw [data_length, joinC_two, List.length_append, List.length_append, List.length_cons] at h1
      rw [size_str, List.length_append]
      omega
    have := loop_back l y (acc ++ [x]) (str (joinC (y :: l) ++ 125 :: m)) m (by omega) (may_small hm').1 (by simpa using hm) rfl
    simpa using this
/-! Whole texts -/
theorem parse_start (s : ByteArray) {q : Res} (h : (match B s with | [] => q = errR | c :: t => if c = 123 then (match t with | 125 :: m => q = ([], str m, 0) | _ => Ev (fun k => labels_Parse.l0 k [] (str t) true) q) else q = errR)) : Ev (fun k => labels_Parse.f k s) q := by
  unfold labels_Parse.f
  have hfalse : ∀ (a b : ByteArray) (i : Bool), Ev (fun k => labels_Parse.j0 k [] a false b false) errR := fun a b i =>
    Ev.step (fun k => by rw [labels_Parse.j0, if_neg (by simp)]) (Ev.step (fun k => by rw [labels_Parse.l0, if_neg (by simp)]) (Ev.now _))
  have hcut : ∀ (a : ByteArray) (F : Nat → ByteArray × Bool → Option Res), (∀ b i, Ev (fun k => F k (b, i)) q) → Ev (fun k => (strings_CutPrefix.f a ⟨#[125]⟩).bind (F k)) q := by
    intro a F hF
    rw [cut_one]
    cases B a with
    | nil => exact ev_bsome (hF _ _)
    | cons d m =>
      simp only
      by_cases hd : d = 125
      · rw [if_pos hd]
        exact ev_bsome (hF _ _)
      · rw [if_neg hd]
        exact ev_bsome (hF _ _)
  rw [cut_one]
  cases hB : B s with
  | nil =>
    rw [hB] at h
    simp only at h
    subst h
    exact ev_bsome (hcut _ _ (fun b i => ev_neg (by simp) (hfalse _ _ true)))
  | cons c t =>
    rw [hB] at h
    simp only at h ⊢
    by_cases hc : c = 123
    · rw [if_pos hc] at h
      rw [if_pos hc]
      refine ev_bsome ?_
      rw [cut_one, B_str]
      cases t with
      | nil =>
        simp only at h ⊢
        refine ev_bsome (ev_pos trivial (Ev.step (fun k => by rw [labels_Parse.j0, if_neg (by simp)]) h))
      | cons d m =>
        by_cases hd : d = 125
        · subst hd
          simp only at h
          subst h
          simp only [if_true]
          exact ev_bsome (Ev.step (fun k => by rw [labels_Parse.j0, if_pos rfl]) (Ev.now _))
        · simp only [if_neg hd]
          refine ev_bsome (ev_pos trivial (Ev.step (fun k => by rw [labels_Parse.j0, if_neg (by simp)]) ?_))
          split at h
          · rename_i heq
            exact absurd (List.cons.inj heq).1 hd
          · exact h
    · rw [if_neg hc] at h
      subst h
      rw [if_neg hc]
      exact ev_bsome (hcut _ _ (fun b i => ev_neg (by simp) (hfalse _ _ true)))
theorem joinC_head (x : S31) (l : List S31) (hx : mayName x.f0 = true) (m : List UInt8) : ∀ d t, joinC (x :: l) ++ m = d :: t → d ≠ 125 := by
  intro d t h e
  subst e
  have h0 : 1 ≤ (B x.f0).length := by
    unfold mayName at hx
    simp only [Bool.and_eq_true, decide_eq_true_eq] at hx
    rw [data_length]
    exact hx.1
  have hm := name_marks hx
  cases hn : B x.f0 with
  | nil => rw [hn] at h0; simp at h0
  | cons c n =>
    rw [hn, List.all_cons, Bool.and_eq_true] at hm
    obtain ⟨u, hj⟩ : ∃ u, joinC (x :: l) = item x ++ u := by
      cases l with
      | nil => exact ⟨[], by rw [joinC_one, List.append_nil]⟩
      | cons y l => exact ⟨_, joinC_two x y l⟩
    rw [hj] at h
    unfold item at h
    rw [hn] at h
    simp only [List.cons_append, List.append_assoc] at h
    rw [(List.cons.inj h).1] at hm
    exact absurd hm.1 (by decide)
/-- What is written is read. -/
theorem parse_back (s : ByteArray) (hs : s.size ≤ 140737488351232) (l : List S31) (m : List UInt8) (hm : mayB l = true) (hB : B s = printL l ++ m) : Ev (fun k => labels_Parse.f k s) (l, str m, 0) := by
  refine parse_start s ?_
  rw [hB]
  unfold printL
  simp only [List.cons_append, if_true, List.append_assoc, List.nil_append]
  cases l with
  | nil => rfl
  | cons x l =>
    have hx := (may_small hm).2 x (by simp)
    have hE : Ev (fun k => labels_Parse.l0 k [] (str (joinC (x :: l) ++ 125 :: m)) true) (x :: l, str m, 0) := by
      refine loop_back l x [] _ m ?_ (by simp) hm rfl
      have h1 : (B s).length = (printL (x :: l) ++ m).length := by rw [hB]
      unfold printL at h1
      rw [data_length, List.length_append, List.length_cons, List.length_append, List.length_singleton] at h1
      rw [size_str, List.length_append, List.length_cons]
      omega
    split
    · rename_i heq
      exact absurd rfl (joinC_head x l hx.1 _ _ _ heq)
    · exact hE
/-- What is told is nothing, or it is written so. -/
theorem parse_sound (s : ByteArray) (hs : s.size ≤ 140737488351232) : ∃ q, Ev (fun k => labels_Parse.f k s) q ∧ (q = errR ∨ ∃ l m, mayB l = true ∧ B s = printL l ++ m ∧ q = (l, str m, 0)) := by
  cases hB : B s with
  | nil => exact ⟨errR, parse_start s (by rw [hB]), .inl rfl⟩
  | cons c t =>
    by_cases hc : c = 123
    · by_cases ht : ∃ m, t = 125 :: m
      · obtain ⟨m, rfl⟩ := ht
        refine ⟨([], str m, 0), parse_start s (by rw [hB]; simp only [if_pos hc]), .inr ⟨[], m, rfl, ?_, rfl⟩⟩
        rw [hc]
        rfl
      · have hl : (str t).size ≤ 140737488351232 := by
          have : (B s).length = (c :: t).length := by rw [hB]
          rw [data_length, List.length_cons] at this
          rw [size_str]
          omega
        obtain ⟨q, hq, hor⟩ := loop_sound (str t).size [] (str t) (Nat.le_refl _) hl (by simp)
        refine ⟨q, parse_start s ?_, ?_⟩
        · rw [hB]
          simp only [if_pos hc]
          split
          · rename_i m _
            exact absurd ⟨_, rfl⟩ ht
          · exact hq
        · rcases hor with rfl | ⟨l, m, _, hm, hBt, rfl⟩
          · exact .inl rfl
          · refine .inr ⟨l, m, by simpa using hm, ?_, by simp⟩
            rw [B_str] at hBt
            rw [hc, hBt]
            unfold printL
            simp
    · exact ⟨errR, parse_start s (by rw [hB]; simp only [if_neg hc]), .inl rfl⟩
end Go.Proofs.Ytiicfejaoilfcaa.Pure
