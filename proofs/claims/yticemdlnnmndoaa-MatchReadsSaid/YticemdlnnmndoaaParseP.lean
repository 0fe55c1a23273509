/- Plain laws of the program's reader of matchers: what it reads is written so, and what is written so it reads. -/
import Derived.Test.YticemdlnnmndoaaQ14
import Derived.Test.YticemdlnnmndoaaQ13
import Derived.Test.YticemdlnnmndoaaTellsP
namespace Go.Proofs.Yticemdlnnmndoaa.Pure
open Go.RowKit Go.Proofs.YticemdlnnmndoaaW.PrintWords Go.Proofs.YticemdlnnmndoaaW.PrintLast Go.Proofs.Yticemdlnnmndoaa.Q
set_option linter.unusedVariables false
set_option linter.unusedSimpArgs false

/-! What stands in quotes -/
theorem unq_esc_app (u acc r : List UInt8) : unq acc (u.flatMap esc ++ 34 :: r) = some (acc ++ u, r) := by
  induction u generalizing acc with
  | nil => rw [List.flatMap_nil, List.nil_append, unq_end, List.append_nil]
  | cons c u ih =>
    rw [List.flatMap_cons]
    by_cases h : c = 34 ∨ c = 92
    · rw [show esc c = [92, c] by unfold esc; rw [if_pos h]]
      rw [show ([92, c] ++ u.flatMap esc) ++ 34 :: r = 92 :: c :: (u.flatMap esc ++ 34 :: r) by simp, unq_esc h, ih]
      simp
    · rw [show esc c = [c] by unfold esc; rw [if_neg h]]
      rw [show ([c] ++ u.flatMap esc) ++ 34 :: r = c :: (u.flatMap esc ++ 34 :: r) by simp, unq_one (fun e => h (.inl e)) (fun e => h (.inr e)), ih]
      simp
theorem unq_sound (n : Nat) : ∀ (l acc v r : List UInt8), l.length ≤ n → unq acc l = some (v, r) → ∃ u, v = acc ++ u ∧ l = u.flatMap esc ++ 34 :: r := by
  induction n with
  | zero =>
    intro l acc v r hl h
    rw [List.length_eq_zero_iff.1 (Nat.le_zero.1 hl), unq_nil] at h
    cases h
  | succ n ih =>
    intro l acc v r hl h
    cases l with
    | nil => rw [unq_nil] at h; cases h
    | cons c m =>
      by_cases h34 : c = 34
      · subst h34
        rw [unq_end] at h
        simp only [Option.some.injEq, Prod.mk.injEq] at h
        exact ⟨[], by simp [h.1], by simp [h.2]⟩
      · by_cases h92 : c = 92
        · subst h92
          cases m with
          | nil => rw [unq_last] at h; cases h
          | cons d m =>
            by_cases hd : d = 34 ∨ d = 92
            · rw [unq_esc hd] at h
              obtain ⟨u, hu, hm⟩ := ih m _ v r (by simp at hl; omega) h
              refine ⟨d :: u, by rw [hu]; simp, ?_⟩
              rw [List.flatMap_cons, show esc d = [92, d] by unfold esc; rw [if_pos hd], hm]
              simp
            · rw [unq_bad (fun e => hd (.inl e)) (fun e => hd (.inr e))] at h
              cases h
        · rw [unq_one h34 h92] at h
          obtain ⟨u, hu, hm⟩ := ih m _ v r (by simp at hl; omega) h
          refine ⟨c :: u, by rw [hu]; simp, ?_⟩
          rw [List.flatMap_cons, show esc c = [c] by unfold esc; rw [if_neg (fun e => e.elim h34 h92)], hm]
          simp
theorem quotedL_app (u r : List UInt8) : quotedL (quoteL u ++ r) = some (u, r) := by
  unfold quoteL quotedL
  rw [List.cons_append]
  simp only [if_true]
  rw [List.append_assoc]
  have := unq_esc_app u [] r
  simpa using this
theorem quotedL_sound {l v r : List UInt8} (h : quotedL l = some (v, r)) : l = quoteL v ++ r := by
  unfold quotedL at h
  cases l with
  | nil => cases h
  | cons c m =>
    simp only at h
    by_cases hc : c = 34
    · rw [if_pos hc] at h
      obtain ⟨u, hu, hm⟩ := unq_sound m.length m [] v r (Nat.le_refl _) h
      rw [List.nil_append] at hu
      subst hu
      rw [hm, hc]
      unfold quoteL
      simp
    · rw [if_neg hc] at h
      cases h


/-! One matcher -/
theorem spanO_app (n t : List UInt8) (c : UInt8) (hc : inSet c = true) (hn : n.all outSet = true) : spanO (n ++ c :: t) = n.length := by
  induction n with
  | nil => rw [List.nil_append, spanO_cons, if_pos hc]; rfl
  | cons d n ih =>
    rw [List.all_cons, Bool.and_eq_true] at hn
    have hd : ¬ inSet d = true := by
      have := hn.1
      unfold outSet at this
      simpa using this
    rw [List.cons_append, spanO_cons, if_neg hd, ih hn.2, List.length_cons]
theorem cutO_sound {l r : List UInt8} {q : Int} (h : cutO l = some (q, r)) : l = B (sgn q) ++ r := by
  unfold cutO at h
  cases l with
  | nil => cases h
  | cons c m =>
    simp only at h
    by_cases a : c = 61
    · rw [if_pos a] at h
      simp only [Option.some.injEq, Prod.mk.injEq] at h
      obtain ⟨rfl, rfl⟩ := h
      rw [a]
      rfl
    · rw [if_neg a] at h
      cases m with
      | nil => cases h
      | cons d m =>
        simp only at h
        by_cases b : c = 33 ∧ d = 61
        · rw [if_pos b] at h
          simp only [Option.some.injEq, Prod.mk.injEq] at h
          obtain ⟨rfl, rfl⟩ := h
          rw [b.1, b.2]
          rfl
        · rw [if_neg b] at h
          by_cases e : c = 94 ∧ d = 61
          · rw [if_pos e] at h
            simp only [Option.some.injEq, Prod.mk.injEq] at h
            obtain ⟨rfl, rfl⟩ := h
            rw [e.1, e.2]
            rfl
          · rw [if_neg e] at h
            cases h
theorem cutO_app {q : Int} (hq : q = 0 ∨ q = 1 ∨ q = 2) (t : List UInt8) : cutO (B (sgn q) ++ t) = some (q, t) := by
  rcases hq with rfl | rfl | rfl
  · rfl
  · rfl
  · rfl
theorem sgn_head {q : Int} (hq : q = 0 ∨ q = 1 ∨ q = 2) : ∃ c t, B (sgn q) = c :: t ∧ inSet c = true := by
  rcases hq with rfl | rfl | rfl
  · exact ⟨61, [], rfl, rfl⟩
  · exact ⟨33, [61], rfl, rfl⟩
  · exact ⟨94, [61], rfl, rfl⟩
/-- A matcher that begins a text: the matcher, and what stands behind it. -/
def oneM (l : List UInt8) : Option (S30 × List UInt8) := match cutO (l.drop (spanO l)) with
  | none => none
  | some (q, r) => match quotedL r with
    | none => none
    | some (v, r') => some (⟨str (l.take (spanO l)), q, str v⟩, r')
theorem oneM_sound {l : List UInt8} {x : S30} {r : List UInt8} (h : oneM l = some (x, r)) : l = itemM x ++ r := by
  unfold oneM at h
  cases hc : cutO (l.drop (spanO l)) with
  | none => rw [hc] at h; cases h
  | some p =>
    obtain ⟨q, t⟩ := p
    rw [hc] at h
    simp only at h
    cases hq : quotedL t with
    | none => rw [hq] at h; cases h
    | some p =>
      obtain ⟨v, r'⟩ := p
      rw [hq] at h
      simp only [Option.some.injEq, Prod.mk.injEq] at h
      obtain ⟨rfl, rfl⟩ := h
      have h1 := cutO_sound hc
      have h2 := quotedL_sound hq
      unfold itemM
      rw [B_str, B_str, List.append_assoc, List.append_assoc, ← h2, ← h1, List.take_append_drop]
theorem name_out {s : ByteArray} (h : mayName s = true) : (B s).all outSet = true := by
  unfold mayName at h
  simp only [Bool.and_eq_true] at h
  have h2 : (B s).all (fun b => markB b.toNat) = true := h.2.2.2
  rw [List.all_eq_true] at h2 ⊢
  intro c hc
  have := (mark_cases _).1 (h2 c hc)
  unfold outSet inSet
  have e1 : (c == 61) = false := by rw [beq_eq_false_iff_ne]; rintro rfl; revert this; decide
  have e2 : (c == 33) = false := by rw [beq_eq_false_iff_ne]; rintro rfl; revert this; decide
  have e3 : (c == 94) = false := by rw [beq_eq_false_iff_ne]; rintro rfl; revert this; decide
  rw [e1, e2, e3]
  rfl
theorem oneM_app {x : S30} (hx : okM x = true) (r : List UInt8) : oneM (itemM x ++ r) = some (x, r) := by
  obtain ⟨hq, hn, -, -⟩ := okM_small hx
  obtain ⟨c, t, hs, hc⟩ := sgn_head hq
  have hsp : spanO (itemM x ++ r) = (B x.f0).length := by
    unfold itemM
    rw [hs, List.append_assoc, List.cons_append, List.cons_append]
    exact spanO_app _ _ _ hc (name_out hn)
  unfold oneM
  rw [hsp]
  have hd : (itemM x ++ r).drop (B x.f0).length = B (sgn x.f1) ++ (quoteL (B x.f2) ++ r) := by
    unfold itemM
    rw [List.append_assoc, List.drop_left, List.append_assoc]
  have ht : (itemM x ++ r).take (B x.f0).length = B x.f0 := by
    unfold itemM
    rw [List.append_assoc, List.take_left]
  rw [hd, ht, cutO_app hq]
  simp only [quotedL_app, str_B]
theorem oneL_some {s : ByteArray} {x : S30} {r : List UInt8} (h : oneM (B s) = some (x, r)) : oneL s = (x.f0, x.f1, x.f2, str r, true) := by
  unfold oneM at h
  unfold oneL
  cases hc : cutO ((B s).drop (spanO (B s))) with
  | none => rw [hc] at h; cases h
  | some p =>
    obtain ⟨q, t⟩ := p
    rw [hc] at h
    simp only at h ⊢
    cases hq : quotedL t with
    | none => rw [hq] at h; cases h
    | some p =>
      obtain ⟨v, r'⟩ := p
      rw [hq] at h
      simp only [Option.some.injEq, Prod.mk.injEq] at h
      obtain ⟨rfl, rfl⟩ := h
      rfl
theorem oneL_none {s : ByteArray} (h : oneM (B s) = none) : (oneL s).2.2.2.2 = false := by
  unfold oneM at h
  unfold oneL
  cases hc : cutO ((B s).drop (spanO (B s))) with
  | none => rfl
  | some p =>
    obtain ⟨q, t⟩ := p
    rw [hc] at h
    simp only at h ⊢
    cases hq : quotedL t with
    | none => rfl
    | some p => rw [hq] at h; cases h

/-! The program's loop -/
abbrev Res := List S30 × ByteArray × Int
abbrev errR : Res := ([], ⟨#[]⟩, 80)
theorem cut_eq (a p : ByteArray) (hp : p.size ≤ 9223372036854775807) : strings_CutPrefix.f a p = if (B p).isPrefixOf (B a) = true then some (str ((B a).drop p.size), true) else some (a, false) := by
  unfold strings_CutPrefix.f stringslite_CutPrefix.f
  have h := prefix_eq a p
  unfold strings_HasPrefix.f at h
  have h' : stringslite_HasPrefix.f a p = some ((B p).isPrefixOf (B a)) := by
    cases hx : stringslite_HasPrefix.f a p with
    | none => rw [hx] at h; cases h
    | some b => rw [hx] at h; exact h
  rw [h', Option.bind_some]
  cases hb : (B p).isPrefixOf (B a) with
  | true =>
    have hl := (List.isPrefixOf_iff_prefix.1 hb).length_le
    rw [data_length, data_length] at hl
    rw [if_pos rfl, if_pos rfl, if_pos (by omega), if_pos (by omega), Option.bind_some, Int.toNat_natCast, extract_str]
    rfl
  | false => rfl
theorem cut_one (a : ByteArray) (c : UInt8) : strings_CutPrefix.f a ⟨#[c]⟩ = match B a with | [] => some (a, false) | d :: m => if d = c then some (str m, true) else some (a, false) := by
  rw [cut_eq a ⟨#[c]⟩ (by have : (⟨#[c]⟩ : ByteArray).size = 1 := rfl; omega)]
  have h : (B ⟨#[c]⟩).isPrefixOf (B a) = ((B a).head? == some c) := prefix_one a c
  rw [h]
  cases hb : B a with
  | nil => simp
  | cons d m =>
    by_cases hc : d = c
    · subst hc
      rw [if_pos (by simp)]
      simp only [if_true]
      rfl
    · rw [if_neg (by simpa using hc)]
      simp only [if_neg hc]
theorem bt_zero (c : UInt8) (m : List UInt8) : bt (str (c :: m)) 0 = (c.toNat : Int) := by
  have h := bt_list (str (c :: m)) 0 (by simp [str])
  exact h
theorem extract_one (c : UInt8) (m : List UInt8) : (str (c :: m)).extract 1 (str (c :: m)).size = str m := by
  rw [extract_str]
  rfl
theorem l0_false (acc : List S30) (rest : ByteArray) : Ev (fun k => match_Parse.l0 k rest false acc) errR := Ev.step (fun k => by rw [match_Parse.l0, if_neg (by simp)]) (Ev.now _)
theorem j1_true (acc : List S30) (rest : ByteArray) : Ev (fun k => match_Parse.j1 k rest acc true) errR := Ev.step (fun k => by rw [match_Parse.j1, if_pos rfl]) (l0_false _ _)
/-- What one round comes to. -/
theorem round (acc : List S30) (rest : ByteArray) (hs : rest.size ≤ 140737488351232) (ha : acc.length ≤ 1000) {q : Res}
    (h : (match oneM (B rest) with | none => q = errR | some (x, r) => if mayM (acc ++ [x]) = true then (match r with | [] => q = errR | c :: m => if c = 125 then q = (acc ++ [x], str m, 0) else if c = 44 then Ev (fun k => match_Parse.l0 k (str m) true (acc ++ [x])) q else q = errR) else q = errR)) :
    Ev (fun k => match_Parse.l0 k rest true acc) q := by
  refine Ev.step (fun k => by rw [match_Parse.l0, if_pos rfl, match_one.f, if_pos (by omega), Option.bind_some, if_pos (by omega), Option.bind_some]) ?_
  cases ho : oneM (B rest) with
  | none =>
    rw [ho] at h
    simp only at h
    subst h
    exact ev_neg (by rw [oneL_none ho]; simp) (j1_true _ _)
  | some p =>
    obtain ⟨x, r⟩ := p
    rw [ho] at h
    simp only at h
    rw [oneL_some ho]
    refine ev_pos rfl ?_
    refine Ev.congr (fun k => by rw [match_May.f, Option.bind_some]) ?_
    by_cases hm : mayM (acc ++ [x]) = true
    · rw [if_pos hm] at h
      refine ev_pos hm ?_
      cases r with
      | nil =>
        simp only at h
        subst h
        rw [ByteArray.toList_eq]
        exact j1_true _ _
      | cons c m =>
        simp only at h
        rw [ByteArray.toList_eq]
        refine Ev.step (fun k => by rw [match_Parse.j1, if_neg (by simp [str]), if_pos (by rw [size_str]; simp), bt_zero, if_pos (show (1 : Int) ≤ ((str (c :: m)).size : Int) by rw [size_str, List.length_cons]; omega), extract_one]) ?_
        by_cases h125 : c = 125
        · rw [if_pos h125] at h
          subst h
          exact ev_pos (by rw [h125]; rfl) (Ev.now _)
        · rw [if_neg h125] at h
          refine ev_neg (fun e => h125 (UInt8.toNat_inj.1 (by have : (125 : UInt8).toNat = 125 := rfl; omega))) (ev_pos (show (1 : Int) ≤ ((str (c :: m)).size : Int) by rw [size_str, List.length_cons]; omega) ?_)
          by_cases h44 : c = 44
          · rw [if_pos h44] at h
            rw [show ((c.toNat : Int) == 44) = true by rw [h44]; rfl]
            exact h
          · rw [if_neg h44] at h
            subst h
            rw [show ((c.toNat : Int) == 44) = false from beq_eq_false_iff_ne.2 (fun e => h44 (UInt8.toNat_inj.1 (by have : (44 : UInt8).toNat = 44 := rfl; omega)))]
            exact l0_false _ _
    · rw [if_neg hm] at h
      subst h
      exact ev_neg hm (j1_true _ _)
theorem joinM_one (x : S30) : joinM [x] = itemM x := by rw [joinM, List.append_nil]
theorem joinM_two (x y : S30) (l : List S30) : joinM (x :: y :: l) = itemM x ++ 44 :: joinM (y :: l) := by rw [joinM]
/-- What the loop tells is either nothing, or what stands there. -/
theorem loop_sound (n : Nat) : ∀ (acc : List S30) (rest : ByteArray), rest.size ≤ n → rest.size ≤ 140737488351232 → acc.length ≤ 6 →
    ∃ q, Ev (fun k => match_Parse.l0 k rest true acc) q ∧ (q = errR ∨ ∃ l m, l ≠ [] ∧ mayM (acc ++ l) = true ∧ B rest = joinM l ++ 125 :: m ∧ q = (acc ++ l, str m, 0)) := by
  induction n with
  | zero =>
    intro acc rest h0 hs ha
    refine ⟨errR, round acc rest hs (by omega) ?_, .inl rfl⟩
    have hn : B rest = [] := List.length_eq_zero_iff.1 (by rw [data_length]; omega)
    rw [hn]
    rfl
  | succ n ih =>
    intro acc rest h0 hs ha
    cases hl : oneM (B rest) with
    | none => exact ⟨errR, round acc rest hs (by omega) (by rw [hl]), .inl rfl⟩
    | some p =>
      obtain ⟨x, r⟩ := p
      have hrest := oneM_sound hl
      by_cases hm : mayM (acc ++ [x]) = true
      · cases r with
        | nil => exact ⟨errR, round acc rest hs (by omega) (by rw [hl]; simp only [if_pos hm]), .inl rfl⟩
        | cons c m =>
          by_cases h125 : c = 125
          · refine ⟨(acc ++ [x], str m, 0), round acc rest hs (by omega) (by rw [hl]; simp only [if_pos hm, if_pos h125]), .inr ⟨[x], m, by simp, hm, ?_, rfl⟩⟩
            rw [hrest, joinM_one, h125]
          · by_cases h44 : c = 44
            · have hlen : (str m).size + 1 ≤ rest.size := by
                have : (B rest).length = (itemM x ++ c :: m).length := by rw [hrest]
                rw [data_length, List.length_append, List.length_cons] at this
                rw [size_str]
                omega
              obtain ⟨q, hq, hor⟩ := ih (acc ++ [x]) (str m) (by omega) (by omega) (may_all hm).1
              refine ⟨q, round acc rest hs (by omega) (by rw [hl]; simp only [if_pos hm, if_neg h125, if_pos h44]; exact hq), ?_⟩
              rcases hor with rfl | ⟨l, m', hne, hml, hB, rfl⟩
              · exact .inl rfl
              · refine .inr ⟨x :: l, m', by simp, by simpa using hml, ?_, by simp⟩
                rw [hrest, h44]
                rw [B_str] at hB
                cases l with
                | nil => exact absurd rfl hne
                | cons y l => rw [joinM_two, hB, List.append_assoc, List.cons_append]
            · exact ⟨errR, round acc rest hs (by omega) (by rw [hl]; simp only [if_pos hm, if_neg h125, if_neg h44]), .inl rfl⟩
      · exact ⟨errR, round acc rest hs (by omega) (by rw [hl]; simp only [if_neg hm]), .inl rfl⟩
theorem loop_back : ∀ (l : List S30) (x : S30) (acc : List S30) (rest : ByteArray) (m : List UInt8), rest.size ≤ 140737488351232 → acc.length ≤ 6 → mayM (acc ++ x :: l) = true → B rest = joinM (x :: l) ++ 125 :: m →
    Ev (fun k => match_Parse.l0 k rest true acc) (acc ++ x :: l, str m, 0)
  | [], x, acc, rest, m, hs, ha, hm, hB => by
    have hx := (may_all hm).2 x (by simp)
    refine round acc rest hs (by omega) ?_
    rw [hB, joinM_one, oneM_app hx]
    simp only [if_pos hm, if_true]
  | y :: l, x, acc, rest, m, hs, ha, hm, hB => by
    have hx := (may_all hm).2 x (by simp)
    have hm' : mayM (acc ++ [x]) = true := may_prefixM (m := y :: l) (by simpa using hm)
    refine round acc rest hs (by omega) ?_
    rw [hB, joinM_two, List.append_assoc, oneM_app hx]
    simp only [if_pos hm', List.cons_append, show ¬ ((44 : UInt8) = 125) by decide, if_false, if_true]
    have hlen : (str (joinM (y :: l) ++ 125 :: m)).size ≤ rest.size := by
      have h1 : (B rest).length = (joinM (x :: y :: l) ++ 125 :: m).length := by rw [hB]
      rw [data_length, joinM_two, List.length_append, List.length_append, List.length_cons] at h1
      rw [size_str, List.length_append]
      omega
    have := loop_back l y (acc ++ [x]) (str (joinM (y :: l) ++ 125 :: m)) m (by omega) (may_all hm').1 (by simpa using hm) rfl
    simpa using this
/-! Whole texts -/
theorem cut_two (a : ByteArray) (c d : UInt8) : strings_CutPrefix.f a ⟨#[c, d]⟩ = match B a with | [] => some (a, false) | [_] => some (a, false) | x :: y :: m => if x = c ∧ y = d then some (str m, true) else some (a, false) := by
  rw [cut_eq a ⟨#[c, d]⟩ (by have : (⟨#[c, d]⟩ : ByteArray).size = 2 := rfl; omega)]
  have hb2 : B (⟨#[c, d]⟩ : ByteArray) = [c, d] := rfl
  rw [hb2]
  cases hb : B a with
  | nil => simp
  | cons x m =>
    cases m with
    | nil => simp
    | cons y m =>
      by_cases h : x = c ∧ y = d
      · obtain ⟨rfl, rfl⟩ := h
        rw [if_pos (by simp)]
        simp only [and_self, if_true]
        rfl
      · rw [if_neg (by
          intro hp
          have := List.isPrefixOf_iff_prefix.1 hp
          obtain ⟨t, ht⟩ := this
          simp only [List.cons_append, List.cons.injEq] at ht
          exact h ⟨ht.1.symm, ht.2.1.symm⟩)]
        simp only [if_neg h]
theorem parse_start (s : ByteArray) {q : Res} (h : (match B s with | [] => q = errR | c :: t => if c = 123 then (match t with | 125 :: m => q = ([], str m, 0) | _ => Ev (fun k => match_Parse.l0 k (str t) true []) q) else q = errR)) : Ev (fun k => match_Parse.f k s) q := by
  unfold match_Parse.f
  rw [cut_two, cut_one]
  cases hB : B s with
  | nil =>
    rw [hB] at h
    simp only at h ⊢
    subst h
    exact ev_bsome (ev_neg (by simp) (ev_bsome (l0_false _ _)))
  | cons c t =>
    rw [hB] at h
    simp only at h ⊢
    by_cases hc : c = 123
    · subst hc
      simp only [if_true] at h ⊢
      cases t with
      | nil =>
        simp only at h ⊢
        exact ev_bsome (ev_neg (by simp) (ev_bsome h))
      | cons d m =>
        by_cases hd : d = 125
        · subst hd
          simp only [and_self, if_true] at h ⊢
          subst h
          exact ev_bsome (ev_pos rfl (Ev.now _))
        · have h2 : Ev (fun k => match_Parse.l0 k (str (d :: m)) true []) q := by
            revert h
            split
            · rename_i heq; simp only [List.cons.injEq] at heq; exact absurd heq.1 hd
            · exact id
          simp only [hd, and_false, if_false]
          exact ev_bsome (ev_neg (by simp) (ev_bsome h2))
    · rw [if_neg hc] at h
      subst h
      simp only [if_neg hc]
      cases t with
      | nil => exact ev_bsome (ev_neg (by simp) (ev_bsome (l0_false _ _)))
      | cons d m =>
        simp only [hc, false_and, if_false]
        exact ev_bsome (ev_neg (by simp) (ev_bsome (l0_false _ _)))
theorem printM_nil : printM [] = [123, 125] := rfl
theorem parse_sound (s : ByteArray) (hs : s.size ≤ 140737488351232) : ∃ q, Ev (fun k => match_Parse.f k s) q ∧ (q = errR ∨ ∃ l m, mayM l = true ∧ B s = printM l ++ m ∧ q = (l, str m, 0)) := by
  cases hB : B s with
  | nil => exact ⟨errR, parse_start s (by rw [hB]), .inl rfl⟩
  | cons c t =>
    by_cases hc : c = 123
    · subst hc
      by_cases ht : ∃ m, t = 125 :: m
      · obtain ⟨m, rfl⟩ := ht
        exact ⟨([], str m, 0), parse_start s (by rw [hB]; rfl), .inr ⟨[], m, rfl, rfl, rfl⟩⟩
      · have hlen : (str t).size ≤ s.size := by
          have : (B s).length = (123 :: t : List UInt8).length := by rw [hB]
          rw [data_length, List.length_cons] at this
          rw [size_str]
          omega
        obtain ⟨q, hq, hor⟩ := loop_sound (str t).size [] (str t) (Nat.le_refl _) (by omega) (by simp)
        refine ⟨q, parse_start s ?_, ?_⟩
        · rw [hB]
          simp only [if_true]
          split
          · rename_i m; exact absurd ⟨m, rfl⟩ ht
          · exact hq
        · rcases hor with rfl | ⟨l, m, hne, hm, hb, rfl⟩
          · exact .inl rfl
          · refine .inr ⟨l, m, by simpa using hm, ?_, by simp⟩
            rw [B_str] at hb
            rw [hb]
            unfold printM
            simp
    · exact ⟨errR, parse_start s (by rw [hB]; simp only [if_neg hc]), .inl rfl⟩
theorem item_head {x : S30} (hx : okM x = true) (r : List UInt8) : ∀ m, itemM x ++ r ≠ 125 :: m := by
  intro m h
  obtain ⟨hq, hn, -, -⟩ := okM_small hx
  unfold mayName at hn
  simp only [Bool.and_eq_true, decide_eq_true_eq] at hn
  unfold itemM at h
  have h2 : (B x.f0).all (fun b => markB b.toNat) = true := hn.2.2.2
  cases hb : B x.f0 with
  | nil =>
    have := data_length x.f0
    rw [show x.f0.data.toList = [] from hb] at this
    have h1 := hn.1
    simp at this
    omega
  | cons c t =>
    rw [hb] at h h2
    simp only [List.cons_append, List.cons.injEq] at h
    rw [List.all_cons, Bool.and_eq_true, h.1] at h2
    exact absurd h2.1 (by decide)
theorem parse_back (s : ByteArray) (hs : s.size ≤ 140737488351232) (l : List S30) (m : List UInt8) (hm : mayM l = true) (hB : B s = printM l ++ m) : Ev (fun k => match_Parse.f k s) (l, str m, 0) := by
  cases l with
  | nil => exact parse_start s (by rw [hB, printM_nil]; rfl)
  | cons x l =>
    have hB' : B s = 123 :: (joinM (x :: l) ++ 125 :: m) := by rw [hB]; unfold printM; simp
    have hlen : (str (joinM (x :: l) ++ 125 :: m)).size ≤ s.size := by
      have : (B s).length = (123 :: (joinM (x :: l) ++ 125 :: m) : List UInt8).length := by rw [hB']
      rw [data_length, List.length_cons] at this
      rw [size_str]
      omega
    have hx := (may_all hm).2 x (by simp)
    have := loop_back l x [] (str (joinM (x :: l) ++ 125 :: m)) m (by omega) (by simp) (by simpa using hm) rfl
    refine parse_start s ?_
    rw [hB']
    simp only [if_true]
    split
    · rename_i m' heq
      exfalso
      rw [joinM_flat, List.append_assoc] at heq
      exact item_head hx _ _ heq
    · simpa using this
end Go.Proofs.Yticemdlnnmndoaa.Pure
