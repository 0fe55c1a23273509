/- The pure statement of LabelsOrder: of two rows that may be just one is less, or they are the same, as their texts are; and less goes on over a third one. -/
import Derived.Test.YtiicfejaoilfcaaQ31
import Derived.Test.YtiicfejaoilfcaaPrintP
import Derived.Test.YtiicfejaoilfcaaAwakeP
namespace Go.Proofs.Ytiicfejaoilfcaa.Pure
open Go.RowKit Go.Proofs.YtiicfejaoilfcaaW.PrintWords Go.Proofs.YtiicfejaoilfcaaW.PrintLast Go.Proofs.Ytiicfejaoilfcaa.Q
set_option linter.unusedVariables false
set_option linter.unusedSimpArgs false

theorem bls_trans : ∀ {x y z : List UInt8}, Op.bytesLess x y = true → Op.bytesLess y z = true → Op.bytesLess x z = true
  | _, [], _, h, _ => by simp [Op.bytesLess] at h
  | _, _ :: _, [], _, k => by simp [Op.bytesLess] at k
  | [], _ :: _, _ :: _, _, _ => rfl
  | a :: x, b :: y, c :: z, h, k => by
    rw [Op.bytesLess, Bool.or_eq_true, Bool.and_eq_true, decide_eq_true_eq, beq_iff_eq] at h k ⊢
    rcases h with h | ⟨rfl, h⟩ <;> rcases k with k | ⟨rfl, k⟩
    · exact .inl (UInt8.lt_trans h k)
    · exact .inl h
    · exact .inl k
    · exact .inr ⟨rfl, bls_trans h k⟩
theorem bls_not {x y : List UInt8} (h : Op.bytesLess x y = true) : Op.bytesLess y x = false := by
  cases hk : Op.bytesLess y x with
  | false => rfl
  | true =>
    have := bls_trans h hk
    rw [Opn.bl_irrefl] at this
    cases this
theorem bls_tri {x y : List UInt8} (h : x ≠ y) (k : Op.bytesLess x y = false) : Op.bytesLess y x = true := by
  have := Opn.bl_leq x y
  rw [k, beq_eq_false_iff_ne.2 h] at this
  simpa using this.symm
theorem eqS_iff {x y : S31} : eqS x y = true ↔ x = y := by
  unfold eqS
  rw [Bool.and_eq_true, beq_iff_eq, beq_iff_eq]
  exact ⟨fun h => ext31 h.1 h.2, fun h => by rw [h]; exact ⟨rfl, rfl⟩⟩
theorem ltS_irrefl (x : S31) : ltS x x = false := by
  unfold ltS
  rw [Opn.bl_irrefl, if_neg (by simp), if_pos rfl, Opn.bl_irrefl]
theorem ltS_iff {x y : S31} : ltS x y = true ↔ Op.bytesLess x.f0.toList y.f0.toList = true ∨ (x.f0.toList = y.f0.toList ∧ Op.bytesLess x.f1.toList y.f1.toList = true) := by
  unfold ltS
  by_cases h : Op.bytesLess x.f0.toList y.f0.toList = true
  · rw [if_pos h]; simp [h]
  · rw [if_neg h]
    by_cases e : x.f0.toList = y.f0.toList
    · rw [if_pos e]
      exact ⟨fun q => .inr ⟨e, q⟩, fun q => q.elim (fun q => absurd q h) (fun q => q.2)⟩
    · rw [if_neg e]; simp [h, e]
theorem ltS_trans {x y z : S31} (h : ltS x y = true) (k : ltS y z = true) : ltS x z = true := by
  rw [ltS_iff] at h k ⊢
  rcases h with h | ⟨e, h⟩ <;> rcases k with k | ⟨e', k⟩
  · exact .inl (bls_trans h k)
  · exact .inl (by rw [← e']; exact h)
  · exact .inl (by rw [e]; exact k)
  · exact .inr ⟨e.trans e', bls_trans h k⟩
theorem ltS_tri {x y : S31} (h : x ≠ y) (k : ltS x y = false) : ltS y x = true := by
  have k : ¬ ltS x y = true := by rw [k]; simp
  rw [ltS_iff] at k ⊢
  by_cases e : x.f0.toList = y.f0.toList
  · refine .inr ⟨e.symm, bls_tri (fun e2 => h (ext31 e e2)) ?_⟩
    rw [Bool.eq_false_iff]
    exact fun q => k (.inr ⟨e, q⟩)
  · refine .inl (bls_tri e ?_)
    rw [Bool.eq_false_iff]
    exact fun q => k (.inl q)
open Classical in
theorem less_cons (x y : S31) (a b : List S31) : lessL (x :: a) (y :: b) = if x = y then lessL a b else ltS x y := by
  rw [lessL]
  by_cases h : x = y
  · rw [if_pos (eqS_iff.2 h), if_pos h]
  · rw [if_neg (fun e => h (eqS_iff.1 e)), if_neg h]
theorem less_irrefl : ∀ a : List S31, lessL a a = false
  | [] => by rw [lessL]
  | x :: a => by rw [less_cons, if_pos rfl]; exact less_irrefl a
theorem less_trans : ∀ {a b c : List S31}, lessL a b = true → lessL b c = true → lessL a c = true
  | [], [], _, h, _ => by rw [lessL] at h; cases h
  | _ :: _, [], _, h, _ => by rw [lessL] at h; cases h
  | _, _ :: _, [], _, k => by rw [lessL] at k; cases k
  | [], _ :: _, _ :: _, _, _ => by rw [lessL]
  | x :: a, y :: b, z :: c, h, k => by
    rw [less_cons] at h k ⊢
    by_cases e : x = y
    · subst e
      rw [if_pos rfl] at h
      by_cases e' : x = z
      · rw [if_pos e'] at k ⊢
        exact less_trans h k
      · rw [if_neg e'] at k ⊢
        exact k
    · rw [if_neg e] at h
      by_cases e' : y = z
      · subst e'
        rw [if_neg e]
        exact h
      · rw [if_neg e'] at k
        have ht := ltS_trans h k
        by_cases e'' : x = z
        · subst e''
          rw [ltS_irrefl] at ht
          cases ht
        · rw [if_neg e'']
          exact ht
theorem less_tri : ∀ {a b : List S31}, lessL a b = false → lessL b a = false → a = b
  | [], [], _, _ => rfl
  | [], _ :: _, h, _ => by rw [lessL] at h; cases h
  | _ :: _, [], _, k => by rw [lessL] at k; cases k
  | x :: a, y :: b, h, k => by
    rw [less_cons] at h k
    by_cases e : x = y
    · subst e
      rw [if_pos rfl] at h k
      rw [less_tri h k]
    · rw [if_neg e] at h
      rw [if_neg (fun q => e q.symm)] at k
      have := ltS_tri e h
      rw [k] at this
      cases this
theorem order_j2 (a b : List S31) (ha : a.length ≤ 9223372036854775807) (x y : Bool) (hx : lessL a b = x) (hy : lessL b a = y) (hma : mayB a = true) (hmb : mayB b = true) : Ev (fun k => tocsinlaw07_LabelsOrder.j2 k a b x y false) true := by
  refine Ev.step (fun k => by rw [tocsinlaw07_LabelsOrder.j2, if_neg (by simp)]) ?_
  obtain ⟨e, he, hi⟩ := same a b ha
  refine Ev.bind he ?_
  have hsame : (e = true) = (a = b) := propext hi
  have hpr : ((str (printL a)).toList == (str (printL b)).toList) = e := by
    rw [Bool.eq_iff_iff, hi, beq_iff_eq, ByteArray.toList_eq, ByteArray.toList_eq]
    constructor
    · intro h
      have h' : printL a = printL b := h
      have h1 := printL_len (good_small hma)
      exact (printL_inj (m := []) (n := []) hma hmb (by rw [h']) (by rw [List.append_nil]; omega)).1
    · intro h
      rw [h]
  have hend : Ev (fun k => (labels_Print.f k a).bind fun t321 => ((labels_Print.f k b).bind fun t322 => (some ((t321.toList == t322.toList) == e)))) true := by
    refine Ev.bind (print a (good_small hma)) (Ev.bind (print b (good_small hmb)) (ev_some ?_))
    rw [hpr]
    exact beq_self_eq_true e
  cases x with
  | true =>
    refine ev_pos rfl (ev_pos ?_ hend)
    cases e with
    | false => rfl
    | true =>
      have := hi.1 rfl
      subst this
      rw [less_irrefl] at hx
      cases hx
  | false =>
    refine ev_neg (by simp) (ev_pos ?_ hend)
    cases y with
    | false =>
      have := less_tri hx hy
      rw [hi.2 this]
      rfl
    | true =>
      cases e with
      | false => rfl
      | true =>
        have := hi.1 rfl
        subst this
        rw [less_irrefl] at hy
        cases hy
theorem order_j1 (a b : List S31) (ha : a.length ≤ 9223372036854775807) (hb : b.length ≤ 9223372036854775807) (x y : Bool) (hx : lessL a b = x) (hy : lessL b a = y) : Ev (fun k => tocsinlaw07_LabelsOrder.j1 k a b x y false) true := by
  refine Ev.step (fun k => by rw [tocsinlaw07_LabelsOrder.j1, if_neg (by simp)]) ?_
  have hj : Ev (fun k => tocsinlaw07_LabelsOrder.j2 k a b x y true) true := Ev.step (fun k => by rw [tocsinlaw07_LabelsOrder.j2, if_pos rfl]) (Ev.now _)
  refine Ev.bind (may a ha) ?_
  cases hma : mayB a with
  | false => exact ev_neg (by simp) hj
  | true =>
    refine ev_pos rfl (Ev.bind (may b hb) ?_)
    cases hmb : mayB b with
    | false => exact hj
    | true => exact order_j2 a b ha x y hx hy hma hmb
theorem LabelsOrder : tocsinlaw07_LabelsOrder.Pure := by
  intro a b c ha _ hga hb _ hgb hc _ hgc
  refine Ev.rounds ?_
  unfold tocsinlaw07_LabelsOrder.f
  refine Ev.bind awake (ev_pos rfl ?_)
  have hj : Ev (fun k => tocsinlaw07_LabelsOrder.j0 k a b c true) true := Ev.step (fun k => by rw [tocsinlaw07_LabelsOrder.j0, if_pos rfl]) (Ev.now _)
  obtain ⟨r, hr, _⟩ := great a hga
  refine Ev.bind hr ?_
  cases r with
  | true => exact ev_pos rfl hj
  | false =>
    refine ev_neg (by simp) ?_
    obtain ⟨r, hr, _⟩ := great b hgb
    refine Ev.bind hr ?_
    cases r with
    | true => exact ev_pos rfl hj
    | false =>
      refine ev_neg (by simp) ?_
      obtain ⟨r, hr, _⟩ := great c hgc
      refine Ev.bind hr ?_
      cases r with
      | true => exact hj
      | false =>
        refine Ev.step (fun k => by rw [tocsinlaw07_LabelsOrder.j0, if_neg (by simp)]) ?_
        unfold labels_Less.f
        refine ev_bsome (ev_bsome (ev_bsome ?_))
        have hlast : Ev (fun k => tocsinlaw07_LabelsOrder.j1 k a b (lessL a b) (lessL b a) (lessL a a)) true := by
          rw [less_irrefl]
          exact order_j1 a b ha hb _ _ rfl rfl
        cases hab : lessL a b with
        | false =>
          rw [hab] at hlast
          exact ev_neg (by simp) (ev_bsome hlast)
        | true =>
          rw [hab] at hlast
          refine ev_pos rfl ?_
          cases hba : lessL b a with
          | true =>
            have := less_trans hab hba
            rw [less_irrefl] at this
            cases this
          | false =>
            rw [hba] at hlast
            refine ev_neg (by simp) ?_
            cases hbc : lessL b c with
            | false => exact ev_neg (by simp) (ev_bsome hlast)
            | true =>
              refine ev_pos rfl (ev_bsome (ev_pos (less_trans hab hbc) (ev_bsome hlast)))
end Go.Proofs.Ytiicfejaoilfcaa.Pure
