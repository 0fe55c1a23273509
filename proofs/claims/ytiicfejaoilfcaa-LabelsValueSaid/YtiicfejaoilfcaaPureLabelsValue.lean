/- The pure statement of LabelsValue: each label's value is told by its name; and no other name has one. -/
import Derived.Test.YtiicfejaoilfcaaQ26
import Derived.Test.YtiicfejaoilfcaaQ23
import Derived.Test.YtiicfejaoilfcaaMayP
import Derived.Test.YtiicfejaoilfcaaAwakeP
namespace Go.Proofs.Ytiicfejaoilfcaa.Pure
open Go.RowKit Go.Proofs.YtiicfejaoilfcaaW.PrintWords Go.Proofs.YtiicfejaoilfcaaW.PrintLast Go.Proofs.Ytiicfejaoilfcaa.Q
set_option linter.unusedVariables false
set_option linter.unusedSimpArgs false

def valueL (n : ByteArray) : List S31 → ByteArray
  | [] => ⟨#[]⟩
  | x :: l => if x.f0.toList = n.toList then x.f1 else valueL n l
theorem value_ev (l : List S31) (n : ByteArray) (hl : l.length ≤ 9223372036854775807) : ∀ (d : Nat) (x : Int), 0 ≤ x → x ≤ l.length → (l.length : Int) - x = d → Ev (fun k => labels_Value.l0 k n l (l.length : Int) x) (valueL n (l.drop x.toNat)) := by
  intro d
  induction d with
  | zero =>
    intro x h0 h1 hd
    rw [List.drop_eq_nil_of_le (by omega), valueL]
    exact Ev.step (fun k => by rw [labels_Value.l0, if_neg (by omega)]) (Ev.now _)
  | succ d ih =>
    intro x h0 h1 hd
    have hx : x < l.length := by omega
    rw [rd_drop l x.toNat (by omega), Int.toNat_of_nonneg h0, valueL]
    by_cases hn : (rd_T31 l x).f0.toList = n.toList
    · rw [if_pos hn]
      exact Ev.step (fun k => by rw [labels_Value.l0, if_pos hx, if_pos h0, if_pos hx, if_pos hn]) (Ev.now _)
    · rw [if_neg hn]
      refine Ev.step (fun k => by rw [labels_Value.l0, if_pos hx, if_pos h0, if_pos hx, if_neg hn, w64 (by omega) (by omega)]) ?_
      have := ih (x + 1) (by omega) (by omega) (by omega)
      rwa [toNat_succ h0] at this
theorem value (l : List S31) (n : ByteArray) (hl : l.length ≤ 9223372036854775807) : Ev (fun k => labels_Value.f k l n) (valueL n l) := value_ev l n hl l.length 0 (by omega) (by omega) (by omega)

theorem bl_trans : ∀ {x y z : List UInt8}, Op.bytesLess x y = true → Op.bytesLess y z = true → Op.bytesLess x z = true
  | _, [], _, h, _ => by simp [Op.bytesLess] at h
  | _, _ :: _, [], _, k => by simp [Op.bytesLess] at k
  | [], _ :: _, _ :: _, _, _ => rfl
  | a :: x, b :: y, c :: z, h, k => by
    rw [Op.bytesLess, Bool.or_eq_true, Bool.and_eq_true, decide_eq_true_eq, beq_iff_eq] at h k ⊢
    rcases h with h | ⟨rfl, h⟩ <;> rcases k with k | ⟨rfl, k⟩
    · exact .inl (UInt8.lt_trans h k)
    · exact .inl h
    · exact .inl k
    · exact .inr ⟨rfl, bl_trans h k⟩
/-- Behind x all names are greater. -/
theorem okL_above : ∀ {l : List S31} {x : S31}, okL (some x) l = true → ∀ y ∈ l, Op.bytesLess x.f0.toList y.f0.toList = true
  | [], _, _, _, hy => by cases hy
  | z :: l, x, h, y, hy => by
    rw [okL.eq_def] at h
    simp only [Bool.and_eq_true] at h
    rcases List.mem_cons.1 hy with rfl | hy
    · exact h.2.2.1
    · exact bl_trans h.2.2.1 (okL_above h.2.2.2 y hy)
theorem okL_next {p : Option S31} {x : S31} {l : List S31} (h : okL p (x :: l) = true) : okL (some x) l = true := by
  rw [okL.eq_def] at h
  simp only [Bool.and_eq_true] at h
  exact h.2.2.2
theorem value_at : ∀ {l : List S31} {p : Option S31}, okL p l = true → ∀ y ∈ l, valueL y.f0 l = y.f1
  | [], _, _, _, hy => by cases hy
  | z :: l, p, h, y, hy => by
    rw [valueL]
    rcases List.mem_cons.1 hy with rfl | hy
    · rw [if_pos rfl]
    · have ha := okL_above (okL_next h) y hy
      rw [if_neg (fun e => by rw [e, Opn.bl_irrefl] at ha; cases ha)]
      exact value_at (okL_next h) y hy
theorem value_none : ∀ {l : List S31} {n : ByteArray}, (∀ y ∈ l, y.f0.toList ≠ n.toList) → valueL n l = ⟨#[]⟩
  | [], _, _ => rfl
  | z :: l, n, h => by
    rw [valueL, if_neg (h z (by simp))]
    exact value_none (fun y hy => h y (by simp [hy]))
theorem value_some {l : List S31} {n : ByteArray} (hv : ∀ y ∈ l, mayValue y.f1 = true) (h : ∃ y ∈ l, y.f0.toList = n.toList) : (valueL n l).toList ≠ [] := by
  induction l with
  | nil => obtain ⟨y, hy, _⟩ := h; cases hy
  | cons z l ih =>
    rw [valueL]
    by_cases hz : z.f0.toList = n.toList
    · rw [if_pos hz]
      have := hv z (by simp)
      unfold mayValue at this
      simp only [Bool.and_eq_true, decide_eq_true_eq] at this
      intro e
      rw [ByteArray.toList_eq] at e
      have h2 := data_length z.f1
      rw [e] at h2
      have := this.1
      simp only [List.length_nil] at h2
      omega
    · rw [if_neg hz]
      refine ih (fun y hy => hv y (by simp [hy])) ?_
      obtain ⟨y, hy, he⟩ := h
      rcases List.mem_cons.1 hy with rfl | hy
      · exact absurd he hz
      · exact ⟨y, hy, he⟩
theorem lv_ev (l : List S31) (n : ByteArray) (hl : l.length ≤ 9223372036854775807) (hm : mayB l = true) : ∀ (d : Nat) (x : Int) (f : Bool), 0 ≤ x → x ≤ l.length → (l.length : Int) - x = d →
    (f = true ↔ ∃ y ∈ l.take x.toNat, y.f0.toList = n.toList) → Ev (fun k => tocsinlaw07_LabelsValue.l0 k l n f x) true := by
  have hs := may_small hm
  have hok : okL none l = true := by unfold mayB at hm; rw [Bool.and_eq_true] at hm; exact hm.1
  intro d
  induction d with
  | zero =>
    intro x f h0 h1 hd hf
    refine Ev.step (fun k => by rw [tocsinlaw07_LabelsValue.l0, if_neg (by omega)]) ?_
    refine Ev.bind (value l n hl) (ev_some ?_)
    rw [List.take_of_length_le (by omega)] at hf
    rw [beq_iff_eq]
    cases f with
    | true =>
      symm
      rw [bne_iff_ne]
      exact value_some (fun y hy => (hs.2 y hy).2) (hf.1 rfl)
    | false =>
      symm
      rw [bne_eq_false_iff_eq, value_none (fun y hy e => by cases hf.2 ⟨y, hy, e⟩), ByteArray.toList_eq]
  | succ d ih =>
    intro x f h0 h1 hd hf
    have hx : x < l.length := by omega
    refine Ev.step (fun k => by rw [tocsinlaw07_LabelsValue.l0, if_pos hx, if_pos h0]) ?_
    refine Ev.bind (value l _ hl) ?_
    rw [value_at hok _ (rd_mem h0 hx)]
    refine ev_pos rfl ?_
    have htk : l.take (x + 1).toNat = l.take x.toNat ++ [rd_T31 l x] := by
      rw [toNat_succ h0, List.take_succ_eq_append_getElem (by omega)]
      congr 2
      unfold rd_T31
      rw [List.getD_eq_getElem?_getD, List.getElem?_eq_getElem (by omega)]
      rfl
    have hw : wrap64 (x + 1) = x + 1 := w64 (by omega) (by omega)
    cases f with
    | true =>
      refine ev_pos rfl ?_
      rw [hw]
      refine ih (x + 1) true (by omega) (by omega) (by omega) ⟨fun _ => ?_, fun _ => rfl⟩
      obtain ⟨y, hy, he⟩ := hf.1 rfl
      exact ⟨y, by rw [htk]; simp [hy], he⟩
    | false =>
      refine ev_neg (by simp) ?_
      rw [hw]
      refine ih (x + 1) _ (by omega) (by omega) (by omega) ?_
      rw [beq_iff_eq, htk]
      constructor
      · intro e
        exact ⟨rd_T31 l x, by simp, e⟩
      · rintro ⟨y, hy, he⟩
        rcases List.mem_append.1 hy with hy | hy
        · cases hf.2 ⟨y, hy, he⟩
        · rw [List.mem_singleton] at hy
          rw [← hy]
          exact he
theorem LabelsValue : tocsinlaw07_LabelsValue.Pure := by
  intro l n hl _ hg _
  refine Ev.rounds ?_
  unfold tocsinlaw07_LabelsValue.f
  refine Ev.bind awake (ev_pos rfl ?_)
  obtain ⟨r, hr, hsm⟩ := great l hg
  have hj : Ev (fun k => tocsinlaw07_LabelsValue.j0 k l n true) true := Ev.step (fun k => by rw [tocsinlaw07_LabelsValue.j0, if_pos rfl]) (Ev.now _)
  refine Ev.bind hr ?_
  cases r with
  | true => exact ev_pos rfl hj
  | false =>
    refine ev_neg (by simp) ?_
    by_cases hn : (n.size : Int) > 5000
    · exact ev_pos hn hj
    · refine ev_neg hn ?_
      refine Ev.bind (may l hl) ?_
      cases hm : mayB l with
      | false => exact hj
      | true =>
        refine Ev.step (fun k => by rw [Bool.not_true, tocsinlaw07_LabelsValue.j0, if_neg (by simp)]) ?_
        exact lv_ev l n hl hm l.length 0 false (by omega) (by omega) (by omega) ⟨fun h => (by cases h), fun ⟨y, hy, _⟩ => (by simp at hy)⟩
end Go.Proofs.Ytiicfejaoilfcaa.Pure
