/- Plain laws of the program's matchers: whether they may be, their text. -/
import Derived.Test.YticemdlnnmndoaaQ12
import Derived.Test.YticemdlnnmndoaaQ19
import Derived.Test.YticemdlnnmndoaaQ15
import Derived.Test.YticemdlnnmndoaaGreatP
namespace Go.Proofs.Yticemdlnnmndoaa.Pure
open Go.RowKit Go.Proofs.YticemdlnnmndoaaW.PrintWords Go.Proofs.YticemdlnnmndoaaW.PrintLast Go.Proofs.Yticemdlnnmndoaa.Q
set_option linter.unusedVariables false
set_option linter.unusedSimpArgs false

theorem may_val (v : ByteArray) : match_may.f v = some (decide (v.size ≤ 32) && allB signB v) := by
  unfold match_may.f
  by_cases h : v.toList = []
  · rw [if_pos h]
    rw [ByteArray.toList_eq] at h
    have h0 : v.size = 0 := by rw [← data_length, h]; rfl
    unfold allB
    rw [h, h0]
    rfl
  · rw [if_neg h]
    have h0 : 1 ≤ v.size := by
      rw [ByteArray.toList_eq] at h
      rw [← data_length]
      cases hv : v.data.toList with
      | nil => exact absurd hv h
      | cons => simp
    unfold labels_MayValue.f mayValue
    rw [decide_eq_true h0, Bool.true_and]
    rfl
theorem okM_small {x : S30} (h : okM x = true) : (x.f1 = 0 ∨ x.f1 = 1 ∨ x.f1 = 2) ∧ mayName x.f0 = true ∧ x.f0.size ≤ 16 ∧ x.f2.size ≤ 32 := by
  unfold okM at h
  rw [may_val] at h
  simp only [Bool.and_eq_true, decide_eq_true_eq] at h
  obtain ⟨h1, h2, h3, -⟩ := h
  refine ⟨?_, h2, ?_, h3⟩
  · unfold Ops.lookB at h1
    simpa using h1
  · unfold mayName at h2
    simp only [Bool.and_eq_true, decide_eq_true_eq] at h2
    exact h2.2.1
theorem may_all {l : List S30} (h : mayM l = true) : l.length ≤ 6 ∧ ∀ x ∈ l, okM x = true := by
  unfold mayM at h
  rw [Bool.and_eq_true, decide_eq_true_eq] at h
  exact ⟨h.2, List.all_eq_true.1 h.1⟩
theorem may_smallM {l : List S30} (h : mayM l = true) : SmallM l := by
  have ha := may_all h
  exact ⟨by omega, fun y hy => by have := okM_small (ha.2 y hy); omega⟩
theorem may_prefixM {l m : List S30} (h : mayM (l ++ m) = true) : mayM l = true := by
  have ha := may_all h
  unfold mayM
  rw [List.length_append] at ha
  rw [Bool.and_eq_true]
  exact ⟨List.all_eq_true.2 fun x hx => ha.2 x (by simp [hx]), decide_eq_true (by omega)⟩
/-! Print -/
def itemM (y : S30) : List UInt8 := B y.f0 ++ (B (sgn y.f1) ++ quoteL (B y.f2))
def joinM : List S30 → List UInt8
  | [] => []
  | x :: l => itemM x ++ (match l with | [] => [] | _ :: _ => 44 :: joinM l)
def printM (l : List S30) : List UInt8 := 123 :: (joinM l ++ [125])
theorem joinM_flat (x : S30) (l : List S30) : joinM (x :: l) = itemM x ++ (l.map fun y => 44 :: itemM y).flatten := by
  induction l generalizing x with
  | nil => show itemM x ++ [] = _; simp
  | cons y l ih => show itemM x ++ 44 :: joinM (y :: l) = _; rw [ih y]; simp
theorem sgn_len (q : Int) : (sgn q).size ≤ 2 := by
  unfold sgn
  split
  · exact Nat.le_refl 2
  · split
    · exact Nat.le_refl 2
    · exact Nat.le_succ 1
theorem itemM_len (y : S30) : (itemM y).length ≤ y.f0.size + 2 * y.f2.size + 4 := by
  unfold itemM
  have := quoteL_len (B y.f2)
  have h2 := sgn_len y.f1
  rw [data_length] at this
  rw [List.length_append, List.length_append, data_length, data_length]
  omega
theorem joinM_len {l : List S30} (hs : ∀ y ∈ l, y.f0.size ≤ 5000 ∧ y.f2.size ≤ 5000) : (joinM l).length ≤ 15005 * l.length := by
  induction l with
  | nil => simp [joinM]
  | cons x l ih =>
    have h1 := itemM_len x
    have h2 := hs x (by simp)
    have h3 := ih (fun y hy => hs y (by simp [hy]))
    cases l with
    | nil => show (itemM x ++ []).length ≤ _; rw [List.append_nil, List.length_singleton]; omega
    | cons y l =>
      show (itemM x ++ 44 :: joinM (y :: l)).length ≤ _
      simp only [List.length_append, List.length_cons] at h3 ⊢
      omega
theorem join_comma (l : List S30) : joinL (l.map fun y => str (itemM y)) ⟨#[44]⟩ = joinM l := by
  unfold joinL
  rw [List.map_map, show ((fun x : ByteArray => x.data.toList) ∘ fun y => str (itemM y)) = itemM from rfl]
  cases l with
  | nil => rw [List.map_nil, Lib.join_nil]; rfl
  | cons x l =>
    rw [List.map_cons, Lib.join_cons, joinM_flat]
    unfold Lib.joinTail
    rw [List.map_map]
    rfl
theorem join3 (a b c : ByteArray) : joinL [a, b, c] ⟨#[]⟩ = B a ++ (B b ++ B c) := by
  unfold joinL
  rw [List.map_cons, Lib.join_cons]
  unfold Lib.joinTail
  simp
theorem joined3 (a b c : ByteArray) (h : a.size + b.size + c.size ≤ 140737488355328) : match_joined.f [a, b, c] = some (str (B a ++ (B b ++ B c))) := by
  unfold match_joined.f strings_Join.f
  rw [join3, if_pos ⟨by simp, by simp only [List.length_append, data_length]; omega⟩]
  rfl
theorem run_eq : ∀ (l : List S30) (xs : List S30), SmallM l → xs.length + l.length ≤ 100 → runP l (xs.map fun y => str (itemM y)) = finP ((xs ++ l).map fun y => str (itemM y))
  | [], xs, _, _ => by rw [runP, List.append_nil]
  | y :: l, xs, hs, hl => by
    have hy := hs.2 y (by simp)
    have hq : (quoteL y.f2.data.toList).length ≤ 2 * y.f2.size + 2 := by have := quoteL_len (B y.f2); rwa [data_length] at this
    have hz : (⟨(quoteL y.f2.data.toList).toArray⟩ : ByteArray).size = (quoteL y.f2.data.toList).length := size_str _
    have hg := sgn_len y.f1
    rw [List.length_cons] at hl
    rw [runP, labels_Quote.f, if_pos (by omega), Option.bind_some, joined3 _ _ _ (by omega), Option.bind_some, if_pos (by rw [List.length_map]; omega)]
    have := run_eq l (xs ++ [y]) ⟨by omega, fun z hz => hs.2 z (by simp [hz])⟩ (by rw [List.length_append, List.length_singleton]; omega)
    rw [List.map_append, List.map_cons, List.map_nil] at this
    rw [show xs ++ y :: l = (xs ++ [y]) ++ l by simp, ← this]
    rfl
theorem printM_len {l : List S30} (hs : SmallM l) : (printM l).length ≤ 2000000 := by
  have := joinM_len hs.2
  have h2 := hs.1
  unfold printM
  rw [List.length_cons, List.length_append, List.length_singleton]
  omega
theorem print (l : List S30) (hs : SmallM l) : match_Print.f l = some (str (printM l)) := by
  unfold match_Print.f
  have h := run_eq l [] hs (by have := hs.1; simpa using this)
  rw [List.map_nil, List.nil_append] at h
  rw [h]
  unfold finP strings_Join.f
  have hj := joinM_len hs.2
  have := hs.1
  rw [join_comma, if_pos ⟨by rw [List.length_map]; omega, by omega⟩, Option.bind_some, joined3 _ _ _ (by have h1 := size_str (joinM l); unfold str at h1; have h2 : (⟨#[123]⟩ : ByteArray).size = 1 := rfl; have h3 : (⟨#[125]⟩ : ByteArray).size = 1 := rfl; omega)]
  rfl
theorem same30 (m : List S30) (hm : m.length ≤ 9223372036854775807) : Ev (fun k => tocsinref08_Same.f k m m) true := by
  have : ∀ (d : Nat) (x : Int), 0 ≤ x → x ≤ m.length → (m.length : Int) - x = d → Ev (fun k => tocsinref08_Same.l0 k m m x) true := by
    intro d
    induction d with
    | zero => intro x h0 h1 hd; exact Ev.step (fun k => by rw [tocsinref08_Same.l0, if_neg (by omega)]) (Ev.now _)
    | succ d ih =>
      intro x h0 h1 hd
      exact Ev.step (fun k => by rw [tocsinref08_Same.l0, if_pos (by omega), if_pos h0, if_pos (by omega), if_neg (by simp), w64 (by omega) (by omega)]) (ih (x + 1) (by omega) (by omega) (by omega))
  exact ev_pos rfl (this m.length 0 (by omega) (by omega) (by omega))
end Go.Proofs.Yticemdlnnmndoaa.Pure
