/- Plain laws of matchers and labels that are too great. -/
import Derived.Test.YticemdlnnmndoaaQ17
import Derived.Test.YticemdlnnmndoaaQ3
import Derived.Test.YticemdlnnmndoaaQ23
import Derived.Test.YticemdlnnmndoaaQ12
import Derived.Test.YticemdlnnmndoaaBaseP
namespace Go.Proofs.Yticemdlnnmndoaa.Pure
open Go.RowKit Go.Proofs.YticemdlnnmndoaaW.PrintWords Go.Proofs.YticemdlnnmndoaaW.PrintLast Go.Proofs.Yticemdlnnmndoaa.Q
set_option linter.unusedVariables false
set_option linter.unusedSimpArgs false

theorem rd_mem30 {l : List S30} {x : Int} (h0 : 0 ≤ x) (h1 : x < l.length) : rd_T30 l x ∈ l := by
  have h2 : x.toNat < l.length := by omega
  unfold rd_T30
  rw [List.getD_eq_getElem?_getD, List.getElem?_eq_getElem h2]
  exact List.getElem_mem h2
def SmallM (l : List S30) : Prop := l.length ≤ 100 ∧ ∀ y ∈ l, y.f0.size ≤ 5000 ∧ y.f2.size ≤ 5000
def SmallL (l : List S44) : Prop := l.length ≤ 100 ∧ ∀ y ∈ l, y.f0.size ≤ 5000 ∧ y.f1.size ≤ 5000
theorem rd_mem44 {l : List S44} {x : Int} (h0 : 0 ≤ x) (h1 : x < l.length) : rd_T44 l x ∈ l := by
  have h2 : x.toNat < l.length := by omega
  unfold rd_T44
  rw [List.getD_eq_getElem?_getD, List.getElem?_eq_getElem h2]
  exact List.getElem_mem h2
theorem great_l1 (l : List S44) (hl : l.length ≤ 100) (hg : ∀ y ∈ l, good44 y) : ∀ (d : Nat) (x left : Int), 0 ≤ x → x ≤ l.length → (l.length : Int) - x = d → 0 ≤ left → left ≤ 5000 →
    ∃ r, Ev (fun k => tocsinlaw08_great.l1 k l left x) r ∧ (r = false → ∀ y ∈ l.drop x.toNat, y.f0.size ≤ 5000 ∧ y.f1.size ≤ 5000) := by
  intro d
  induction d with
  | zero =>
    intro x left h0 h1 hd _ _
    refine ⟨false, Ev.step (fun k => by rw [tocsinlaw08_great.l1, if_neg (by omega)]) (Ev.now _), fun _ y hy => ?_⟩
    rw [List.drop_eq_nil_of_le (by omega)] at hy
    simp at hy
  | succ d ih =>
    intro x left h0 h1 hd hl0 hl1
    have hx : x < l.length := by omega
    have hgx := hg _ (rd_mem44 h0 hx)
    unfold good44 at hgx
    by_cases a : ((rd_T44 l x).f0.size : Int) > left
    · exact ⟨true, Ev.step (fun k => by rw [tocsinlaw08_great.l1, if_pos hx, if_pos h0, if_pos a]) (Ev.now _), fun h => by cases h⟩
    · by_cases b : ((rd_T44 l x).f1.size : Int) > left - (rd_T44 l x).f0.size
      · exact ⟨true, Ev.step (fun k => by rw [tocsinlaw08_great.l1, if_pos hx, if_pos h0, if_neg a, w64 (x := left - _) (by omega) (by omega), if_pos b]) (Ev.now _), fun h => by cases h⟩
      · obtain ⟨r, hr, hs⟩ := ih (x + 1) (left - (rd_T44 l x).f0.size - (rd_T44 l x).f1.size) (by omega) (by omega) (by omega) (by omega) (by omega)
        refine ⟨r, Ev.step (fun k => by rw [tocsinlaw08_great.l1, if_pos hx, if_pos h0, if_neg a, w64 (x := left - _) (by omega) (by omega), if_neg b, w64 (x := _ - _) (by omega) (by omega), w64 (x := x + 1) (by omega) (by omega)]) hr, fun h y hy => ?_⟩
        rw [rd_dropV l x.toNat (by omega), Int.toNat_of_nonneg h0, ← toNat_succ h0] at hy
        rcases List.mem_cons.1 hy with rfl | hy
        · omega
        · exact hs h y hy
theorem great_l0 (m : List S30) (l : List S44) (hm : m.length ≤ 100) (hl : l.length ≤ 100) (hgm : ∀ y ∈ m, good30 y) (hg : ∀ y ∈ l, good44 y) : ∀ (d : Nat) (x left : Int), 0 ≤ x → x ≤ m.length → (m.length : Int) - x = d → 0 ≤ left → left ≤ 5000 →
    ∃ r, Ev (fun k => tocsinlaw08_great.l0 k m l left x) r ∧ (r = false → (∀ y ∈ m.drop x.toNat, y.f0.size ≤ 5000 ∧ y.f2.size ≤ 5000) ∧ ∀ y ∈ l, y.f0.size ≤ 5000 ∧ y.f1.size ≤ 5000) := by
  intro d
  induction d with
  | zero =>
    intro x left h0 h1 hd h2 h3
    obtain ⟨r, hr, hs⟩ := great_l1 l hl hg l.length 0 left (by omega) (by omega) (by omega) h2 h3
    refine ⟨r, Ev.step (fun k => by rw [tocsinlaw08_great.l0, if_neg (by omega)]) hr, fun h => ⟨fun y hy => ?_, by simpa using hs h⟩⟩
    rw [List.drop_eq_nil_of_le (by omega)] at hy
    simp at hy
  | succ d ih =>
    intro x left h0 h1 hd hl0 hl1
    have hx : x < m.length := by omega
    have hgx := hgm _ (rd_mem30 h0 hx)
    unfold good30 at hgx
    by_cases a : ((rd_T30 m x).f0.size : Int) > left
    · exact ⟨true, Ev.step (fun k => by rw [tocsinlaw08_great.l0, if_pos hx, if_pos h0, if_pos a]) (Ev.now _), fun h => by cases h⟩
    · by_cases b : ((rd_T30 m x).f2.size : Int) > left - (rd_T30 m x).f0.size
      · exact ⟨true, Ev.step (fun k => by rw [tocsinlaw08_great.l0, if_pos hx, if_pos h0, if_neg a, w64 (x := left - _) (by omega) (by omega), if_pos b]) (Ev.now _), fun h => by cases h⟩
      · obtain ⟨r, hr, hs⟩ := ih (x + 1) (left - (rd_T30 m x).f0.size - (rd_T30 m x).f2.size) (by omega) (by omega) (by omega) (by omega) (by omega)
        refine ⟨r, Ev.step (fun k => by rw [tocsinlaw08_great.l0, if_pos hx, if_pos h0, if_neg a, w64 (x := left - _) (by omega) (by omega), if_neg b, w64 (x := _ - _) (by omega) (by omega), w64 (x := x + 1) (by omega) (by omega)]) hr, fun h => ⟨fun y hy => ?_, (hs h).2⟩⟩
        rw [rd_drop30 m x.toNat (by omega), Int.toNat_of_nonneg h0, ← toNat_succ h0] at hy
        rcases List.mem_cons.1 hy with rfl | hy
        · omega
        · exact (hs h).1 y hy
theorem great (m : List S30) (l : List S44) (hgm : ∀ y ∈ m, good30 y) (hg : ∀ y ∈ l, good44 y) : ∃ r, Ev (fun k => tocsinlaw08_great.f k m l) r ∧ (r = false → SmallM m ∧ SmallL l) := by
  have hj : Ev (fun k => tocsinlaw08_great.j0 k m l true) true := Ev.step (fun k => by rw [tocsinlaw08_great.j0, if_pos rfl]) (Ev.now _)
  unfold tocsinlaw08_great.f
  by_cases a : (m.length : Int) > 100
  · exact ⟨true, ev_pos a hj, fun h => by cases h⟩
  · by_cases b : (l.length : Int) > 100
    · refine ⟨true, ev_neg a ?_, fun h => by cases h⟩
      rw [decide_eq_true b]
      exact hj
    · obtain ⟨r, hr, hs⟩ := great_l0 m l (by omega) (by omega) hgm hg m.length 0 5000 (by omega) (by omega) (by omega) (by omega) (by omega)
      refine ⟨r, ev_neg a ?_, fun h => ⟨⟨by omega, by simpa using (hs h).1⟩, by omega, (hs h).2⟩⟩
      rw [decide_eq_false b]
      exact Ev.step (fun k => by rw [tocsinlaw08_great.j0, if_neg (by simp)]) hr

end Go.Proofs.Yticemdlnnmndoaa.Pure
