/- The tasks sorted, and told. No law is proved here. -/
import Derived.Test.YtpnoghnhlddjeaaHeapI
import Derived.Shelf.GgSortFunc.InsertionK
namespace Go.Proofs.Ytpnoghnhlddjeaa.Hp
open Go.RowKit Go.Shelf Go.Sort Go.Proofs.YtpnoghnhlddjeaaW.PrintWords Go.Proofs.Ytpnoghnhlddjeaa.Q Go.Proofs.Ytpnoghnhlddjeaa.Own
set_option linter.unusedVariables false
set_option linter.unusedSimpArgs false

instance : Inhabited S31 := ⟨z31⟩
theorem reps_flat (w : World) (base : Nat) (ok : Nat → Prop) : ∀ l : List S31, Reps (Kd.M k31 w base ok) 2 l (flatT l)
  | [] => Reps.none _ _
  | x :: l => Kd.reps_append (ps := [x]) (cs := [.int .u32 x.f0, .int .i64 x.f1]) (Reps.snoc (ps := []) (cs := []) (Reps.none _ _) (k31_mkM w base ok x) rfl) (reps_flat w base ok l)
theorem R_flat {w : World} {base : Nat} {ok : Nat → Prop} {v : Value} {l : List S31} (h : w.ownsRow base 31 2 v l.length (flatT l)) (hok : ∀ k, v.ownBlock = some k → ok k) : Kd.R k31 31 w base ok v l :=
  ⟨hok, flatT l, h, reps_flat _ _ _ l⟩
theorem flat_length (l : List S31) : (flatT l).length = l.length * 2 := by
  induction l with
  | nil => rfl
  | cons x l ih => simp only [flatT, List.flatMap_cons, List.length_append, List.length_cons] at ih ⊢; rw [show (List.flatMap cellsT l).length = l.length * 2 from ih]; simp [cellsT]; omega
theorem flat_get : ∀ (l : List S31) (i : Nat) (h : i < l.length), (flatT l)[i * 2]? = some (.int .u32 l[i].f0) ∧ (flatT l)[i * 2 + 1]? = some (.int .i64 l[i].f1)
  | x :: l, 0, h => ⟨rfl, rfl⟩
  | x :: l, i + 1, h => by
    have := flat_get l i (by simpa using h)
    have e1 : (i + 1) * 2 = i * 2 + 2 := by omega
    rw [e1]
    exact this
theorem flatK_eq (l : List S31) : (flatK cellsT 2 l.toArray).toList = flatT l := by
  apply List.ext_getElem?
  intro t
  have hs := size_flatK cellsT 2 l.toArray
  by_cases ht : t < l.length * 2
  · have h1 : t / 2 < l.length := by omega
    have h2 : (flatK cellsT 2 l.toArray).toList[t]? = some ((cellsT l.toArray[t / 2]!)[t % 2]!) := by
      rw [← get_flatK cellsT 2 l.toArray t (by simpa using ht)]
      rw [Array.getElem?_toList, Array.getElem?_eq_getElem (by rw [hs]; simpa using ht), getElem!_pos _ t (by rw [hs]; simpa using ht)]
    rw [h2]
    have h3 : l.toArray[t / 2]! = l[t / 2] := by simp [h1]
    rw [h3]
    have hg := flat_get l (t / 2) h1
    rcases Nat.mod_two_eq_zero_or_one t with e | e
    · have h4 := hg.1
      rw [show t / 2 * 2 = t by omega] at h4
      rw [e, h4]
      rfl
    · have h4 := hg.2
      rw [show t / 2 * 2 + 1 = t by omega] at h4
      rw [e, h4]
      rfl
  · rw [List.getElem?_eq_none (by rw [Array.length_toList, hs]; simpa using ht), List.getElem?_eq_none (by rw [flat_length]; omega)]
/-- What the sort leaves: the row holds the tasks so; all else is as it was, but for new blocks. -/
theorem sort_row {w : World} {g n cap m : Nat} {l d : List S31} {os : Array Obj} {base : Nat} (h : w.ownsRow base 31 2 (.slice (some ⟨g, 0, none⟩) n cap) n (flatT l)) (hn : l.length = n) (hd : d.length = n) :
    (sortWorldK cellsT 2 w g 0 m d.toArray os).ownsRow base 31 2 (.slice (some ⟨g, 0, none⟩) n cap) n (flatT d) ∧ w.grownBy (sortWorldK cellsT 2 w g 0 m d.toArray os) (some g) := by
  obtain ⟨h1, h2⟩ := h
  rcases h2 with ⟨hv, _⟩ | ⟨g', cap', cur, hv, hb, hh, hnc, hcm, hcs, ht⟩
  · cases hv
  injection hv with ha _ hc
  injection ha with ha
  injection ha with hg
  subst hg; subst hc
  have hlt : g < w.heap.size := blk_lt hh
  have hsz : (sortWorldK cellsT 2 w g 0 m d.toArray os).heap.size = w.heap.size + os.size := by
    unfold sortWorldK grow putRowK putRow mapBlock Sort.ahead
    simp
  have hblk : ∀ k, k < w.heap.size → (sortWorldK cellsT 2 w g 0 m d.toArray os).heap[k]? = (mapBlock (Sort.ahead w m) g (putCells id 0 (flatK cellsT 2 d.toArray))).heap[k]? := by
    intro k hk
    show ((putRowK cellsT 2 (Sort.ahead w m) g 0 d.toArray).heap ++ os)[k]? = _
    rw [Array.getElem?_append_left (by unfold putRowK putRow mapBlock Sort.ahead; simpa using hk)]
    rfl
  have hgb : (sortWorldK cellsT 2 w g 0 m d.toArray os).heap[g]? = some (.cells (putCells id 0 (flatK cellsT 2 d.toArray) cur) 31 (0, 0)) := by
    rw [hblk g hlt]
    unfold mapBlock Sort.ahead
    simp [Array.getElem?_modify, hh, onCells]
  have hfs : (flatK cellsT 2 d.toArray).size = n * 2 := by rw [size_flatK]; simp [hd]
  refine ⟨⟨by rw [flat_length, hd], .inr ⟨g, cap, _, rfl, hb, hgb, hnc, hcm, by unfold putCells; simp [hcs], ?_⟩⟩, ?_⟩
  · apply List.ext_getElem?
    intro t
    by_cases htn : t < n * 2
    · rw [List.getElem?_take_of_lt htn, ← flatK_eq, Array.getElem?_toList, Array.getElem?_toList]
      unfold putCells
      have hcur : t < cur.size := by
        have : n * 2 ≤ cap * 2 := Nat.mul_le_mul_right _ hnc
        omega
      rw [Array.getElem?_mapIdx, Array.getElem?_eq_getElem hcur, Array.getElem?_eq_getElem (by rw [hfs]; exact htn)]
      simp only [Option.map_some, Nat.zero_le, Nat.zero_add, true_and, hfs, htn, if_true, Nat.sub_zero, id]
      rw [getElem!_pos _ t (by rw [hfs]; exact htn)]
    · rw [List.getElem?_eq_none (by rw [List.length_take]; omega), List.getElem?_eq_none (by rw [flat_length, hd]; omega)]
  · refine ⟨rfl, rfl, rfl, by rw [hsz]; omega, fun k hk hne => ?_⟩
    rw [hblk k hk]
    unfold mapBlock Sort.ahead
    rw [Array.getElem?_modify, if_neg (fun e => hne (by rw [e]))]
end Go.Proofs.Ytpnoghnhlddjeaa.Hp
