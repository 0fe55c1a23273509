/- What expires, in plain words; a map under way, as a thing. No law is proved here. -/
import Derived.Test.YtlhlaadnifkdhaaSerE
import Derived.Maps.RangeWalk
namespace Go.Proofs.Ytlhlaadnifkdhaa.Sr
open Go.RowKit Go.Proofs.YtlhlaadnifkdhaaW.PrintWords Go.Proofs.YtlhlaadnifkdhaaW.PrintLast Go.Proofs.YtlhlaadnifkdhaaW.PrintMore Go.Proofs.Ytlhlaadnifkdhaa.Q Go.Proofs.Ytlhlaadnifkdhaa.Own Go.Proofs.Ytlhlaadnifkdhaa.Nmd
set_option linter.unusedVariables false
set_option linter.unusedSimpArgs false

/-- A series while the store expires: those still to come are as they were. -/
def nowS (lf : List UInt8 → Bool) (at_ : Int) (s : SS) : SS := ⟨s.e, s.ls, if lf (keyS' s) = true then s.xs else expL s.xs at_⟩
def nowL (lf : List UInt8 → Bool) (at_ : Int) (L : List SS) : List SS := L.map (nowS lf at_)
def stays (lf : List UInt8 → Bool) (s : SS) : Bool := lf (keyS' s) || !s.xs.isEmpty
/-- The entries that the map has. -/
def esL (lf : List UInt8 → Bool) (at_ : Int) (L : List SS) : List SE := ((nowL lf at_ L).filter (stays lf)).map fun s => s.e
def goneL (lf : List UInt8 → Bool) (at_ : Int) (L : List SS) : Nat := (L.map fun s => if lf (keyS' s) = true then 0 else s.xs.length - (expL s.xs at_).length).sum
section
variable {L1 L2 : List SS} {s : SS} {lf lf' : List UInt8 → Bool} {at_ : Int}
theorem other1 (hu : (L1 ++ s :: L2).Pairwise fun a b => keyS' a ≠ keyS' b) (h : ∀ n, lf' n = (lf n && n != keyS' s)) : (∀ t ∈ L1, lf' (keyS' t) = lf (keyS' t)) ∧ ∀ t ∈ L2, lf' (keyS' t) = lf (keyS' t) := by
  obtain ⟨-, h2, h3⟩ := List.pairwise_append.1 hu
  obtain ⟨h4, -⟩ := List.pairwise_cons.1 h2
  refine ⟨fun t ht => ?_, fun t ht => ?_⟩
  · rw [h, bne_iff_ne.2 (h3 t ht s (List.mem_cons_self ..)), Bool.and_true]
  · rw [h, bne_iff_ne.2 (fun q => h4 t ht q.symm), Bool.and_true]
theorem now_same {L : List SS} (h : ∀ t ∈ L, lf' (keyS' t) = lf (keyS' t)) : nowL lf' at_ L = nowL lf at_ L := by
  refine List.map_congr_left fun t ht => ?_
  unfold nowS
  rw [h t ht]
theorem stay_same {L : List SS} (h : ∀ t ∈ L, lf' (keyS' t) = lf (keyS' t)) : (nowL lf at_ L).filter (stays lf') = (nowL lf at_ L).filter (stays lf) := by
  refine List.filter_congr fun t ht => ?_
  obtain ⟨u, hu, rfl⟩ := List.mem_map.1 ht
  unfold stays
  rw [show lf' (keyS' (nowS lf at_ u)) = lf (keyS' (nowS lf at_ u)) from h u hu]
theorem now_cut (hu : (L1 ++ s :: L2).Pairwise fun a b => keyS' a ≠ keyS' b) (h : ∀ n, lf' n = (lf n && n != keyS' s)) (hs : lf (keyS' s) = true) :
    nowL lf at_ (L1 ++ s :: L2) = nowL lf at_ L1 ++ s :: nowL lf at_ L2 ∧ nowL lf' at_ (L1 ++ s :: L2) = nowL lf at_ L1 ++ ⟨s.e, s.ls, expL s.xs at_⟩ :: nowL lf at_ L2 := by
  obtain ⟨o1, o2⟩ := other1 hu h
  have e1 : nowS lf at_ s = s := by unfold nowS; rw [if_pos hs]
  have e2 : nowS lf' at_ s = ⟨s.e, s.ls, expL s.xs at_⟩ := by unfold nowS; rw [if_neg (by rw [h]; simp)]
  constructor
  · unfold nowL
    rw [List.map_append, List.map_cons, e1]
  · rw [← now_same (at_ := at_) o1, ← now_same (at_ := at_) o2]
    unfold nowL
    rw [List.map_append, List.map_cons, e2]
theorem es_keep (hu : (L1 ++ s :: L2).Pairwise fun a b => keyS' a ≠ keyS' b) (h : ∀ n, lf' n = (lf n && n != keyS' s)) (hs : lf (keyS' s) = true) (hx : expL s.xs at_ ≠ []) : esL lf' at_ (L1 ++ s :: L2) = esL lf at_ (L1 ++ s :: L2) := by
  obtain ⟨o1, o2⟩ := other1 hu h
  obtain ⟨e1, e2⟩ := now_cut (at_ := at_) hu h hs
  unfold esL
  rw [e1, e2, List.filter_append, List.filter_append, stay_same o1, List.filter_cons_of_pos (by unfold stays; cases q : expL s.xs at_ with | nil => exact absurd q hx | cons _ _ => simp), List.filter_cons_of_pos (by unfold stays; rw [hs]; rfl), stay_same o2]
  simp
theorem es_cut (hu : (L1 ++ s :: L2).Pairwise fun a b => keyS' a ≠ keyS' b) (h : ∀ n, lf' n = (lf n && n != keyS' s)) (hs : lf (keyS' s) = true) (hx : expL s.xs at_ = []) : esL lf' at_ (L1 ++ s :: L2) = cutF keyE (esL lf at_ (L1 ++ s :: L2)) (keyS' s) := by
  obtain ⟨o1, o2⟩ := other1 hu h
  obtain ⟨e1, e2⟩ := now_cut (at_ := at_) hu h hs
  obtain ⟨-, h2, h3⟩ := List.pairwise_append.1 hu
  obtain ⟨h4, -⟩ := List.pairwise_cons.1 h2
  have keep : ∀ (L : List SS), (∀ t ∈ L, keyS' t ≠ keyS' s) → cutF keyE (((nowL lf at_ L).filter (stays lf)).map fun s => s.e) (keyS' s) = ((nowL lf at_ L).filter (stays lf)).map fun s => s.e := by
    intro L hL
    unfold cutF
    rw [List.filter_eq_self]
    intro a ha
    obtain ⟨t, ht, rfl⟩ := List.mem_map.1 ha
    obtain ⟨u, hu, rfl⟩ := List.mem_map.1 (List.mem_filter.1 ht).1
    exact bne_iff_ne.2 (hL u hu)
  have k1 := keep L1 fun t ht => h3 t ht s (List.mem_cons_self ..)
  have k2 := keep L2 fun t ht q => h4 t ht q.symm
  unfold cutF at k1 k2 ⊢
  unfold esL
  rw [e1, e2, List.filter_append, List.filter_append, stay_same o1, List.filter_cons_of_neg (by unfold stays; rw [h]; simp [hx, keyS']), List.filter_cons_of_pos (by unfold stays; rw [hs]; rfl), stay_same o2, List.map_append, List.map_append, List.map_cons, List.filter_append, k1, List.filter_cons_of_neg (by simp [keyS']), k2]
theorem gone_cut (hu : (L1 ++ s :: L2).Pairwise fun a b => keyS' a ≠ keyS' b) (h : ∀ n, lf' n = (lf n && n != keyS' s)) (hs : lf (keyS' s) = true) : goneL lf' at_ (L1 ++ s :: L2) = goneL lf at_ (L1 ++ s :: L2) + (s.xs.length - (expL s.xs at_).length) := by
  obtain ⟨o1, o2⟩ := other1 hu h
  have same : ∀ L : List SS, (∀ t ∈ L, lf' (keyS' t) = lf (keyS' t)) → goneL lf' at_ L = goneL lf at_ L := fun L hL => by
    unfold goneL
    congr 1
    exact List.map_congr_left fun t ht => by rw [hL t ht]
  have a1 := same L1 o1
  have a2 := same L2 o2
  unfold goneL at a1 a2 ⊢
  rw [List.map_append, List.map_append, List.map_cons, List.map_cons, List.sum_append, List.sum_append, List.sum_cons, List.sum_cons, a1, a2, if_pos hs, if_neg (by rw [h]; simp)]
  omega
end
theorem gone_le (lf : List UInt8 → Bool) (at_ : Int) : ∀ {L : List SS}, (∀ s ∈ L, s.xs.length ≤ 32) → goneL lf at_ L ≤ 32 * L.length
  | [], _ => Nat.le_refl _
  | s :: L, h => by
    have ih := gone_le lf at_ (L := L) fun t ht => h t (List.mem_cons_of_mem _ ht)
    have h1 := h s (List.mem_cons_self ..)
    unfold goneL at ih ⊢
    rw [List.map_cons, List.sum_cons, List.length_cons]
    split <;> omega
end Go.Proofs.Ytlhlaadnifkdhaa.Sr
