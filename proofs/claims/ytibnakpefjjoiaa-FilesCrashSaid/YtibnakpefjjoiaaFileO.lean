/- A store of files: the names, rising: walked. No law is proved here. -/
import Derived.Test.YtibnakpefjjoiaaFileN
import Derived.Test.YtibnakpefjjoiaaKeys
namespace Go.Proofs.Ytibnakpefjjoiaa.Fs
open Go.RowKit Go.Shelf Go.Proofs.YtibnakpefjjoiaaW.PrintWords Go.Proofs.YtibnakpefjjoiaaW.PrintLast Go.Proofs.YtibnakpefjjoiaaW.PrintMore Go.Proofs.Ytibnakpefjjoiaa.Q Go.Proofs.Ytibnakpefjjoiaa.Own
set_option linter.unusedVariables false
set_option linter.unusedSimpArgs false
attribute [local go_sem ↓] Go.wp_at_zero Go.wp_at_succ

theorem rise_sorted {L : List SF} (h : Rise L) : (L.map nameL).Pairwise fun a b => a < b := by
  rw [List.pairwise_map]
  exact h
theorem names_sorted {w : World} {mb n : Nat} {D : DataW Value} {ok : Nat → Prop} {L : List SF} (hown : w.ownsMap Try.prog 9 RV mb n D) (hf : FilesAt w ok D L) (hr : Rise L) {ss : List (List UInt8)} (hp : ss.Perm (Go.strKeys D)) : ss.mergeSort (fun x y => decide (x ≤ y)) = L.map nameL := by
  have hperm : (L.map nameL).Perm (Go.strKeys D) := by
    obtain ⟨es, hD, hpw, _⟩ := hown.entries lawK
    obtain ⟨es', hD', hko⟩ := hown.keysOf
    obtain rfl : es = es' := by rw [hD] at hD'; simpa using hD'
    subst hD
    refine Go.perm_strKeys hpw (fun p hp => by obtain ⟨v, hv⟩ := hko p hp; obtain ⟨x, _, hx, _⟩ := Go.Maps.keyOf_str Try.underlying9 hv; exact ⟨x, hx⟩) ?_ (fun x => ?_)
    · exact (rise_sorted hr).imp fun {a b} q e => by rw [e] at q; exact List.lt_irrefl _ q
    · rw [hf.has]
      constructor
      · intro hx
        obtain ⟨y, hy, rfl⟩ := List.mem_map.1 hx
        rw [find_of (rise_unlike hr) hy]
        rfl
      · intro hx
        obtain ⟨y, hy⟩ := Option.isSome_iff_exists.1 hx
        obtain ⟨h1, h2⟩ := find_mem hy
        exact List.mem_map.2 ⟨y, h1, h2⟩
  have h1 : (ss.mergeSort (fun x y => decide (x ≤ y))).Perm (L.map nameL) := (List.mergeSort_perm ss _).trans (hp.trans hperm.symm)
  have tr : ∀ a b c : List UInt8, decide (a ≤ b) = true → decide (b ≤ c) = true → decide (a ≤ c) = true := fun a b c q1 q2 => by
    simp only [decide_eq_true_eq] at *
    exact List.le_trans q1 q2
  have tot : ∀ a b : List UInt8, (decide (a ≤ b) || decide (b ≤ a)) = true := fun a b => by
    simp only [Bool.or_eq_true, decide_eq_true_eq]
    exact List.le_total a b
  refine List.Perm.eq_of_pairwise (le := fun a b : List UInt8 => decide (a ≤ b) = true) (fun a b _ _ q1 q2 => ?_) (List.pairwise_mergeSort tr tot ss) ((rise_sorted hr).imp fun {a b} q => ?_) h1
  · simp only [decide_eq_true_eq] at q1 q2
    exact List.le_antisymm q1 q2
  · simp only [decide_eq_true_eq]
    exact List.le_of_lt q
def namesL (st : Stt) : List ByteArray := st.L.map fun x => x.f0
def NamesPost (w : World) (ns : List ByteArray) (e : Ending) (w' : World) : Prop := ∃ v, e = .returned v ∧ Kd.R Kd.string 9 w' w.heap.size (fun _ => True) v ns ∧ Below w.heap.size w w'
theorem encs_names (L : List SF) : (L.map nameL).map encStr = encs Value.string (L.map fun x => x.f0) := by
  unfold encs
  rw [List.map_map, List.map_map]
  exact List.map_congr_left fun x _ => rfl
set_option maxHeartbeats 1000000 in
set_option maxRecDepth 100000 in
theorem names_calls {B : Nat} {w : World} {p : Nat} {st : Stt} {Ts : List Th} (h : Has B w (stoT p st :: Ts)) (hg : OkS st) :
    Calls Try.prog 11 #[ptr p] w (NamesPost w (namesL st)) := by
  have HN := Aside0.mk (none_calls h)
  obtain ⟨F, ⟨hF, mb, D, h1, h2, h3, h4, h5, h6, h7⟩, hFb, put⟩ := h.head
  have c0 : w.cell? ⟨p, 0, none⟩ = some (.map (some mb)) := by rw [blk_cell h3]; rfl
  have hsz : Go.Maps.size D = st.L.length := h5.size
  have HK1 := Aside0.mk (callsIn_wide.1 ((Keys.maps_Keys (some mb) w)))
  have HK2 := Aside0.mk (callsIn_wide.1 ((Keys.sorted_keys mb st.L.length D RV w h4 (by unfold maxLen; have := hg.n; omega) (by have := hg.n; omega))))
  have HS := Aside0.mk (fun ss hp => names_sorted (ss := ss) h4 h5 h6 hp)
  clear h h3 h4 h5 h6 h7 put hFb hF
  go_enter Try.func11, Try.ntmps11
  go_wp2_with fail
  refine HN.out.mono ?_
  rintro e w1 ⟨rfl, rfl⟩
  go_wp2_with fail
  refine HK1.out.mono ?_
  rintro e w1 ⟨rfl, rfl⟩
  go_wp2_with fail
  refine HK2.out.mono ?_
  rintro e w2 ⟨v, ss, rfl, hp, hrow, -, hb⟩
  have hlen : ss.length = (namesL st).length := by
    have := congrArg List.length (HS.out ss hp)
    rw [List.length_mergeSort] at this
    unfold namesL
    simpa using this
  rw [HS.out ss hp, hlen, encs_names] at hrow
  have hR : Kd.R Kd.string 9 w2 w.heap.size (fun _ => True) v (namesL st) := Kd.R_lower (Kd.R_of_own hrow (fun _ _ => trivial)) (by simp)
  have HR := Aside0.mk hR
  have HB : Aside0 (Below w.heap.size w w2) := ⟨((Below.refl _ w).alloc (Nat.le_refl _) _).trans (hb.mono (by simp))⟩
  clear hrow hp hb hR hlen HS
  go_wp2_with fail
  go_ret
  exact ⟨v, rfl, HR.out, HB.out⟩
end Go.Proofs.Ytibnakpefjjoiaa.Fs
