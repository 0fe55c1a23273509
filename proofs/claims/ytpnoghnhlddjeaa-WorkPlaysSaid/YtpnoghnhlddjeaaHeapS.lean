/- Plain laws of rising tasks, each rule once: one more, one less. No program in sight. -/
import Derived.Test.YtpnoghnhlddjeaaHeapF
namespace Go.Proofs.Ytpnoghnhlddjeaa.Hp
open Go.RowKit Go.Proofs.YtpnoghnhlddjeaaW.PrintWords Go.Proofs.Ytpnoghnhlddjeaa.Q Go.Proofs.Ytpnoghnhlddjeaa.Own
set_option linter.unusedVariables false
set_option linter.unusedSimpArgs false

def withL : List S31 → S31 → List S31
  | [], x => [x]
  | y :: s, x => if keyT x < keyT y then x :: y :: s else y :: withL s x
def withoutL (s : List S31) (r : Int) : List S31 := s.filter fun x => x.f0 != r
def pushS (s : List S31) (x : S31) : List S31 := if hasL s x.f0 = true then s else withL s x
def pushE (s : List S31) (x : S31) : Int := if hasL s x.f0 = true then 2 else 0
theorem with_perm : ∀ (s : List S31) (x : S31), (withL s x).Perm (x :: s)
  | [], x => List.Perm.refl _
  | y :: s, x => by
    unfold withL
    split
    · exact List.Perm.refl _
    · exact (List.Perm.cons y (with_perm s x)).trans (List.Perm.swap x y s)
theorem key_ne {x y : S31} (hx : GoodT x) (hy : GoodT y) (h : x.f0 ≠ y.f0) : keyT x ≠ keyT y := by
  obtain ⟨a, b⟩ := hx
  obtain ⟨c, d⟩ := hy
  unfold keyT
  omega
theorem key_inj {x y : S31} (hx : GoodT x) (hy : GoodT y) (h : keyT x = keyT y) : x = y := by
  obtain ⟨a, b⟩ := hx
  obtain ⟨c, d⟩ := hy
  obtain ⟨x0, x1⟩ := x
  obtain ⟨y0, y1⟩ := y
  unfold keyT at h
  simp only at a b c d h
  have e1 : x0 = y0 := by omega
  have e2 : x1 = y1 := by omega
  rw [e1, e2]
theorem hasL_false {s : List S31} {r : Int} : hasL s r = false ↔ ∀ y ∈ s, y.f0 ≠ r := by
  unfold hasL
  rw [List.any_eq_false]
  simp
theorem hasL_true {s : List S31} {r : Int} : hasL s r = true ↔ ∃ y ∈ s, y.f0 = r := by
  unfold hasL
  rw [List.any_eq_true]
  simp
theorem with_rise : ∀ (s : List S31) (x : S31), s.Pairwise (fun a b => keyT a < keyT b) → (∀ y ∈ s, keyT y ≠ keyT x) → (withL s x).Pairwise fun a b => keyT a < keyT b
  | [], x, _, _ => by simp [withL]
  | y :: s, x, h, hn => by
    unfold withL
    obtain ⟨h1, h2⟩ := List.pairwise_cons.1 h
    have hy := hn y List.mem_cons_self
    split
    · rename_i hlt
      refine List.pairwise_cons.2 ⟨fun z hz => ?_, h⟩
      rcases List.mem_cons.1 hz with rfl | hz
      · exact hlt
      · exact Int.lt_trans hlt (h1 z hz)
    · rename_i hlt
      refine List.pairwise_cons.2 ⟨fun z hz => ?_, with_rise s x h2 fun z hz => hn z (List.mem_cons_of_mem _ hz)⟩
      rcases List.mem_cons.1 ((with_perm s x).subset hz) with rfl | hz
      · omega
      · exact h1 z hz
theorem good_with {s : List S31} (h : GoodS s) {x : S31} (hx : GoodT x) (hn : hasL s x.f0 = false) (hm : s.length < 1000000) : GoodS (withL s x) := by
  have hn' := hasL_false.1 hn
  refine ⟨fun y hy => ?_, with_rise s x h.rise fun y hy => key_ne (h.good y hy) hx (hn' y hy), ?_, ?_⟩
  · rcases List.mem_cons.1 ((with_perm s x).subset hy) with rfl | hy
    · exact hx
    · exact h.good y hy
  · exact ((with_perm s x).pairwise_iff (R := fun a b : S31 => a.f0 ≠ b.f0) (fun hab => Ne.symm hab)).2 (List.pairwise_cons.2 ⟨fun y hy => Ne.symm (hn' y hy), h.once⟩)
  · rw [(with_perm s x).length_eq]
    exact hm
theorem good_push {s : List S31} (h : GoodS s) {x : S31} (hx : GoodT x) (hm : s.length < 1000000) : GoodS (pushS s x) := by
  unfold pushS
  cases hn : hasL s x.f0 with
  | true => exact h
  | false => exact good_with h hx hn hm
theorem push_length (s : List S31) (x : S31) : (pushS s x).length ≤ s.length + 1 := by
  unfold pushS
  split
  · omega
  · rw [(with_perm s x).length_eq]; simp
theorem good_sub {s t : List S31} (h : GoodS s) (ht : t.Sublist s) : GoodS t :=
  ⟨fun y hy => h.good y (ht.subset hy), h.rise.sublist ht, h.once.sublist ht, Nat.le_trans ht.length_le h.few⟩
theorem good_without {s : List S31} (h : GoodS s) (r : Int) : GoodS (withoutL s r) := good_sub h List.filter_sublist
theorem good_tail {x : S31} {s : List S31} (h : GoodS (x :: s)) : GoodS s := good_sub h (List.sublist_cons_self x s)
theorem good_nil : GoodS [] := ⟨fun _ h => absurd h List.not_mem_nil, List.Pairwise.nil, List.Pairwise.nil, Nat.zero_le _⟩
/-- What rises is told by its elements. -/
theorem rise_unique {s t : List S31} (hs : s.Pairwise fun a b => keyT a < keyT b) (ht : t.Pairwise fun a b => keyT a < keyT b) (h : s.Perm t) : s = t := by
  refine List.Perm.eq_of_pairwise (le := fun a b => keyT a < keyT b) (fun a b _ _ h1 h2 => ?_) hs ht h
  omega
theorem without_first {x : S31} {s : List S31} (h : GoodS (x :: s)) : withoutL (x :: s) x.f0 = s := by
  unfold withoutL
  rw [List.filter_cons]
  simp only [bne_self_eq_false, Bool.false_eq_true, if_false]
  refine List.filter_eq_self.2 fun y hy => ?_
  have := (List.pairwise_cons.1 h.once).1 y hy
  simpa [bne_iff_ne] using (Ne.symm this)
end Go.Proofs.Ytpnoghnhlddjeaa.Hp
