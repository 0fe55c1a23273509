/- slices.Clone of labels: a row of one's own: walked. No law is proved here. -/
import Derived.Test.YtlhlaadnifkdhaaSerA
namespace Go.Proofs.Ytlhlaadnifkdhaa.Sr
open Go.RowKit Go.Proofs.YtlhlaadnifkdhaaW.PrintWords Go.Proofs.YtlhlaadnifkdhaaW.PrintLast Go.Proofs.YtlhlaadnifkdhaaW.PrintMore Go.Proofs.Ytlhlaadnifkdhaa.Q Go.Proofs.Ytlhlaadnifkdhaa.Own Go.Proofs.Ytlhlaadnifkdhaa.Nmd
set_option linter.unusedVariables false
set_option linter.unusedSimpArgs false
attribute [local go_sem ↓] Go.wp_at_zero Go.wp_at_succ

abbrev LB := S31
abbrev kL : Kd LB := k31
abbrev rowL (v : Value) (l : List LB) : Th := rowT kL 31 v l
theorem infL : (Try.prog.info? 31).map (fun i => (i.zero, i.size, i.bytes)) = some (some (.agg #[.string ⟨#[]⟩, .string ⟨#[]⟩]), 2, 32) := by kernel_rfl
theorem kL_KM {W : World} {base : Nat} {ok : Nat → Prop} (x : LB) (cs : List Value) (h : kL.K W x cs) : kL.M W base ok x cs := by
  rw [k31_open h]
  exact k31_mkM _ _ _ x
set_option maxHeartbeats 1000000 in
set_option maxRecDepth 100000 in
theorem clone_calls {B : Nat} {w : World} {Ts : List Th} (h : Has B w Ts) {A : Option Addr} {c : Nat} {l : List LB} (hC : ∀ w', Below w.heap.size w w' → Kd.C kL w' A l.length l) (hm : l.length ≤ 1000000) :
    Calls Try.prog 30 #[.slice A l.length c] w fun e w' => ∃ v, e = .returned v ∧ Has B w' (rowL v l :: Ts) ∧ Below B w w' := by
  have HC := Aside0.mk hC
  have HM := Aside0.mk hm
  have HH := Aside0.mk h
  cases A with
  | none =>
    have hx : l = [] := by
      rcases l with _ | ⟨y, l⟩
      · rfl
      · obtain ⟨ad, e, _⟩ := (hC w (Below.refl _ _)).2.2 (by simp)
        cases e
    subst hx
    clear hC h hm
    have huf : ∀ W : World, (binOp .eql 32 (.slice none 0 c) (.slice none 0 0)).run Try.prog W = .ok (.bool true) W := fun W => by kernel_rfl
    go_enter Try.func30, Try.ntmps30
    go_wp2_with fail
    go_ret
    exact ⟨_, rfl, row_nil kL HH.out 31, Below.refl _ _⟩
  | some ad =>
    have HE := Aside0.mk (lit_0 kL h 31)
    have HB : Aside0 (Below B w (w.alloc (.cells #[] 31))) := ⟨(Below.refl _ w).alloc h.size _⟩
    have HC1 := Aside0.mk (hC (w.alloc (.cells #[] 31)) ((Below.refl _ w).alloc (Nat.le_refl _) _))
    have huf : ∀ W : World, (binOp .eql 32 (.slice (some ad) l.length c) (.slice none 0 0)).run Try.prog W = .ok (.bool false) W := fun W => by kernel_rfl
    clear hC h hm
    go_enter Try.func30, Try.ntmps30
    go_wp2_with (refine rows_app kL HE.out rfl _ _ 32 (.agg #[.string ⟨#[]⟩, .string ⟨#[]⟩]) 32 rfl Try.underlying32 infL rfl (by decide) (by decide) (some ad) c rfl rfl HC1.out (fun x cs hx => kL_KM x cs hx) (by show (0 + l.length) * 32 ≤ 140737488355328; have := HM.out; omega) ?_; rintro v1 w1 hA1 hB1; have HA1 : Aside0 (Has B w1 (rowL v1 l :: Ts)) := ⟨hA1⟩; have HB1 := Aside0.mk (HB.out.trans hB1); clear hA1 hB1)
    go_ret
    exact ⟨v1, rfl, HA1.out, HB1.out⟩
end Go.Proofs.Ytlhlaadnifkdhaa.Sr
