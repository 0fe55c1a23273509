/- A store of files: its small methods, walked. No law is proved here. -/
import Derived.Test.YtibnakpefjjoiaaFileA
import Derived.Test.YtibnakpefjjoiaaWLast
import Derived.Deep.RegionHeld3
import Derived.Deep.DrawnRows
import Derived.BigRegion
import Derived.BigQuiet
import Derived.Scope
namespace Go.Proofs.Ytibnakpefjjoiaa.Fs
open Go.RowKit Go.Proofs.YtibnakpefjjoiaaW.PrintWords Go.Proofs.YtibnakpefjjoiaaW.PrintLast Go.Proofs.Ytibnakpefjjoiaa.Q Go.Proofs.Ytibnakpefjjoiaa.Own
set_option linter.unusedVariables false
set_option linter.unusedSimpArgs false
attribute [local go_sem ↓] Go.wp_at_zero Go.wp_at_succ

theorem cell_al {W : World} {a : Addr} {v : Value} (o : Obj) (h : W.cell? a = some v) : (W.alloc o).cell? a = some v := (World.cell?_alloc_some W a o (by rw [h]; rfl)).trans h
theorem store_cells {B : Nat} {w : World} {p : Nat} {left acts : Int} {L : List SF} {o : Option Op} {Ts : List Th} (h : Has B w (storeT p left acts L o :: Ts)) :
    ∃ mb, w.cell? ⟨p, 0, none⟩ = some (.map (some mb)) ∧ w.cell? ⟨p, 1, none⟩ = some (.int .i64 left) ∧ w.cell? ⟨p, 2, none⟩ = some (.int .i64 acts) ∧ (∀ i, w.frozen? ⟨p, i, none⟩ = false) ∧ mb ≠ p ∧ p < w.heap.size := by
  obtain ⟨F, ⟨hF, mb, D, h1, h2, h3, h4, h5, h6, h7⟩, hFb, -⟩ := h.head
  exact ⟨mb, by rw [blk_cell h3]; rfl, by rw [blk_cell h3]; rfl, by rw [blk_cell h3]; rfl, fun i => blk_frozen h3 i, h2, (hFb p hF).2⟩
/-- The store's numbers are turned. -/
theorem store_set {B : Nat} {w : World} {p : Nat} {left acts : Int} {L : List SF} {o : Option Op} {Ts : List Th} (h : Has B w (storeT p left acts L o :: Ts)) (x : Int) :
    (Has B (w.setCell ⟨p, 1, none⟩ (.int .i64 x)) (storeT p x acts L o :: Ts) ∧ Below B w (w.setCell ⟨p, 1, none⟩ (.int .i64 x))) ∧ (Has B (w.setCell ⟨p, 2, none⟩ (.int .i64 x)) (storeT p left x L o :: Ts) ∧ Below B w (w.setCell ⟨p, 2, none⟩ (.int .i64 x))) := by
  obtain ⟨F, ⟨hF, mb, D, h1, h2, h3, h4, h5, h6, h7⟩, hFb, put⟩ := h.head
  have key : ∀ (i : Nat) (u : Value) (lf ac : Int), (#[.map (some mb), .int .i64 left, .int .i64 acts] : Array Value).setIfInBounds i u = #[.map (some mb), .int .i64 lf, .int .i64 ac] → Has B (w.setCell ⟨p, i, none⟩ u) (storeT p lf ac L o :: Ts) ∧ Below B w (w.setCell ⟨p, i, none⟩ u) := by
    intro i u lf ac e
    have hset := blk_set h3 i u
    rw [e] at hset
    refine put _ F _ ((KeepF.refl F w).setCell (.inl hF) u) ⟨hF, mb, D, h1, h2, hset, h4.setCell h2 u, h5.step (fun k hk _ => Below.heap_setCell w ⟨p, i, none⟩ u k hk.2.1) (fun k hk => hk), h6, fun q e => ⟨(h7 q e).mem, (h7 q e).nep, (h7 q e).nem, (Below.heap_setCell w ⟨p, i, none⟩ u _ (h7 q e).nep).trans (h7 q e).box, (h7 q e).le, Kd.F_step (h7 q e).bytes (fun k hk _ => Below.heap_setCell w ⟨p, i, none⟩ u k hk.2.1)⟩⟩ (fun k hk => ⟨.inl hk, by have := (hFb k hk).2; simpa using this⟩)
  exact ⟨key 1 _ x acts rfl, key 2 _ left x rfl⟩
set_option maxRecDepth 100000 in
theorem none_calls {B : Nat} {w : World} {p : Nat} {left acts : Int} {L : List SF} {o : Option Op} {Ts : List Th} (h : Has B w (storeT p left acts L o :: Ts)) :
    Calls Try.prog 33 #[ptr p] w fun e w' => e = .returned (.bool false) ∧ w = w' := by
  obtain ⟨mb, c0, c1, c2, cf, hne, hlt⟩ := store_cells h
  have huf : ∀ W : World, (binOp .eql 60 (.map (some mb)) (.map none)).run Try.prog W = .ok (.bool false) W := fun W => by
    first
    | kernel_rfl
    | rfl
  clear h
  go_enter Try.func33, Try.ntmps33
  go_wp2
  go_ret
  exact ⟨rfl, rfl⟩
def refuseE (left : Int) : Int := if left = 0 then 30 else 0
set_option maxRecDepth 100000 in
theorem refuse_calls {B : Nat} {w : World} {p : Nat} {left acts : Int} {L : List SF} {o : Option Op} {Ts : List Th} (h : Has B w (storeT p left acts L o :: Ts)) :
    Calls Try.prog 30 #[ptr p] w fun e w' => e = .returned (.int .i64 (refuseE left)) ∧ w = w' := by
  have HN := Aside0.mk (none_calls h)
  obtain ⟨mb, c0, c1, c2, cf, hne, hlt⟩ := store_cells h
  clear h
  by_cases hl : left = 0
  · have e : refuseE left = 30 := if_pos hl
    rw [e]
    subst hl
    clear e
    go_enter Try.func30, Try.ntmps30
    go_wp2_with fail
    refine HN.out.mono ?_
    rintro e w1 ⟨rfl, rfl⟩
    go_wp2_with fail
    go_ret
    exact ⟨rfl, rfl⟩
  · have e : refuseE left = 0 := if_neg hl
    rw [e]
    have e1 : (left == 0) = false := beq_eq_false_iff_ne.2 hl
    clear e
    go_enter Try.func30, Try.ntmps30
    go_wp2_with fail
    refine HN.out.mono ?_
    rintro e w1 ⟨rfl, rfl⟩
    go_wp2_with fail
    go_ret
    exact ⟨rfl, rfl⟩
def leftF (left : Int) : Int := if left > 0 then left - 1 else left
def ActPost (B : Nat) (w : World) (p : Nat) (left acts : Int) (L : List SF) (o : Option Op) (Ts : List Th) (r : Value) (e : Ending) (w' : World) : Prop := e = .returned r ∧ Has B w' (storeT p left acts L o :: Ts) ∧ Below B w w'
set_option maxRecDepth 100000 in
theorem act_calls {B : Nat} {w : World} {p : Nat} {left acts : Int} {L : List SF} {o : Option Op} {Ts : List Th} (h : Has B w (storeT p left acts L o :: Ts)) (ha : 0 ≤ acts) (hb : acts < 1000000) (hw : -1 ≤ left) (hw2 : left ≤ 9223372036854775807) :
    Calls Try.prog 32 #[ptr p] w (ActPost B w p (leftF left) (acts + 1) L o Ts (.int .i64 0)) := by
  obtain ⟨mb, c0, c1, c2, cf, hne, hlt⟩ := store_cells h
  obtain ⟨-, hA, hB⟩ := store_set h (acts + 1)
  have f2 := cf 2
  obtain ⟨mb2, d0, d1, d2, df, -, -⟩ := store_cells hA
  have g1 := df 1
  by_cases hl : left > 0
  · have e : leftF left = left - 1 := if_pos hl
    rw [e]
    obtain ⟨⟨hA2, hB2⟩, -⟩ := store_set hA (left - 1)
    have HA2 := Aside0.mk hA2
    have HB2 := Aside0.mk (hB.trans hB2)
    have e1 : decide (left > 0) = true := decide_eq_true hl
    have ew : wrap64 (acts + 1) = acts + 1 := by unfold wrap64; omega
    have ew2 : wrap64 (left - 1) = left - 1 := by unfold wrap64; omega
    clear h hA hB hA2 hB2 e cf df
    go_enter Try.func32, Try.ntmps32
    go_wp2_with fail
    go_ret
    exact ⟨rfl, HA2.out, HB2.out⟩
  · have e : leftF left = left := if_neg hl
    rw [e]
    have HA2 := Aside0.mk hA
    have HB2 := Aside0.mk hB
    have e1 : decide (left > 0) = false := decide_eq_false hl
    have ew : wrap64 (acts + 1) = acts + 1 := by unfold wrap64; omega
    clear h hA hB e cf df
    go_enter Try.func32, Try.ntmps32
    go_wp2_with fail
    go_ret
    exact ⟨rfl, HA2.out, HB2.out⟩
end Go.Proofs.Ytibnakpefjjoiaa.Fs
