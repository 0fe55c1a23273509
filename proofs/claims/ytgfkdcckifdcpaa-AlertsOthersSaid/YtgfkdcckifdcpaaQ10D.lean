/- Functions of the program as plain Lean functions, each with the proof that its call comes to just these answers: written by a program of this session (wip/tools/printg.py over the kit's print) for this claim. -/
import Derived.Test.YtgfkdcckifdcpaaQ0
import Derived.Test.YtgfkdcckifdcpaaQ2
import Derived.Test.YtgfkdcckifdcpaaQ3
import Derived.Test.YtgfkdcckifdcpaaQ4
import Derived.Test.YtgfkdcckifdcpaaQ5
import Derived.Test.YtgfkdcckifdcpaaQ7
import Derived.Test.YtgfkdcckifdcpaaQ9
namespace Go.Proofs.Ytgfkdcckifdcpaa.Q
open Go.RowKit Go.Proofs.YtgfkdcckifdcpaaW.PrintWords Go.Proofs.YtgfkdcckifdcpaaW.PrintLast Go.Proofs.YtgfkdcckifdcpaaW.PrintMore
attribute [local go_sem] Opn.str_leq Opn.str_gtr Opn.str_geq max2_int min2_int max_two min_two max_three min_three max_four min_four   -- for this text's walks alone
set_option linter.unusedVariables false
set_option linter.unusedSimpArgs false

/-- Which of n operations are done: the bits of a number. -/
def bs_ (n k : Nat) : Array Bool := ((List.range n).map fun i => Nat.testBit k i).toArray
theorem s1_ {α : Type} (x a : α) (xs : List α) : (x :: xs).set 0 a = a :: xs := rfl
theorem s3_ {α : Type} (l : List α) (i : Nat) (a : α) : l.toArray.setIfInBounds i a = (l.set i a).toArray := by simp
theorem bc_ {w w' : World} (hb : Below w.heap.size w w') {a : Addr} {v : Value} (h : w.cell? a = some v) : w'.cell? a = some v := (hb.cell (World.block_lt_of_cell? w _ h)).trans h
theorem s2_ {α : Type} (x a : α) (xs : List α) (n : Nat) : (x :: xs).set (n + 1) a = x :: xs.set n a := rfl
/-! ### tocsinlaw22_AlertsOthers: function 5 -/
mutual
def tocsinlaw22_AlertsOthers.j0 : Nat → List (S36) → Int → Int → Int → Int → List ByteArray → Bool → Option (Bool)
 | 0, _, _, _, _, _, _, _ => none
 | k + 1, x0, x1, x2, x3, x4, x5, x40 => if x40 = true then (some true) else (tocsinlaw22_AlertsOthers.l0 k x0 x1 x2 x3 x4 x5 ([] : List (S36)) ([] : List (S36)) 0)
def tocsinlaw22_AlertsOthers.l0 : Nat → List (S36) → Int → Int → Int → Int → List ByteArray → List (S36) → List (S36) → Int → Option (Bool)
 | 0, _, _, _, _, _, _, _, _, _ => none
 | k + 1, x0, x1, x2, x3, x4, x5, x13, x14, x15 => if x15 < (x0.length : Int) then (if 0 ≤ x15 then ((tocsinlaw22_small.f ((rd_T36 x0 x15).f3)).bind fun t234 => (if t234 = true then ((tocsinlaw22_small.f ((rd_T36 x0 x15).f4)).bind fun t236 => (tocsinlaw22_AlertsOthers.j2 k x0 x1 x2 x3 x4 x5 x13 x14 x15 (!t236))) else (tocsinlaw22_AlertsOthers.j2 k x0 x1 x2 x3 x4 x5 x13 x14 x15 true))) else (none)) else (tocsinlaw22_AlertsOthers.l2 k x0 x1 x2 x3 x4 x5 x13 x14 ([] : List ByteArray) 0)
def tocsinlaw22_AlertsOthers.j2 : Nat → List (S36) → Int → Int → Int → Int → List ByteArray → List (S36) → List (S36) → Int → Bool → Option (Bool)
 | 0, _, _, _, _, _, _, _, _, _, _ => none
 | k + 1, x0, x1, x2, x3, x4, x5, x13, x14, x15, x62 => if x62 = true then (some true) else (if 0 ≤ x15 then (if x15 < (x0.length : Int) then (if ((rd_T36 x0 x15).f0) = x1 then (if x13.length < 2932031007402 then (tocsinlaw22_AlertsOthers.j3 k x0 x1 x2 x3 x4 x5 (x13 ++ [(⟨(rd_T36 x0 x15).f0, (rd_T36 x0 x15).f1, (rd_T36 x0 x15).f2, (rd_T36 x0 x15).f3, (rd_T36 x0 x15).f4⟩ : S36)]) x14 x15) else (none)) else (tocsinlaw22_AlertsOthers.j3 k x0 x1 x2 x3 x4 x5 x13 x14 x15)) else (none)) else (none))
def tocsinlaw22_AlertsOthers.j3 : Nat → List (S36) → Int → Int → Int → Int → List ByteArray → List (S36) → List (S36) → Int → Option (Bool)
 | 0, _, _, _, _, _, _, _, _, _ => none
 | k + 1, x0, x1, x2, x3, x4, x5, x13, x14, x15 => tocsinlaw22_AlertsOthers.l1 k x0 x1 x2 x3 x4 x5 x13 x14 x15 0
def tocsinlaw22_AlertsOthers.l1 : Nat → List (S36) → Int → Int → Int → Int → List ByteArray → List (S36) → List (S36) → Int → Int → Option (Bool)
 | 0, _, _, _, _, _, _, _, _, _, _ => none
 | k + 1, x0, x1, x2, x3, x4, x5, x13, x14, x15, x16 => if x16 < x15 then (if 0 ≤ x16 then (if x16 < (x0.length : Int) then (if 0 ≤ x15 then (if x15 < (x0.length : Int) then (if ((rd_T36 x0 x16).f0) = ((rd_T36 x0 x15).f0) then (if ((rd_T36 x0 x16).f1).toList = ((rd_T36 x0 x15).f1).toList then (some true) else (tocsinlaw22_AlertsOthers.l1 k x0 x1 x2 x3 x4 x5 x13 x14 x15 (wrap64 (x16 + 1)))) else (tocsinlaw22_AlertsOthers.l1 k x0 x1 x2 x3 x4 x5 x13 x14 x15 (wrap64 (x16 + 1)))) else (none)) else (none)) else (none)) else (none)) else (if 0 ≤ (wrap64 ((wrap64 ((x0.length : Int) - 1)) - x15)) then (if (wrap64 ((wrap64 ((x0.length : Int) - 1)) - x15)) < (x0.length : Int) then (if x14.length < 2932031007402 then (tocsinlaw22_AlertsOthers.l0 k x0 x1 x2 x3 x4 x5 x13 (x14 ++ [(⟨(rd_T36 x0 (wrap64 ((wrap64 ((x0.length : Int) - 1)) - x15))).f0, (rd_T36 x0 (wrap64 ((wrap64 ((x0.length : Int) - 1)) - x15))).f1, (rd_T36 x0 (wrap64 ((wrap64 ((x0.length : Int) - 1)) - x15))).f2, (rd_T36 x0 (wrap64 ((wrap64 ((x0.length : Int) - 1)) - x15))).f3, (rd_T36 x0 (wrap64 ((wrap64 ((x0.length : Int) - 1)) - x15))).f4⟩ : S36)]) (wrap64 (x15 + 1))) else (none)) else (none)) else (none))
def tocsinlaw22_AlertsOthers.l2 : Nat → List (S36) → Int → Int → Int → Int → List ByteArray → List (S36) → List (S36) → List ByteArray → Int → Option (Bool)
 | 0, _, _, _, _, _, _, _, _, _, _ => none
 | k + 1, x0, x1, x2, x3, x4, x5, x13, x14, x17, x18 => if x18 < (x5.length : Int) then (if 0 ≤ (wrap64 ((wrap64 ((x5.length : Int) - 1)) - x18)) then (if (wrap64 ((wrap64 ((x5.length : Int) - 1)) - x18)) < (x5.length : Int) then (if x17.length < 8796093022208 then (tocsinlaw22_AlertsOthers.l2 k x0 x1 x2 x3 x4 x5 x13 x14 (x17 ++ [rdOf ByteArray.empty x5 (wrap64 ((wrap64 ((x5.length : Int) - 1)) - x18))]) (wrap64 (x18 + 1))) else (none)) else (none)) else (none)) else ((alerts_Step.f x0 x1 x2 x3 x4 x5).bind fun t254 => ((alerts_Step.f x13 x1 x2 x3 x4 x5).bind fun t257 => ((tocsinref22_Same.f k t257 t254).bind fun t260 => (if t260 = true then ((alerts_Step.f x14 x1 x2 x3 x4 x17).bind fun t261 => ((tocsinref22_Same.f k t261 t254).bind fun t264 => (tocsinlaw22_AlertsOthers.j6 k x0 x1 x2 x3 x4 x5 x13 t254 (!t264)))) else (tocsinlaw22_AlertsOthers.j6 k x0 x1 x2 x3 x4 x5 x13 t254 true)))))
def tocsinlaw22_AlertsOthers.j6 : Nat → List (S36) → Int → Int → Int → Int → List ByteArray → List (S36) → List (S36) → Bool → Option (Bool)
 | 0, _, _, _, _, _, _, _, _, _ => none
 | k + 1, x0, x1, x2, x3, x4, x5, x13, x19, x162 => if x162 = true then (some false) else (tocsinlaw22_AlertsOthers.l3 k x0 x1 x2 x3 x4 x5 x13 x19 0)
def tocsinlaw22_AlertsOthers.l3 : Nat → List (S36) → Int → Int → Int → Int → List ByteArray → List (S36) → List (S36) → Int → Option (Bool)
 | 0, _, _, _, _, _, _, _, _, _ => none
 | k + 1, x0, x1, x2, x3, x4, x5, x13, x19, x20 => if x20 < (x19.length : Int) then (if 0 ≤ x20 then (if ((rd_T36 x19 x20).f0) = x1 then (if x20 > 0 then (if 0 ≤ (wrap64 (x20 - 1)) then (if (wrap64 (x20 - 1)) < (x19.length : Int) then (if ((Op.bytesLess (((rd_T36 x19 (wrap64 (x20 - 1))).f1).toList) (((rd_T36 x19 x20).f1).toList)) = true) then ((tocsinref22_Has.f k x5 ((rd_T36 x19 x20).f1)).bind fun t270 => (if ((((rd_T36 x19 x20).f2) != 0) != t270) = true then (some false) else (tocsinlaw22_AlertsOthers.l3 k x0 x1 x2 x3 x4 x5 x13 x19 (wrap64 (x20 + 1))))) else (some false)) else (none)) else (none)) else ((tocsinref22_Has.f k x5 ((rd_T36 x19 x20).f1)).bind fun t273 => (if ((((rd_T36 x19 x20).f2) != 0) != t273) = true then (some false) else (tocsinlaw22_AlertsOthers.l3 k x0 x1 x2 x3 x4 x5 x13 x19 (wrap64 (x20 + 1)))))) else (some false)) else (none)) else ((alerts_Step.f x19 x1 x2 x3 x4 x5).bind fun t274 => ((tocsinref22_Same.f k t274 x19).bind fun t277 => (if t277 = true then ((alerts_Own.f k x0 x1).bind fun t278 => ((tocsinref22_Same.f k t278 x13).bind fun t281 => (some t281))) else (some false))))
end
def tocsinlaw22_AlertsOthers.f (k : Nat) (l0 : List (S36)) (a1 : Int) (a2 : Int) (a3 : Int) (a4 : Int) (l5 : List ByteArray) : Option (Bool) := (tocsinlaw22_awake.f k).bind fun t228 => (if t228 = true then ((tocsinlaw22_great.f k l0 l5).bind fun t229 => (if t229 = true then (tocsinlaw22_AlertsOthers.j0 k l0 a1 a2 a3 a4 l5 true) else ((tocsinlaw22_small.f a2).bind fun t230 => (if t230 = true then ((tocsinlaw22_small.f a3).bind fun t231 => (if t231 = true then ((tocsinlaw22_small.f a4).bind fun t232 => (tocsinlaw22_AlertsOthers.j0 k l0 a1 a2 a3 a4 l5 (!t232))) else (tocsinlaw22_AlertsOthers.j0 k l0 a1 a2 a3 a4 l5 true))) else (tocsinlaw22_AlertsOthers.j0 k l0 a1 a2 a3 a4 l5 true))))) else (some false))
theorem tocsinlaw22_AlertsOthers.mono_l : ∀ k, (∀ y0 y1 y2 y3 y4 y5 y6, LeO (tocsinlaw22_AlertsOthers.j0 k y0 y1 y2 y3 y4 y5 y6) (tocsinlaw22_AlertsOthers.j0 (k + 1) y0 y1 y2 y3 y4 y5 y6)) ∧ (∀ y0 y1 y2 y3 y4 y5 y6 y7 y8, LeO (tocsinlaw22_AlertsOthers.l0 k y0 y1 y2 y3 y4 y5 y6 y7 y8) (tocsinlaw22_AlertsOthers.l0 (k + 1) y0 y1 y2 y3 y4 y5 y6 y7 y8)) ∧ (∀ y0 y1 y2 y3 y4 y5 y6 y7 y8 y9, LeO (tocsinlaw22_AlertsOthers.j2 k y0 y1 y2 y3 y4 y5 y6 y7 y8 y9) (tocsinlaw22_AlertsOthers.j2 (k + 1) y0 y1 y2 y3 y4 y5 y6 y7 y8 y9)) ∧ (∀ y0 y1 y2 y3 y4 y5 y6 y7 y8, LeO (tocsinlaw22_AlertsOthers.j3 k y0 y1 y2 y3 y4 y5 y6 y7 y8) (tocsinlaw22_AlertsOthers.j3 (k + 1) y0 y1 y2 y3 y4 y5 y6 y7 y8)) ∧ (∀ y0 y1 y2 y3 y4 y5 y6 y7 y8 y9, LeO (tocsinlaw22_AlertsOthers.l1 k y0 y1 y2 y3 y4 y5 y6 y7 y8 y9) (tocsinlaw22_AlertsOthers.l1 (k + 1) y0 y1 y2 y3 y4 y5 y6 y7 y8 y9)) ∧ (∀ y0 y1 y2 y3 y4 y5 y6 y7 y8 y9, LeO (tocsinlaw22_AlertsOthers.l2 k y0 y1 y2 y3 y4 y5 y6 y7 y8 y9) (tocsinlaw22_AlertsOthers.l2 (k + 1) y0 y1 y2 y3 y4 y5 y6 y7 y8 y9)) ∧ (∀ y0 y1 y2 y3 y4 y5 y6 y7 y8, LeO (tocsinlaw22_AlertsOthers.j6 k y0 y1 y2 y3 y4 y5 y6 y7 y8) (tocsinlaw22_AlertsOthers.j6 (k + 1) y0 y1 y2 y3 y4 y5 y6 y7 y8)) ∧ (∀ y0 y1 y2 y3 y4 y5 y6 y7 y8, LeO (tocsinlaw22_AlertsOthers.l3 k y0 y1 y2 y3 y4 y5 y6 y7 y8) (tocsinlaw22_AlertsOthers.l3 (k + 1) y0 y1 y2 y3 y4 y5 y6 y7 y8))
 | 0 => ⟨fun _ _ _ _ _ _ _ r h => by simp [tocsinlaw22_AlertsOthers.j0] at h, fun _ _ _ _ _ _ _ _ _ r h => by simp [tocsinlaw22_AlertsOthers.l0] at h, fun _ _ _ _ _ _ _ _ _ _ r h => by simp [tocsinlaw22_AlertsOthers.j2] at h, fun _ _ _ _ _ _ _ _ _ r h => by simp [tocsinlaw22_AlertsOthers.j3] at h, fun _ _ _ _ _ _ _ _ _ _ r h => by simp [tocsinlaw22_AlertsOthers.l1] at h, fun _ _ _ _ _ _ _ _ _ _ r h => by simp [tocsinlaw22_AlertsOthers.l2] at h, fun _ _ _ _ _ _ _ _ _ r h => by simp [tocsinlaw22_AlertsOthers.j6] at h, fun _ _ _ _ _ _ _ _ _ r h => by simp [tocsinlaw22_AlertsOthers.l3] at h⟩
 | k + 1 => by
  obtain ⟨ih0, ih1, ih2, ih3, ih4, ih5, ih6, ih7⟩ := tocsinlaw22_AlertsOthers.mono_l k
  refine ⟨?_, ?_, ?_, ?_, ?_, ?_, ?_, ?_⟩
  ·intro y0 y1 y2 y3 y4 y5 y6
   unfold tocsinlaw22_AlertsOthers.j0
   repeat' first
   | (with_reducible exact ih0 _ _ _ _ _ _ _)
   | (with_reducible exact ih1 _ _ _ _ _ _ _ _ _)
   | (with_reducible exact ih2 _ _ _ _ _ _ _ _ _ _)
   | (with_reducible exact ih3 _ _ _ _ _ _ _ _ _)
   | (with_reducible exact ih4 _ _ _ _ _ _ _ _ _ _)
   | (with_reducible exact ih5 _ _ _ _ _ _ _ _ _ _)
   | (with_reducible exact ih6 _ _ _ _ _ _ _ _ _)
   | (with_reducible exact ih7 _ _ _ _ _ _ _ _ _)
   | (with_reducible exact alerts_Own.mono _ _ _)
   | (with_reducible exact tocsinlaw22_awake.mono _)
   | (with_reducible exact tocsinlaw22_great.mono _ _ _)
   | (with_reducible exact tocsinref22_Has.mono _ _ _)
   | (with_reducible exact tocsinref22_Same.mono _ _ _)
   | (with_reducible exact LeO.refl _)
   | (with_reducible exact LeO.none _)
   | (with_reducible refine LeO.ite ?_ ?_)
   | (with_reducible refine LeO.bind ?_ (fun _ => ?_))
   | exact ih0 _ _ _ _ _ _ _
   | exact ih1 _ _ _ _ _ _ _ _ _
   | exact ih2 _ _ _ _ _ _ _ _ _ _
   | exact ih3 _ _ _ _ _ _ _ _ _
   | exact ih4 _ _ _ _ _ _ _ _ _ _
   | exact ih5 _ _ _ _ _ _ _ _ _ _
   | exact ih6 _ _ _ _ _ _ _ _ _
   | exact ih7 _ _ _ _ _ _ _ _ _
   | exact alerts_Own.mono _ _ _
   | exact tocsinlaw22_awake.mono _
   | exact tocsinlaw22_great.mono _ _ _
   | exact tocsinref22_Has.mono _ _ _
   | exact tocsinref22_Same.mono _ _ _
   | exact LeO.none _
   | refine LeO.ite ?_ ?_
   | refine LeO.bind ?_ (fun _ => ?_)
  ·intro y0 y1 y2 y3 y4 y5 y6 y7 y8
   unfold tocsinlaw22_AlertsOthers.l0
   repeat' first
   | (with_reducible exact ih0 _ _ _ _ _ _ _)
   | (with_reducible exact ih1 _ _ _ _ _ _ _ _ _)
   | (with_reducible exact ih2 _ _ _ _ _ _ _ _ _ _)
   | (with_reducible exact ih3 _ _ _ _ _ _ _ _ _)
   | (with_reducible exact ih4 _ _ _ _ _ _ _ _ _ _)
   | (with_reducible exact ih5 _ _ _ _ _ _ _ _ _ _)
   | (with_reducible exact ih6 _ _ _ _ _ _ _ _ _)
   | (with_reducible exact ih7 _ _ _ _ _ _ _ _ _)
   | (with_reducible exact alerts_Own.mono _ _ _)
   | (with_reducible exact tocsinlaw22_awake.mono _)
   | (with_reducible exact tocsinlaw22_great.mono _ _ _)
   | (with_reducible exact tocsinref22_Has.mono _ _ _)
   | (with_reducible exact tocsinref22_Same.mono _ _ _)
   | (with_reducible exact LeO.refl _)
   | (with_reducible exact LeO.none _)
   | (with_reducible refine LeO.ite ?_ ?_)
   | (with_reducible refine LeO.bind ?_ (fun _ => ?_))
   | exact ih0 _ _ _ _ _ _ _
   | exact ih1 _ _ _ _ _ _ _ _ _
   | exact ih2 _ _ _ _ _ _ _ _ _ _
   | exact ih3 _ _ _ _ _ _ _ _ _
   | exact ih4 _ _ _ _ _ _ _ _ _ _
   | exact ih5 _ _ _ _ _ _ _ _ _ _
   | exact ih6 _ _ _ _ _ _ _ _ _
   | exact ih7 _ _ _ _ _ _ _ _ _
   | exact alerts_Own.mono _ _ _
   | exact tocsinlaw22_awake.mono _
   | exact tocsinlaw22_great.mono _ _ _
   | exact tocsinref22_Has.mono _ _ _
   | exact tocsinref22_Same.mono _ _ _
   | exact LeO.none _
   | refine LeO.ite ?_ ?_
   | refine LeO.bind ?_ (fun _ => ?_)
  ·intro y0 y1 y2 y3 y4 y5 y6 y7 y8 y9
   unfold tocsinlaw22_AlertsOthers.j2
   repeat' first
   | (with_reducible exact ih0 _ _ _ _ _ _ _)
   | (with_reducible exact ih1 _ _ _ _ _ _ _ _ _)
   | (with_reducible exact ih2 _ _ _ _ _ _ _ _ _ _)
   | (with_reducible exact ih3 _ _ _ _ _ _ _ _ _)
   | (with_reducible exact ih4 _ _ _ _ _ _ _ _ _ _)
   | (with_reducible exact ih5 _ _ _ _ _ _ _ _ _ _)
   | (with_reducible exact ih6 _ _ _ _ _ _ _ _ _)
   | (with_reducible exact ih7 _ _ _ _ _ _ _ _ _)
   | (with_reducible exact alerts_Own.mono _ _ _)
   | (with_reducible exact tocsinlaw22_awake.mono _)
   | (with_reducible exact tocsinlaw22_great.mono _ _ _)
   | (with_reducible exact tocsinref22_Has.mono _ _ _)
   | (with_reducible exact tocsinref22_Same.mono _ _ _)
   | (with_reducible exact LeO.refl _)
   | (with_reducible exact LeO.none _)
   | (with_reducible refine LeO.ite ?_ ?_)
   | (with_reducible refine LeO.bind ?_ (fun _ => ?_))
   | exact ih0 _ _ _ _ _ _ _
   | exact ih1 _ _ _ _ _ _ _ _ _
   | exact ih2 _ _ _ _ _ _ _ _ _ _
   | exact ih3 _ _ _ _ _ _ _ _ _
   | exact ih4 _ _ _ _ _ _ _ _ _ _
   | exact ih5 _ _ _ _ _ _ _ _ _ _
   | exact ih6 _ _ _ _ _ _ _ _ _
   | exact ih7 _ _ _ _ _ _ _ _ _
   | exact alerts_Own.mono _ _ _
   | exact tocsinlaw22_awake.mono _
   | exact tocsinlaw22_great.mono _ _ _
   | exact tocsinref22_Has.mono _ _ _
   | exact tocsinref22_Same.mono _ _ _
   | exact LeO.none _
   | refine LeO.ite ?_ ?_
   | refine LeO.bind ?_ (fun _ => ?_)
  ·intro y0 y1 y2 y3 y4 y5 y6 y7 y8
   unfold tocsinlaw22_AlertsOthers.j3
   repeat' first
   | (with_reducible exact ih0 _ _ _ _ _ _ _)
   | (with_reducible exact ih1 _ _ _ _ _ _ _ _ _)
   | (with_reducible exact ih2 _ _ _ _ _ _ _ _ _ _)
   | (with_reducible exact ih3 _ _ _ _ _ _ _ _ _)
   | (with_reducible exact ih4 _ _ _ _ _ _ _ _ _ _)
   | (with_reducible exact ih5 _ _ _ _ _ _ _ _ _ _)
   | (with_reducible exact ih6 _ _ _ _ _ _ _ _ _)
   | (with_reducible exact ih7 _ _ _ _ _ _ _ _ _)
   | (with_reducible exact alerts_Own.mono _ _ _)
   | (with_reducible exact tocsinlaw22_awake.mono _)
   | (with_reducible exact tocsinlaw22_great.mono _ _ _)
   | (with_reducible exact tocsinref22_Has.mono _ _ _)
   | (with_reducible exact tocsinref22_Same.mono _ _ _)
   | (with_reducible exact LeO.refl _)
   | (with_reducible exact LeO.none _)
   | (with_reducible refine LeO.ite ?_ ?_)
   | (with_reducible refine LeO.bind ?_ (fun _ => ?_))
   | exact ih0 _ _ _ _ _ _ _
   | exact ih1 _ _ _ _ _ _ _ _ _
   | exact ih2 _ _ _ _ _ _ _ _ _ _
   | exact ih3 _ _ _ _ _ _ _ _ _
   | exact ih4 _ _ _ _ _ _ _ _ _ _
   | exact ih5 _ _ _ _ _ _ _ _ _ _
   | exact ih6 _ _ _ _ _ _ _ _ _
   | exact ih7 _ _ _ _ _ _ _ _ _
   | exact alerts_Own.mono _ _ _
   | exact tocsinlaw22_awake.mono _
   | exact tocsinlaw22_great.mono _ _ _
   | exact tocsinref22_Has.mono _ _ _
   | exact tocsinref22_Same.mono _ _ _
   | exact LeO.none _
   | refine LeO.ite ?_ ?_
   | refine LeO.bind ?_ (fun _ => ?_)
  ·intro y0 y1 y2 y3 y4 y5 y6 y7 y8 y9
   unfold tocsinlaw22_AlertsOthers.l1
   repeat' first
   | (with_reducible exact ih0 _ _ _ _ _ _ _)
   | (with_reducible exact ih1 _ _ _ _ _ _ _ _ _)
   | (with_reducible exact ih2 _ _ _ _ _ _ _ _ _ _)
   | (with_reducible exact ih3 _ _ _ _ _ _ _ _ _)
   | (with_reducible exact ih4 _ _ _ _ _ _ _ _ _ _)
   | (with_reducible exact ih5 _ _ _ _ _ _ _ _ _ _)
   | (with_reducible exact ih6 _ _ _ _ _ _ _ _ _)
   | (with_reducible exact ih7 _ _ _ _ _ _ _ _ _)
   | (with_reducible exact alerts_Own.mono _ _ _)
   | (with_reducible exact tocsinlaw22_awake.mono _)
   | (with_reducible exact tocsinlaw22_great.mono _ _ _)
   | (with_reducible exact tocsinref22_Has.mono _ _ _)
   | (with_reducible exact tocsinref22_Same.mono _ _ _)
   | (with_reducible exact LeO.refl _)
   | (with_reducible exact LeO.none _)
   | (with_reducible refine LeO.ite ?_ ?_)
   | (with_reducible refine LeO.bind ?_ (fun _ => ?_))
   | exact ih0 _ _ _ _ _ _ _
   | exact ih1 _ _ _ _ _ _ _ _ _
   | exact ih2 _ _ _ _ _ _ _ _ _ _
   | exact ih3 _ _ _ _ _ _ _ _ _
   | exact ih4 _ _ _ _ _ _ _ _ _ _
   | exact ih5 _ _ _ _ _ _ _ _ _ _
   | exact ih6 _ _ _ _ _ _ _ _ _
   | exact ih7 _ _ _ _ _ _ _ _ _
   | exact alerts_Own.mono _ _ _
   | exact tocsinlaw22_awake.mono _
   | exact tocsinlaw22_great.mono _ _ _
   | exact tocsinref22_Has.mono _ _ _
   | exact tocsinref22_Same.mono _ _ _
   | exact LeO.none _
   | refine LeO.ite ?_ ?_
   | refine LeO.bind ?_ (fun _ => ?_)
  ·intro y0 y1 y2 y3 y4 y5 y6 y7 y8 y9
   unfold tocsinlaw22_AlertsOthers.l2
   repeat' first
   | (with_reducible exact ih0 _ _ _ _ _ _ _)
   | (with_reducible exact ih1 _ _ _ _ _ _ _ _ _)
   | (with_reducible exact ih2 _ _ _ _ _ _ _ _ _ _)
   | (with_reducible exact ih3 _ _ _ _ _ _ _ _ _)
   | (with_reducible exact ih4 _ _ _ _ _ _ _ _ _ _)
   | (with_reducible exact ih5 _ _ _ _ _ _ _ _ _ _)
   | (with_reducible exact ih6 _ _ _ _ _ _ _ _ _)
   | (with_reducible exact ih7 _ _ _ _ _ _ _ _ _)
   | (with_reducible exact alerts_Own.mono _ _ _)
   | (with_reducible exact tocsinlaw22_awake.mono _)
   | (with_reducible exact tocsinlaw22_great.mono _ _ _)
   | (with_reducible exact tocsinref22_Has.mono _ _ _)
   | (with_reducible exact tocsinref22_Same.mono _ _ _)
   | (with_reducible exact LeO.refl _)
   | (with_reducible exact LeO.none _)
   | (with_reducible refine LeO.ite ?_ ?_)
   | (with_reducible refine LeO.bind ?_ (fun _ => ?_))
   | exact ih0 _ _ _ _ _ _ _
   | exact ih1 _ _ _ _ _ _ _ _ _
   | exact ih2 _ _ _ _ _ _ _ _ _ _
   | exact ih3 _ _ _ _ _ _ _ _ _
   | exact ih4 _ _ _ _ _ _ _ _ _ _
   | exact ih5 _ _ _ _ _ _ _ _ _ _
   | exact ih6 _ _ _ _ _ _ _ _ _
   | exact ih7 _ _ _ _ _ _ _ _ _
   | exact alerts_Own.mono _ _ _
   | exact tocsinlaw22_awake.mono _
   | exact tocsinlaw22_great.mono _ _ _
   | exact tocsinref22_Has.mono _ _ _
   | exact tocsinref22_Same.mono _ _ _
   | exact LeO.none _
   | refine LeO.ite ?_ ?_
   | refine LeO.bind ?_ (fun _ => ?_)
  ·intro y0 y1 y2 y3 y4 y5 y6 y7 y8
   unfold tocsinlaw22_AlertsOthers.j6
   repeat' first
   | (with_reducible exact ih0 _ _ _ _ _ _ _)
   | (with_reducible exact ih1 _ _ _ _ _ _ _ _ _)
   | (with_reducible exact ih2 _ _ _ _ _ _ _ _ _ _)
   | (with_reducible exact ih3 _ _ _ _ _ _ _ _ _)
   | (with_reducible exact ih4 _ _ _ _ _ _ _ _ _ _)
   | (with_reducible exact ih5 _ _ _ _ _ _ _ _ _ _)
   | (with_reducible exact ih6 _ _ _ _ _ _ _ _ _)
   | (with_reducible exact ih7 _ _ _ _ _ _ _ _ _)
   | (with_reducible exact alerts_Own.mono _ _ _)
   | (with_reducible exact tocsinlaw22_awake.mono _)
   | (with_reducible exact tocsinlaw22_great.mono _ _ _)
   | (with_reducible exact tocsinref22_Has.mono _ _ _)
   | (with_reducible exact tocsinref22_Same.mono _ _ _)
   | (with_reducible exact LeO.refl _)
   | (with_reducible exact LeO.none _)
   | (with_reducible refine LeO.ite ?_ ?_)
   | (with_reducible refine LeO.bind ?_ (fun _ => ?_))
   | exact ih0 _ _ _ _ _ _ _
   | exact ih1 _ _ _ _ _ _ _ _ _
   | exact ih2 _ _ _ _ _ _ _ _ _ _
   | exact ih3 _ _ _ _ _ _ _ _ _
   | exact ih4 _ _ _ _ _ _ _ _ _ _
   | exact ih5 _ _ _ _ _ _ _ _ _ _
   | exact ih6 _ _ _ _ _ _ _ _ _
   | exact ih7 _ _ _ _ _ _ _ _ _
   | exact alerts_Own.mono _ _ _
   | exact tocsinlaw22_awake.mono _
   | exact tocsinlaw22_great.mono _ _ _
   | exact tocsinref22_Has.mono _ _ _
   | exact tocsinref22_Same.mono _ _ _
   | exact LeO.none _
   | refine LeO.ite ?_ ?_
   | refine LeO.bind ?_ (fun _ => ?_)
  ·intro y0 y1 y2 y3 y4 y5 y6 y7 y8
   unfold tocsinlaw22_AlertsOthers.l3
   repeat' first
   | (with_reducible exact ih0 _ _ _ _ _ _ _)
   | (with_reducible exact ih1 _ _ _ _ _ _ _ _ _)
   | (with_reducible exact ih2 _ _ _ _ _ _ _ _ _ _)
   | (with_reducible exact ih3 _ _ _ _ _ _ _ _ _)
   | (with_reducible exact ih4 _ _ _ _ _ _ _ _ _ _)
   | (with_reducible exact ih5 _ _ _ _ _ _ _ _ _ _)
   | (with_reducible exact ih6 _ _ _ _ _ _ _ _ _)
   | (with_reducible exact ih7 _ _ _ _ _ _ _ _ _)
   | (with_reducible exact alerts_Own.mono _ _ _)
   | (with_reducible exact tocsinlaw22_awake.mono _)
   | (with_reducible exact tocsinlaw22_great.mono _ _ _)
   | (with_reducible exact tocsinref22_Has.mono _ _ _)
   | (with_reducible exact tocsinref22_Same.mono _ _ _)
   | (with_reducible exact LeO.refl _)
   | (with_reducible exact LeO.none _)
   | (with_reducible refine LeO.ite ?_ ?_)
   | (with_reducible refine LeO.bind ?_ (fun _ => ?_))
   | exact ih0 _ _ _ _ _ _ _
   | exact ih1 _ _ _ _ _ _ _ _ _
   | exact ih2 _ _ _ _ _ _ _ _ _ _
   | exact ih3 _ _ _ _ _ _ _ _ _
   | exact ih4 _ _ _ _ _ _ _ _ _ _
   | exact ih5 _ _ _ _ _ _ _ _ _ _
   | exact ih6 _ _ _ _ _ _ _ _ _
   | exact ih7 _ _ _ _ _ _ _ _ _
   | exact alerts_Own.mono _ _ _
   | exact tocsinlaw22_awake.mono _
   | exact tocsinlaw22_great.mono _ _ _
   | exact tocsinref22_Has.mono _ _ _
   | exact tocsinref22_Same.mono _ _ _
   | exact LeO.none _
   | refine LeO.ite ?_ ?_
   | refine LeO.bind ?_ (fun _ => ?_)
theorem tocsinlaw22_AlertsOthers.mono : ∀ a0 a1 a2 a3 a4 a5 k, LeO (tocsinlaw22_AlertsOthers.f k a0 a1 a2 a3 a4 a5) (tocsinlaw22_AlertsOthers.f (k + 1) a0 a1 a2 a3 a4 a5) := by
 intro a0 a1 a2 a3 a4 a5 k
 obtain ⟨ih0, ih1, ih2, ih3, ih4, ih5, ih6, ih7⟩ := tocsinlaw22_AlertsOthers.mono_l k
 unfold tocsinlaw22_AlertsOthers.f
 repeat' first
   | (with_reducible exact ih0 _ _ _ _ _ _ _)
   | (with_reducible exact ih1 _ _ _ _ _ _ _ _ _)
   | (with_reducible exact ih2 _ _ _ _ _ _ _ _ _ _)
   | (with_reducible exact ih3 _ _ _ _ _ _ _ _ _)
   | (with_reducible exact ih4 _ _ _ _ _ _ _ _ _ _)
   | (with_reducible exact ih5 _ _ _ _ _ _ _ _ _ _)
   | (with_reducible exact ih6 _ _ _ _ _ _ _ _ _)
   | (with_reducible exact ih7 _ _ _ _ _ _ _ _ _)
   | (with_reducible exact alerts_Own.mono _ _ _)
   | (with_reducible exact tocsinlaw22_awake.mono _)
   | (with_reducible exact tocsinlaw22_great.mono _ _ _)
   | (with_reducible exact tocsinref22_Has.mono _ _ _)
   | (with_reducible exact tocsinref22_Same.mono _ _ _)
   | (with_reducible exact LeO.refl _)
   | (with_reducible exact LeO.none _)
   | (with_reducible refine LeO.ite ?_ ?_)
   | (with_reducible refine LeO.bind ?_ (fun _ => ?_))
   | exact ih0 _ _ _ _ _ _ _
   | exact ih1 _ _ _ _ _ _ _ _ _
   | exact ih2 _ _ _ _ _ _ _ _ _ _
   | exact ih3 _ _ _ _ _ _ _ _ _
   | exact ih4 _ _ _ _ _ _ _ _ _ _
   | exact ih5 _ _ _ _ _ _ _ _ _ _
   | exact ih6 _ _ _ _ _ _ _ _ _
   | exact ih7 _ _ _ _ _ _ _ _ _
   | exact alerts_Own.mono _ _ _
   | exact tocsinlaw22_awake.mono _
   | exact tocsinlaw22_great.mono _ _ _
   | exact tocsinref22_Has.mono _ _ _
   | exact tocsinref22_Same.mono _ _ _
   | exact LeO.none _
   | refine LeO.ite ?_ ?_
   | refine LeO.bind ?_ (fun _ => ?_)
def tocsinlaw22_AlertsOthers.T16 : Bool × List (List Nat × List Nat) := (true, [([], []), ([], []), ([0, 1], [0, 1]), ([2], [2]), ([3], [3]), ([], []), ([], []), ([5, 6], [5, 6]), ([7], [7]), ([8], [8]), ([4, 9], [4, 9]), ([10], [10]), ([11], [11]), ([11], [11]), ([12, 13, 11], [11, 12, 13]), ([14, 11], [11, 14]), ([15, 11], [11, 15]), ([11], [11]), ([11], [11]), ([17, 18, 11], [11, 17, 18]), ([19, 11], [11, 19]), ([20, 11], [11, 20]), ([16, 21, 11], [11, 16, 21]), ([11, 22], [11, 22])])
def tocsinlaw22_AlertsOthers.B16 : List Nat := [0, 0, 3, 7, 15, 0, 0, 96, 224, 480, 1023, 2047, 4095, 4095, 16383, 32767, 65535, 4095, 4095, 397311, 921599, 1970175, 4194303, 8388607]
theorem tocsinlaw22_AlertsOthers.tab16 : rtab .any (opsOf Try.f5 16) = tocsinlaw22_AlertsOthers.T16 := by kernel_rfl
theorem tocsinlaw22_AlertsOthers.bits16 : waitsOk tocsinlaw22_AlertsOthers.T16.2 tocsinlaw22_AlertsOthers.B16 = true := by kernel_rfl
def tocsinlaw22_AlertsOthers.T30 : Bool × List (List Nat × List Nat) := (true, [([], []), ([], []), ([0, 1], [0, 1]), ([2], [2]), ([3], [3]), ([], []), ([4, 5], [4, 5]), ([6], [6]), ([7], [7]), ([8, 7], [7, 8]), ([9, 7, 7], [7, 9]), ([10], [10]), ([10], [10]), ([11, 12, 10], [10, 11, 12]), ([13, 10], [10, 13]), ([14, 10], [10, 14]), ([10], [10]), ([10], [10]), ([17, 10], [10, 17]), ([16, 18, 10], [10, 16, 18]), ([19, 10], [10, 19]), ([20, 10], [10, 20]), ([15, 21, 10], [10, 15, 21]), ([10, 22, 7], [7, 10, 22]), ([7, 23], [7, 23]), ([24, 10], [24]), ([25], [25]), ([25], [25]), ([26, 27, 25], [25, 26, 27]), ([28, 25], [25, 28]), ([29, 25], [25, 29]), ([30, 25], [25, 30]), ([25], [25]), ([25], [25]), ([25], [25]), ([33, 34, 25], [25, 33, 34]), ([35, 25], [25, 35]), ([36, 25], [25, 36]), ([32, 37, 25, 25], [25, 32, 37]), ([31, 38, 25], [25, 31, 38]), ([25, 39], [25, 39])])
def tocsinlaw22_AlertsOthers.B30 : List Nat := [0, 0, 3, 7, 15, 0, 63, 127, 255, 511, 1023, 2047, 2047, 8191, 16383, 32767, 2047, 2047, 133119, 460799, 985087, 2033663, 4194303, 8388607, 16777215, 33554431, 67108863, 67108863, 268435455, 536870911, 1073741823, 2147483647, 67108863, 67108863, 67108863, 25836912639, 60196651007, 128916127743, 270650048511, 549755813887, 1099511627775]
theorem tocsinlaw22_AlertsOthers.tab30 : rtab .any (opsOf Try.f5 30) = tocsinlaw22_AlertsOthers.T30 := by kernel_rfl
theorem tocsinlaw22_AlertsOthers.bits30 : waitsOk tocsinlaw22_AlertsOthers.T30.2 tocsinlaw22_AlertsOthers.B30 = true := by kernel_rfl

end Go.Proofs.Ytgfkdcckifdcpaa.Q
