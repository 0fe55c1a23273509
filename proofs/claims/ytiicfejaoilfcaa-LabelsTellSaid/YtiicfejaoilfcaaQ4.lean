/- Functions of the program as plain Lean functions, each with the proof that its call comes to just these answers: written by a program of this session (wip/tools/printg.py over the kit's print) for this claim. -/
import Derived.Test.YtiicfejaoilfcaaQ0
import Derived.Test.YtiicfejaoilfcaaQ1
import Derived.Test.YtiicfejaoilfcaaQ3
namespace Go.Proofs.Ytiicfejaoilfcaa.Q
open Go.RowKit Go.Proofs.YtiicfejaoilfcaaW.PrintWords Go.Proofs.YtiicfejaoilfcaaW.PrintLast Go.Proofs.YtiicfejaoilfcaaW.PrintMore
attribute [local go_sem] Opn.str_leq Opn.str_gtr Opn.str_geq max2_int min2_int max_two min_two max_three min_three max_four min_four   -- for this text's walks alone
set_option linter.unusedVariables false
set_option linter.unusedSimpArgs false

attribute [local go_sem high] eqA31
/-! ### labels_Less: function 13 -/
theorem ret_boolB {a b : Bool} (h : a = b) : Ending.returned (.bool a) = .returned (.bool b) := by rw [h]
def ltS (x y : S31) : Bool := if (Op.bytesLess x.f0.toList y.f0.toList) = true then true else (if x.f0.toList = y.f0.toList then Op.bytesLess x.f1.toList y.f1.toList else false)
def eqS (x y : S31) : Bool := x.f0.toList == y.f0.toList && x.f1.toList == y.f1.toList
def lessL : List S31 → List S31 → Bool
  | [], [] => false
  | [], _ :: _ => true
  | _ :: _, [] => false
  | x :: a, y :: b => if eqS x y = true then lessL a b else ltS x y
theorem rd_drop (l : List S31) (k : Nat) (h : k < l.length) : l.drop k = rd_T31 l (k : Int) :: l.drop (k + 1) := by
  rw [List.drop_eq_getElem_cons h]
  simp [rd_T31, List.getElem?_eq_getElem h]
theorem toNat_succ {x : Int} (h : 0 ≤ x) : (x + 1).toNat = x.toNat + 1 := by omega
theorem lessL_step {l0 l1 : List S31} {x : Int} (hx : 0 ≤ x) (h0 : x < l0.length) (h1 : x < l1.length) (he : eqS (rd_T31 l0 x) (rd_T31 l1 x) = true) : lessL (l0.drop x.toNat) (l1.drop x.toNat) = lessL (l0.drop (x + 1).toNat) (l1.drop (x + 1).toNat) := by
  rw [toNat_succ hx, rd_drop l0 x.toNat (by omega), rd_drop l1 x.toNat (by omega), Int.toNat_of_nonneg hx, lessL, if_pos he]
theorem lessL_stop {l0 l1 : List S31} {x : Int} (hx : 0 ≤ x) (h0 : x < l0.length) (h1 : x < l1.length) (he : eqS (rd_T31 l0 x) (rd_T31 l1 x) = false) : lessL (l0.drop x.toNat) (l1.drop x.toNat) = ltS (rd_T31 l0 x) (rd_T31 l1 x) := by
  rw [rd_drop l0 x.toNat (by omega), rd_drop l1 x.toNat (by omega), Int.toNat_of_nonneg hx, lessL, if_neg (by rw [he]; simp)]
theorem lessL_end {l0 l1 : List S31} {x : Int} (hx : 0 ≤ x) (h : x = l0.length ∨ x = l1.length) (h0 : x ≤ l0.length) (h1 : x ≤ l1.length) : lessL (l0.drop x.toNat) (l1.drop x.toNat) = decide ((l0.length : Int) < (l1.length : Int)) := by
  rcases Nat.lt_or_ge x.toNat l0.length with a | a <;> rcases Nat.lt_or_ge x.toNat l1.length with b | b
  · omega
  · rw [rd_drop l0 _ a, List.drop_eq_nil_of_le b, lessL]
    symm
    rw [decide_eq_false_iff_not]
    omega
  · rw [rd_drop l1 _ b, List.drop_eq_nil_of_le a, lessL]
    symm
    rw [decide_eq_true_iff]
    omega
  · rw [List.drop_eq_nil_of_le a, List.drop_eq_nil_of_le b, lessL]
    symm
    rw [decide_eq_false_iff_not]
    omega
def labels_Less.f (l0 l1 : List S31) : Option Bool := some (lessL l0 l1)
theorem lit_eq (x y : S31) : labels_Less_1.f x.f0 x.f1 y.f0 y.f1 = some (ltS x y) := by
  unfold labels_Less_1.f ltS
  split
  · rfl
  · split <;> rfl
theorem neq_eqS {x y : S31} {b : Bool} (h : eqS x y = b) : (!(x.f0.toList == y.f0.toList) || !(x.f1.toList == y.f1.toList)) = !b := by
  rw [← h, eqS, Bool.not_and]
set_option maxHeartbeats 2000000 in
theorem less_calls (A0 : Option Addr) (c0 : Nat) (l0 : List (S31)) (A1 : Option Addr) (c1 : Nat) (l1 : List (S31)) (w : World) (hr0 : Kd.C k31 w A0 l0.length l0) (hc0 : l0.length ≤ c0) (hr1 : Kd.C k31 w A1 l1.length l1) (hc1 : l1.length ≤ c1) :
    Calls Try.prog 32 #[.slice A0 l0.length c0, .slice A1 l1.length c1, .func (.func 33) #[] #[]] w fun e w' => e = .returned (.bool (lessL l0 l1)) ∧ Below w.heap.size w w' := by
  have hm0 := Kd.C_max hr0
  have hm1 := Kd.C_max hr1
  have HR0 := Aside0.mk hr0
  have HR1 := Aside0.mk hr1
  clear hr0 hr1
  have hu := Try.underlying31
  have hen := fun args w => enters_ Try.func33 (by kernel_rfl) rfl args w
  obtain ⟨r, hr⟩ : ∃ r, r = lessL l0 l1 := ⟨_, rfl⟩
  rw [← hr]
  have HR := Aside0.mk hr.symm
  clear hr
  go_enter Try.func32, Try.ntmps32
  go_wp2
  all_goals
    go_loopw [13] (fun i wr => ∃ x : Int, 0 ≤ x ∧ x ≤ l0.length ∧ x ≤ l1.length ∧ i = .int .i64 x ∧ Aside0 (lessL (l0.drop x.toNat) (l1.drop x.toNat) = r) ∧ Aside0 (Below w.heap.size w wr)) (fun i _ => l0.length - (intOf i).toNat)
    case atStart => exact ⟨0, by omega, by omega, by omega, rfl, ⟨HR.out⟩, ⟨Below.refl _ _⟩⟩
    case round =>
      obtain ⟨x, hx0, hx1, hx2, rfl, HL, HB⟩ := hrel
      by_cases hlt : x < l0.length ∧ x < l1.length
      · obtain ⟨ha, hb⟩ := hlt
        obtain ⟨ad0, e0, hc00, hc01⟩ := at_T31 (Kd.C_below HR0.out HB.out) x hx0 ha
        cases e0
        obtain ⟨ad1, e1, hc10, hc11⟩ := at_T31 (Kd.C_below HR1.out HB.out) x hx0 hb
        cases e1
        have d0 : decide (0 ≤ x) = true := decide_eq_true hx0
        have d1 : decide (x < (l0.length : Int)) = true := decide_eq_true ha
        have d2 : decide (x < (l1.length : Int)) = true := decide_eq_true hb
        cases he : eqS (rd_T31 l0 x) (rd_T31 l1 x) with
        | true =>
          have hn := neq_eqS he
          have HE := Aside0.mk he
          rw [Bool.not_true] at hn
          clear he
          clear d0 d1 d2
          have d0 : decide (0 ≤ x) = true := decide_eq_true hx0
          have d1 : decide (x < (l0.length : Int)) = true := decide_eq_true ha
          have d2 : decide (x < (l1.length : Int)) = true := decide_eq_true hb
          go_wp2
          go_quiet (fail)
          go_wp2
          go_roundw
          case rel => exact ⟨x + 1, by omega, by omega, by omega, rfl, ⟨by rw [← lessL_step hx0 ha hb HE.out]; exact HL.out⟩, ⟨pw_below_drewN HB.out _⟩⟩
          case measure => simp [intOf]; omega
        | false =>
          have hn := neq_eqS he
          have HE := Aside0.mk he
          rw [Bool.not_false] at hn
          clear he
          go_wp2
          go_quiet (fail)
          go_wp2
          refine Opn.wp_still_tail 9 (by kernel_rfl) (by kernel_rfl) ?_
          intro W3 hW3
          have HB3 := Aside0.mk (below_then (pw_below_drewN HB.out nq) (below_size (pw_below_drewN HB.out nq)) hW3.below)
          clear hc00 hc01 hc10 hc11
          obtain ⟨_, e0, hc00, hc01⟩ := at_T31 (Kd.C_below HR0.out HB3.out) x hx0 ha
          cases e0
          obtain ⟨_, e1, hc10, hc11⟩ := at_T31 (Kd.C_below HR1.out HB3.out) x hx0 hb
          cases e1
          clear hW3
          simp only [List.take_succ_cons, List.take_zero, List.drop_succ_cons, List.drop_zero]
          repeat still_step
          refine wpStill_nil ?_
          go_wp2_with fail
          refine (labels_Less_1.calls _ _ _ _ _ _ (lit_eq _ _)).mono ?_
          rintro e w' ⟨rfl, hb5⟩
          have H5 := Aside0.mk (below_then HB3.out (below_size HB3.out) hb5)
          clear hb5
          go_wp2
          go_ret
          exact ⟨ret_boolB (by rw [← lessL_stop hx0 ha hb HE.out]; exact HL.out), H5.out⟩
      · have hend : x = l0.length ∨ x = l1.length := by omega
        have HE := Aside0.mk hend
        have hr2 := (lessL_end hx0 hend hx1 hx2).symm.trans HL.out
        have HR2 := Aside0.mk hr2
        clear hr2 hend
        go_wp2
        go_ret
        exact ⟨ret_boolB (by first | exact HR2.out | (rw [← HR2.out]; simp)), HB.out⟩
set_option maxHeartbeats 1000000 in
theorem labels_Less.calls (A0 : Option Addr) (c0 : Nat) (l0 : List (S31)) (A1 : Option Addr) (c1 : Nat) (l1 : List (S31)) (r : Bool) (w : World) (hr0 : Kd.C k31 w A0 l0.length l0) (hc0 : l0.length ≤ c0) (hr1 : Kd.C k31 w A1 l1.length l1) (hc1 : l1.length ≤ c1) (h : labels_Less.f l0 l1 = some r) :
    Calls Try.prog 13 #[.slice A0 l0.length c0, .slice A1 l1.length c1] w fun e w' => e = .returned (.bool r) ∧ Below w.heap.size w w' := by
  have H := Aside0.mk (less_calls A0 c0 l0 A1 c1 l1 w hr0 hc0 hr1 hc1)
  obtain rfl : lessL l0 l1 = r := Option.some.inj h
  clear h hr0 hr1
  go_enter Try.func13, Try.ntmps13
  go_wp2_with fail
  refine H.out.mono ?_
  rintro e w' ⟨rfl, hb⟩
  have H2 := Aside0.mk hb
  clear hb
  go_wp2
  go_ret
  exact ⟨rfl, H2.out⟩

end Go.Proofs.Ytiicfejaoilfcaa.Q
