/- Functions of the program as plain Lean functions, each with the proof that its call comes to just these answers: written by a program of this session (wip/tools/printg.py over the kit's print) for this claim. -/
import Derived.Test.YticemdlnnmndoaaQ0
import Derived.Test.YticemdlnnmndoaaQ10
import Derived.Test.YticemdlnnmndoaaQ11
namespace Go.Proofs.Yticemdlnnmndoaa.Q
open Go.RowKit Go.Proofs.YticemdlnnmndoaaW.PrintWords Go.Proofs.YticemdlnnmndoaaW.PrintLast Go.Proofs.YticemdlnnmndoaaW.PrintMore
attribute [local go_sem] Opn.str_leq Opn.str_gtr Opn.str_geq max2_int min2_int max_two min_two max_three min_three max_four min_four   -- for this text's walks alone
set_option linter.unusedVariables false
set_option linter.unusedSimpArgs false

/-! ### match_May: function 17 -/
def okM (x : S30) : Bool := Ops.lookB x.f1 && (mayName x.f0 && (match match_may.f x.f2 with | some b => b | none => false))
def mayM (l : List S30) : Bool := l.all okM && decide (l.length ≤ 6)
def match_May.f (l0 : List S30) : Option Bool := some (mayM l0)
theorem may_some (v : ByteArray) : ∃ b, match_may.f v = some b := by
  unfold match_may.f
  by_cases h : v.toList = []
  · exact ⟨true, by rw [if_pos h]⟩
  · exact ⟨mayValue v, by rw [if_neg h]; rfl⟩
theorem ret_boolM {a b : Bool} (h : a = b) : Ending.returned (.bool a) = .returned (.bool b) := by rw [h]
theorem rd_drop30 (l : List S30) (k : Nat) (h : k < l.length) : l.drop k = rd_T30 l (k : Int) :: l.drop (k + 1) := by
  rw [List.drop_eq_getElem_cons h]
  simp [rd_T30, List.getElem?_eq_getElem h]
theorem all_drop {p : S30 → Bool} {l : List S30} {x : Int} (h0 : 0 ≤ x) (h1 : x < l.length) : (l.drop x.toNat).all p = (p (rd_T30 l x) && (l.drop (x + 1).toNat).all p) := by
  rw [rd_drop30 l x.toNat (by omega), List.all_cons, Int.toNat_of_nonneg h0, show (x + 1).toNat = x.toNat + 1 by omega]
set_option maxHeartbeats 4000000 in
theorem match_May.calls (A0 : Option Addr) (c0 : Nat) (l0 : List (S30)) (r : Bool) (w : World) (hr0 : Kd.C k30 w A0 l0.length l0) (hc0 : l0.length ≤ c0) (h : match_May.f l0 = some r) :
    Calls Try.prog 17 #[.slice A0 l0.length c0] w fun e w' => e = .returned (.bool r) ∧ Below w.heap.size w w' := by
  have hR : mayM l0 = r := Option.some.inj h
  clear h
  have hm0 := Kd.C_max hr0
  have HR := Aside0.mk hR
  have HR0 := Aside0.mk hr0
  have HC0 := Aside0.mk hc0
  clear hR hr0 hc0
  go_enter Try.func17, Try.ntmps17
  go_wp2_with fail
  refine (Ops.ops_calls w).mono ?_
  rintro e w1 ⟨b, rfl, hbs, hbm, hb1⟩
  have HS := Aside0.mk hb1
  have HM := Aside0.mk hbm
  have HLT := Aside0.mk (Array.getElem?_eq_some_iff.1 hbm).1
  have HR1 := Aside0.mk (Kd.C_below HR0.out hb1)
  clear hbs hbm hb1 HR0
  have HB := Aside0.mk (Below.refl w1.heap.size w1)
  go_wp2
  go_loopw [11] (fun i wr => ∃ x : Int, 0 ≤ x ∧ x ≤ l0.length ∧ i = .int .i64 x ∧ Aside0 (((l0.drop x.toNat).all okM && decide (l0.length ≤ 6)) = r) ∧ Aside0 (Below w1.heap.size w1 wr)) (fun i _ => l0.length - (intOf i).toNat)
  case atStart => exact ⟨0, by omega, by omega, rfl, ⟨HR.out⟩, ⟨by repeat (first | (with_reducible first | exact HB.out | apply below_alloc | apply pw_below_drewN | apply below_drew1 | (refine below_set ?_ GE1.out) | (refine below_set ?_ GE2.out)) | exact HB.out)⟩⟩
  case round =>
    clear HB
    obtain ⟨x, hx0, hx1, rfl, HL, HB⟩ := hrel
    by_cases hlt : x < l0.length
    · skip
      have hd := all_drop (p := okM) hx0 hlt
      have HD := Aside0.mk hd
      clear hd
      obtain ⟨mv, hmv⟩ := may_some (rd_T30 l0 x).f2
      have HW := Aside0.mk hmv
      clear hmv
      have hb0 := Below.size HB.out
      obtain ⟨ad, e0, hc00, hc01, hc02⟩ := at_T30 HR1.out x hx0 hlt
      cases e0
      replace hc00 := (HB.out.cell (World.block_lt_of_cell? w1 _ hc00)).trans hc00
      replace hc01 := (HB.out.cell (World.block_lt_of_cell? w1 _ hc01)).trans hc01
      replace hc02 := (HB.out.cell (World.block_lt_of_cell? w1 _ hc02)).trans hc02
      clear hb0
      have d0 : decide (0 ≤ x) = true := decide_eq_true hx0
      have d1 : decide (x < (l0.length : Int)) = true := decide_eq_true hlt
      cases hi : Ops.lookB (rd_T30 l0 x).f1 with
      | false =>
        have HI := Aside0.mk hi
        have HV := Aside0.mk (Ops.look_false hi)
        clear hi
        go_wp2_with (first | ((with_reducible refine gate_dst (N := 19) rfl ?_); refine Ops.ev_look rfl _ _ rfl b _ rfl rfl (((show Below w1.heap.size w1 _ from (by repeat (first | (with_reducible first | exact HB.out | apply below_alloc | apply pw_below_drewN | apply below_drew1 | (refine below_set ?_ GE1.out) | (refine below_set ?_ GE2.out)) | exact HB.out))).block b HLT.out).trans HM.out) _ _ _ HV.out HI.out ?_) | go_in)
        repeat (go_quiet (first | ((with_reducible refine gate_dst (N := 19) rfl ?_); refine Ops.ev_look rfl _ _ rfl b _ rfl rfl (((show Below w1.heap.size w1 _ from (by repeat (first | (with_reducible first | exact HB.out | apply below_alloc | apply pw_below_drewN | apply below_drew1 | (refine below_set ?_ GE1.out) | (refine below_set ?_ GE2.out)) | exact HB.out))).block b HLT.out).trans HM.out) _ _ _ HV.out HI.out ?_)); try go_wp2_with (first | ((with_reducible refine gate_dst (N := 19) rfl ?_); refine Ops.ev_look rfl _ _ rfl b _ rfl rfl (((show Below w1.heap.size w1 _ from (by repeat (first | (with_reducible first | exact HB.out | apply below_alloc | apply pw_below_drewN | apply below_drew1 | (refine below_set ?_ GE1.out) | (refine below_set ?_ GE2.out)) | exact HB.out))).block b HLT.out).trans HM.out) _ _ _ HV.out HI.out ?_) | go_in))
        go_ret
        exact ⟨ret_boolM (by rw [← HL.out, HD.out]; unfold okM; rw [HI.out]; simp), (HS.out.trans ((show Below w1.heap.size w1 _ from (by repeat (first | (with_reducible first | exact HB.out | apply below_alloc | apply pw_below_drewN | apply below_drew1 | (refine below_set ?_ GE1.out) | (refine below_set ?_ GE2.out)) | exact HB.out))).mono HS.out.size))⟩
      | true =>
        have HI := Aside0.mk hi
        obtain ⟨sg, kf, hV⟩ := Ops.look_true hi
        have HV := Aside0.mk hV
        clear hi hV
        cases hn : mayName (rd_T30 l0 x).f0 with
        | false =>
          have HNM := Aside0.mk hn
          have A5 : Aside0 (labels_MayName.f (rd_T30 l0 x).f0 = some false) := ⟨by unfold labels_MayName.f; rw [hn]⟩
          clear hn
          go_wp2_with (first | ((with_reducible refine gate_dst (N := 19) rfl ?_); refine Ops.ev_look rfl _ _ rfl b _ rfl rfl (((show Below w1.heap.size w1 _ from (by repeat (first | (with_reducible first | exact HB.out | apply below_alloc | apply pw_below_drewN | apply below_drew1 | (refine below_set ?_ GE1.out) | (refine below_set ?_ GE2.out)) | exact HB.out))).block b HLT.out).trans HM.out) _ _ _ HV.out HI.out ?_) | (go_at_call 29; (with_reducible refine (labels_MayName.calls (rd_T30 l0 x).f0 false _ A5.out).mono ?_); rintro e w' ⟨rfl, ⟨nd, rfl⟩⟩; (try first | exact ⟨rfl, _, World.drewN_drewN _ _ _⟩ | exact ⟨rfl, _, Eq.trans (World.drewN_drewN _ _ _) (congrArg (World.drewN _) (Nat.add_assoc _ _ _))⟩)) | go_in)
          repeat (go_quiet (first | ((with_reducible refine gate_dst (N := 19) rfl ?_); refine Ops.ev_look rfl _ _ rfl b _ rfl rfl (((show Below w1.heap.size w1 _ from (by repeat (first | (with_reducible first | exact HB.out | apply below_alloc | apply pw_below_drewN | apply below_drew1 | (refine below_set ?_ GE1.out) | (refine below_set ?_ GE2.out)) | exact HB.out))).block b HLT.out).trans HM.out) _ _ _ HV.out HI.out ?_) | (go_at_call 29; (with_reducible refine (labels_MayName.calls (rd_T30 l0 x).f0 false _ A5.out).mono ?_); rintro e w' ⟨rfl, ⟨nd, rfl⟩⟩; (try first | exact ⟨rfl, _, World.drewN_drewN _ _ _⟩ | exact ⟨rfl, _, Eq.trans (World.drewN_drewN _ _ _) (congrArg (World.drewN _) (Nat.add_assoc _ _ _))⟩))); try go_wp2_with (first | ((with_reducible refine gate_dst (N := 19) rfl ?_); refine Ops.ev_look rfl _ _ rfl b _ rfl rfl (((show Below w1.heap.size w1 _ from (by repeat (first | (with_reducible first | exact HB.out | apply below_alloc | apply pw_below_drewN | apply below_drew1 | (refine below_set ?_ GE1.out) | (refine below_set ?_ GE2.out)) | exact HB.out))).block b HLT.out).trans HM.out) _ _ _ HV.out HI.out ?_) | (go_at_call 29; (with_reducible refine (labels_MayName.calls (rd_T30 l0 x).f0 false _ A5.out).mono ?_); rintro e w' ⟨rfl, ⟨nd, rfl⟩⟩; (try first | exact ⟨rfl, _, World.drewN_drewN _ _ _⟩ | exact ⟨rfl, _, Eq.trans (World.drewN_drewN _ _ _) (congrArg (World.drewN _) (Nat.add_assoc _ _ _))⟩)) | go_in))
          go_ret
          exact ⟨ret_boolM (by rw [← HL.out, HD.out]; unfold okM; rw [HI.out, HNM.out]; simp), (HS.out.trans ((show Below w1.heap.size w1 _ from (by repeat (first | (with_reducible first | exact HB.out | apply below_alloc | apply pw_below_drewN | apply below_drew1 | (refine below_set ?_ GE1.out) | (refine below_set ?_ GE2.out)) | exact HB.out))).mono HS.out.size))⟩
        | true =>
          have HNM := Aside0.mk hn
          have A5 : Aside0 (labels_MayName.f (rd_T30 l0 x).f0 = some true) := ⟨by unfold labels_MayName.f; rw [hn]⟩
          clear hn
          cases mv with
          | false =>
            go_wp2_with (first | ((with_reducible refine gate_dst (N := 19) rfl ?_); refine Ops.ev_look rfl _ _ rfl b _ rfl rfl (((show Below w1.heap.size w1 _ from (by repeat (first | (with_reducible first | exact HB.out | apply below_alloc | apply pw_below_drewN | apply below_drew1 | (refine below_set ?_ GE1.out) | (refine below_set ?_ GE2.out)) | exact HB.out))).block b HLT.out).trans HM.out) _ _ _ HV.out HI.out ?_) | (go_at_call 29; (with_reducible refine (labels_MayName.calls (rd_T30 l0 x).f0 true _ A5.out).mono ?_); rintro e w' ⟨rfl, ⟨nd, rfl⟩⟩; (try first | exact ⟨rfl, _, World.drewN_drewN _ _ _⟩ | exact ⟨rfl, _, Eq.trans (World.drewN_drewN _ _ _) (congrArg (World.drewN _) (Nat.add_assoc _ _ _))⟩)) | (go_at_call 30; (with_reducible refine (match_may.calls (rd_T30 l0 x).f2 false _ HW.out).mono ?_); rintro e w' ⟨rfl, ⟨nd, rfl⟩⟩; (try first | exact ⟨rfl, _, World.drewN_drewN _ _ _⟩ | exact ⟨rfl, _, Eq.trans (World.drewN_drewN _ _ _) (congrArg (World.drewN _) (Nat.add_assoc _ _ _))⟩)) | go_in)
            repeat (go_quiet (first | ((with_reducible refine gate_dst (N := 19) rfl ?_); refine Ops.ev_look rfl _ _ rfl b _ rfl rfl (((show Below w1.heap.size w1 _ from (by repeat (first | (with_reducible first | exact HB.out | apply below_alloc | apply pw_below_drewN | apply below_drew1 | (refine below_set ?_ GE1.out) | (refine below_set ?_ GE2.out)) | exact HB.out))).block b HLT.out).trans HM.out) _ _ _ HV.out HI.out ?_) | (go_at_call 29; (with_reducible refine (labels_MayName.calls (rd_T30 l0 x).f0 true _ A5.out).mono ?_); rintro e w' ⟨rfl, ⟨nd, rfl⟩⟩; (try first | exact ⟨rfl, _, World.drewN_drewN _ _ _⟩ | exact ⟨rfl, _, Eq.trans (World.drewN_drewN _ _ _) (congrArg (World.drewN _) (Nat.add_assoc _ _ _))⟩)) | (go_at_call 30; (with_reducible refine (match_may.calls (rd_T30 l0 x).f2 false _ HW.out).mono ?_); rintro e w' ⟨rfl, ⟨nd, rfl⟩⟩; (try first | exact ⟨rfl, _, World.drewN_drewN _ _ _⟩ | exact ⟨rfl, _, Eq.trans (World.drewN_drewN _ _ _) (congrArg (World.drewN _) (Nat.add_assoc _ _ _))⟩))); try go_wp2_with (first | ((with_reducible refine gate_dst (N := 19) rfl ?_); refine Ops.ev_look rfl _ _ rfl b _ rfl rfl (((show Below w1.heap.size w1 _ from (by repeat (first | (with_reducible first | exact HB.out | apply below_alloc | apply pw_below_drewN | apply below_drew1 | (refine below_set ?_ GE1.out) | (refine below_set ?_ GE2.out)) | exact HB.out))).block b HLT.out).trans HM.out) _ _ _ HV.out HI.out ?_) | (go_at_call 29; (with_reducible refine (labels_MayName.calls (rd_T30 l0 x).f0 true _ A5.out).mono ?_); rintro e w' ⟨rfl, ⟨nd, rfl⟩⟩; (try first | exact ⟨rfl, _, World.drewN_drewN _ _ _⟩ | exact ⟨rfl, _, Eq.trans (World.drewN_drewN _ _ _) (congrArg (World.drewN _) (Nat.add_assoc _ _ _))⟩)) | (go_at_call 30; (with_reducible refine (match_may.calls (rd_T30 l0 x).f2 false _ HW.out).mono ?_); rintro e w' ⟨rfl, ⟨nd, rfl⟩⟩; (try first | exact ⟨rfl, _, World.drewN_drewN _ _ _⟩ | exact ⟨rfl, _, Eq.trans (World.drewN_drewN _ _ _) (congrArg (World.drewN _) (Nat.add_assoc _ _ _))⟩)) | go_in))
            go_ret
            exact ⟨ret_boolM (by rw [← HL.out, HD.out]; unfold okM; rw [HI.out, HNM.out, HW.out]; simp), (HS.out.trans ((show Below w1.heap.size w1 _ from (by repeat (first | (with_reducible first | exact HB.out | apply below_alloc | apply pw_below_drewN | apply below_drew1 | (refine below_set ?_ GE1.out) | (refine below_set ?_ GE2.out)) | exact HB.out))).mono HS.out.size))⟩
          | true =>
            go_wp2_with (first | ((with_reducible refine gate_dst (N := 19) rfl ?_); refine Ops.ev_look rfl _ _ rfl b _ rfl rfl (((show Below w1.heap.size w1 _ from (by repeat (first | (with_reducible first | exact HB.out | apply below_alloc | apply pw_below_drewN | apply below_drew1 | (refine below_set ?_ GE1.out) | (refine below_set ?_ GE2.out)) | exact HB.out))).block b HLT.out).trans HM.out) _ _ _ HV.out HI.out ?_) | (go_at_call 29; (with_reducible refine (labels_MayName.calls (rd_T30 l0 x).f0 true _ A5.out).mono ?_); rintro e w' ⟨rfl, ⟨nd, rfl⟩⟩; (try first | exact ⟨rfl, _, World.drewN_drewN _ _ _⟩ | exact ⟨rfl, _, Eq.trans (World.drewN_drewN _ _ _) (congrArg (World.drewN _) (Nat.add_assoc _ _ _))⟩)) | (go_at_call 30; (with_reducible refine (match_may.calls (rd_T30 l0 x).f2 true _ HW.out).mono ?_); rintro e w' ⟨rfl, ⟨nd, rfl⟩⟩; (try first | exact ⟨rfl, _, World.drewN_drewN _ _ _⟩ | exact ⟨rfl, _, Eq.trans (World.drewN_drewN _ _ _) (congrArg (World.drewN _) (Nat.add_assoc _ _ _))⟩)) | go_in)
            repeat (go_quiet (first | ((with_reducible refine gate_dst (N := 19) rfl ?_); refine Ops.ev_look rfl _ _ rfl b _ rfl rfl (((show Below w1.heap.size w1 _ from (by repeat (first | (with_reducible first | exact HB.out | apply below_alloc | apply pw_below_drewN | apply below_drew1 | (refine below_set ?_ GE1.out) | (refine below_set ?_ GE2.out)) | exact HB.out))).block b HLT.out).trans HM.out) _ _ _ HV.out HI.out ?_) | (go_at_call 29; (with_reducible refine (labels_MayName.calls (rd_T30 l0 x).f0 true _ A5.out).mono ?_); rintro e w' ⟨rfl, ⟨nd, rfl⟩⟩; (try first | exact ⟨rfl, _, World.drewN_drewN _ _ _⟩ | exact ⟨rfl, _, Eq.trans (World.drewN_drewN _ _ _) (congrArg (World.drewN _) (Nat.add_assoc _ _ _))⟩)) | (go_at_call 30; (with_reducible refine (match_may.calls (rd_T30 l0 x).f2 true _ HW.out).mono ?_); rintro e w' ⟨rfl, ⟨nd, rfl⟩⟩; (try first | exact ⟨rfl, _, World.drewN_drewN _ _ _⟩ | exact ⟨rfl, _, Eq.trans (World.drewN_drewN _ _ _) (congrArg (World.drewN _) (Nat.add_assoc _ _ _))⟩))); try go_wp2_with (first | ((with_reducible refine gate_dst (N := 19) rfl ?_); refine Ops.ev_look rfl _ _ rfl b _ rfl rfl (((show Below w1.heap.size w1 _ from (by repeat (first | (with_reducible first | exact HB.out | apply below_alloc | apply pw_below_drewN | apply below_drew1 | (refine below_set ?_ GE1.out) | (refine below_set ?_ GE2.out)) | exact HB.out))).block b HLT.out).trans HM.out) _ _ _ HV.out HI.out ?_) | (go_at_call 29; (with_reducible refine (labels_MayName.calls (rd_T30 l0 x).f0 true _ A5.out).mono ?_); rintro e w' ⟨rfl, ⟨nd, rfl⟩⟩; (try first | exact ⟨rfl, _, World.drewN_drewN _ _ _⟩ | exact ⟨rfl, _, Eq.trans (World.drewN_drewN _ _ _) (congrArg (World.drewN _) (Nat.add_assoc _ _ _))⟩)) | (go_at_call 30; (with_reducible refine (match_may.calls (rd_T30 l0 x).f2 true _ HW.out).mono ?_); rintro e w' ⟨rfl, ⟨nd, rfl⟩⟩; (try first | exact ⟨rfl, _, World.drewN_drewN _ _ _⟩ | exact ⟨rfl, _, Eq.trans (World.drewN_drewN _ _ _) (congrArg (World.drewN _) (Nat.add_assoc _ _ _))⟩)) | go_in))
            go_roundw
            case rel => exact ⟨x + 1, by omega, by omega, by go_num, ⟨by rw [← HL.out, HD.out]; unfold okM; rw [HI.out, HNM.out, HW.out]; simp⟩, ⟨(by repeat (first | (with_reducible first | exact HB.out | apply below_alloc | apply pw_below_drewN | apply below_drew1 | (refine below_set ?_ GE1.out) | (refine below_set ?_ GE2.out)) | exact HB.out))⟩⟩
            case measure => simp [intOf]; omega
    · obtain rfl : x = l0.length := by omega
      have hfin : decide (l0.length ≤ 6) = r := by have := HL.out; simpa using this
      have HF := Aside0.mk hfin
      clear hfin
      go_wp2
      go_ret
      exact ⟨ret_boolM (by first | exact HF.out | (rw [← HF.out]; simp; done) | (rw [← HF.out, decide_eq_decide]; omega)), (HS.out.trans ((show Below w1.heap.size w1 _ from (by repeat (first | (with_reducible first | exact HB.out | apply below_alloc | apply pw_below_drewN | apply below_drew1 | (refine below_set ?_ GE1.out) | (refine below_set ?_ GE2.out)) | exact HB.out))).mono HS.out.size))⟩

/-! ### stringslite_CutPrefix: function 41 -/
def stringslite_CutPrefix.f (a0 : ByteArray) (a1 : ByteArray) : Option (ByteArray × Bool) := (stringslite_HasPrefix.f a0 a1).bind fun t125 => (if t125 = true then (if 0 ≤ (a1.size : Int) then (if (a1.size : Int) ≤ (a0.size : Int) then (some (a0.extract ((a1.size : Int) : Int).toNat a0.size, true)) else (none)) else (none)) else (some (a0, false)))
set_option maxHeartbeats 8000000 in
set_option maxRecDepth 100000 in
theorem stringslite_CutPrefix.calls (a0 : ByteArray) (a1 : ByteArray) (r1 : ByteArray) (r2 : Bool) (w : World) (h : stringslite_CutPrefix.f a0 a1 = some (r1, r2)) :
    Calls Try.prog 41 #[.string a0, .string a1] w fun e w' => e = .returned (.tuple #[.string r1, .bool r2]) ∧ Drawn0 w w' := by
  have H : ((stringslite_HasPrefix.f a0 a1).bind fun t125 => (if t125 = true then (if 0 ≤ (a1.size : Int) then (if (a1.size : Int) ≤ (a0.size : Int) then (some (a0.extract ((a1.size : Int) : Int).toNat a0.size, true)) else (none)) else (none)) else (some (a0, false)))) = some (r1, r2) := h
  clear h
  replace H := Option.bind_eq_some_iff.mp H
  obtain ⟨t125, A30, H⟩ := H
  replace H : (if t125 = true then (if 0 ≤ (a1.size : Int) then (if (a1.size : Int) ≤ (a0.size : Int) then (some (a0.extract ((a1.size : Int) : Int).toNat a0.size, true)) else (none)) else (none)) else (some (a0, false))) = some (r1, r2) := H
  have A3 := Aside0.mk A30
  clear A30
  by_cases c4 : t125 = true
  · subst c4
    have H1 : (if 0 ≤ (a1.size : Int) then (if (a1.size : Int) ≤ (a0.size : Int) then (some (a0.extract ((a1.size : Int) : Int).toNat a0.size, true)) else (none)) else (none)) = some (r1, r2) := by rw [if_pos rfl] at H; exact H
    clear H
    have H := H1
    clear H1
    by_cases c5 : 0 ≤ (a1.size : Int)
    · rw [if_pos c5] at H
      have c5b0 := eq_true c5
      have c5b1 : decide (0 ≤ (a1.size : Int)) = true := decide_eq_true c5
      clear c5
      by_cases c6 : (a1.size : Int) ≤ (a0.size : Int)
      · rw [if_pos c6] at H
        have c6b0 := eq_true c6
        have c6b1 : decide ((a1.size : Int) ≤ (a0.size : Int)) = true := decide_eq_true c6
        clear c6
        simp only [Option.some.injEq, Prod.mk.injEq] at H
        obtain ⟨rfl, rfl⟩ := H
        go_enter Try.func41, Try.ntmps41
        go_wp2_with (first | ((with_reducible refine gate_callee (f := 54) rfl ?_); refine goesL_ (some 8) rfl rfl Try.func54 (by kernel_rfl) rfl #[.string a0, .string a1] rfl (by (try simp only [List.map_toArray, List.map_cons, List.map_nil]); first | done | rfl | (simp only [List.length_drop, List.length_take]; rfl)) ?_; (with_reducible refine (stringslite_HasPrefix.calls a0 a1 true _ A3.out).mono ?_); rintro e w' ⟨rfl, ⟨nd, rfl⟩⟩; refine ⟨_, rfl, ?_⟩))
        go_ret2
        exact ⟨by first | rfl | (simp; done) | (simp [*]; done), by repeat (first | exact Drawn0.refl _ | apply Drawn0.step)⟩
      · rw [if_neg c6] at H
        exact absurd H (by simp)
    · rw [if_neg c5] at H
      exact absurd H (by simp)
  · replace c4 := Bool.eq_false_iff.mpr c4
    subst c4
    have H1 : (some (a0, false)) = some (r1, r2) := by rw [if_neg (show ¬ (false = true) by decide)] at H; exact H
    clear H
    have H := H1
    clear H1
    simp only [Option.some.injEq, Prod.mk.injEq] at H
    obtain ⟨rfl, rfl⟩ := H
    go_enter Try.func41, Try.ntmps41
    go_wp2_with (first | ((with_reducible refine gate_callee (f := 54) rfl ?_); refine goesL_ (some 8) rfl rfl Try.func54 (by kernel_rfl) rfl #[.string a0, .string a1] rfl (by (try simp only [List.map_toArray, List.map_cons, List.map_nil]); first | done | rfl | (simp only [List.length_drop, List.length_take]; rfl)) ?_; (with_reducible refine (stringslite_HasPrefix.calls a0 a1 false _ A3.out).mono ?_); rintro e w' ⟨rfl, ⟨nd, rfl⟩⟩; refine ⟨_, rfl, ?_⟩))
    go_ret2
    exact ⟨by first | rfl | (simp; done) | (simp [*]; done), by repeat (first | exact Drawn0.refl _ | apply Drawn0.step)⟩

/-! ### strings_CutPrefix: function 26 -/
def strings_CutPrefix.f (a0 : ByteArray) (a1 : ByteArray) : Option (ByteArray × Bool) := (stringslite_CutPrefix.f a0 a1).bind fun bt126 => (some (bt126.1, bt126.2))
set_option maxHeartbeats 8000000 in
set_option maxRecDepth 100000 in
theorem strings_CutPrefix.calls (a0 : ByteArray) (a1 : ByteArray) (r1 : ByteArray) (r2 : Bool) (w : World) (h : strings_CutPrefix.f a0 a1 = some (r1, r2)) :
    Calls Try.prog 26 #[.string a0, .string a1] w fun e w' => e = .returned (.tuple #[.string r1, .bool r2]) ∧ Drawn0 w w' := by
  have H : ((stringslite_CutPrefix.f a0 a1).bind fun bt126 => (some (bt126.1, bt126.2))) = some (r1, r2) := h
  clear h
  replace H := Option.bind_eq_some_iff.mp H
  obtain ⟨⟨t126, t127⟩, A30, H⟩ := H
  replace H : (some (t126, t127)) = some (r1, r2) := H
  have A3 := Aside0.mk A30
  clear A30
  simp only [Option.some.injEq, Prod.mk.injEq] at H
  obtain ⟨rfl, rfl⟩ := H
  go_enter Try.func26, Try.ntmps26
  go_wp2_with (first | ((with_reducible refine gate_callee (f := 41) rfl ?_); refine goesL_ (some 8) rfl rfl Try.func41 (by kernel_rfl) rfl #[.string a0, .string a1] rfl (by (try simp only [List.map_toArray, List.map_cons, List.map_nil]); first | done | rfl | (simp only [List.length_drop, List.length_take]; rfl)) ?_; (with_reducible refine (stringslite_CutPrefix.calls a0 a1 t126 t127 _ A3.out).mono ?_); rintro e w' ⟨rfl, ⟨nd, rfl⟩⟩; refine ⟨_, rfl, ?_⟩))
  go_ret2
  exact ⟨by first | rfl | (simp; done) | (simp [*]; done), by repeat (first | exact Drawn0.refl _ | apply Drawn0.step)⟩

-- NOT PRINTED: function 59 (bytealg_IndexByteString)

-- NOT PRINTED: function 55 (stringslite_IndexByte)

-- NOT PRINTED: function 42 (strings_IndexByte)

-- NOT PRINTED: function 43 (strings_Builder_String)

-- NOT PRINTED: function 60 (abi_NoEscape)

-- NOT PRINTED: function 56 (strings_Builder_copyCheck)

-- NOT PRINTED: function 44 (strings_Builder_WriteByte)

end Go.Proofs.Yticemdlnnmndoaa.Q
