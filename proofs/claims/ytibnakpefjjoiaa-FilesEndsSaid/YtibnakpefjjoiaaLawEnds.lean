/- Behind Power just so many acts are done: walked. -/
import Derived.Test.YtibnakpefjjoiaaFileW
namespace Go.Proofs.Ytibnakpefjjoiaa.Fs
open Go.RowKit Go.Proofs.YtibnakpefjjoiaaW.PrintWords Go.Proofs.YtibnakpefjjoiaaW.PrintLast Go.Proofs.YtibnakpefjjoiaaW.PrintMore Go.Proofs.Ytibnakpefjjoiaa.Q Go.Proofs.Ytibnakpefjjoiaa.Own
set_option linter.unusedVariables false
set_option linter.unusedSimpArgs false
attribute [local go_sem ↓] Go.wp_at_zero Go.wp_at_succ

set_option maxHeartbeats 8000000 in
set_option maxRecDepth 100000 in
theorem ends_law (a0 a1 a2 : Int) (W : World) (w0 : (Lit.int .i64 a0).wf = true) (w1 : (Lit.int .i64 a1).wf = true) (w2 : (Lit.int .i64 a2).wf = true) :
    Calls Try.prog 5 #[.int .i64 a0, .int .i64 a1, .int .i64 a2] W fun e w' => e = .returned (.bool true) ∧ Below W.heap.size W w' := by
  clear w0 w1 w2
  obtain ⟨after, ha, ea⟩ := wrap_mod a0 41 (by omega) (by omega)
  obtain ⟨pieces, hp, ep⟩ := wrap_mod a1 61 (by omega) (by omega)
  obtain ⟨synced, hs, es⟩ := wrap_mod a2 61 (by omega) (by omega)
  rw [show IntKind.u64.wrap ((41 : Nat) : Int) = 41 from rfl] at ea
  rw [show IntKind.u64.wrap ((61 : Nat) : Int) = 61 from rfl] at ep es
  go_enter Try.func5, Try.ntmps5
  go_wp2_with fail
  rw [ea, ep, es]
  clear ea ep es
  refine (new_calls (Has.nil W)).mono ?_
  rintro e w1 ⟨p, rfl, hA, hB⟩
  have HPW := Aside0.mk (power_calls hA (after : Int))
  rw [show (⟨maxI (after : Int) (-1), (⟨-1, 0, []⟩ : Stt).acts, (⟨-1, 0, []⟩ : Stt).L⟩ : Stt) = endS after 0 [] 0 from by
    unfold endS maxI
    rw [if_neg (by omega)]
    rw [show (after : Int) - ((0 : Nat) : Int) = (after : Int) by omega]
    rfl] at HPW
  have HB1 := Aside0.mk hB
  clear hA hB
  go_wp2_with fail
  refine HPW.out.mono ?_
  rintro e w2 ⟨rfl, hA, hB⟩
  have HA2 := Aside0.mk hA
  have HB2 := Aside0.mk (HB1.out.trans hB)
  clear hA hB HPW HB1
  go_wp2_with fail
  go_loopw [11, 8, 9, 10] (fun i d z s wr => ∃ (k done : Nat) (xs : List Int) (safe : Nat), i = .int .i64 k ∧ d = .int .i64 done ∧ z = .int .i64 xs.length ∧ s = .int .i64 safe ∧ k ≤ pieces ∧ done ≤ after ∧ xs.length ≤ k ∧ safe ≤ xs.length ∧ Aside0 (Has W.heap.size wr [stoT p (endS after done xs safe)]) ∧ Aside0 (Below W.heap.size W wr)) (fun i _ _ _ _ => pieces - (intOf i).toNat)
  case atStart => exact ⟨0, 0, [], 0, rfl, rfl, rfl, rfl, by omega, by omega, by simp, by simp, HA2, HB2⟩
  case round =>
    clear HA2 HB2
    obtain ⟨k, done, xs, safe, rfl, rfl, rfl, rfl, hk, hd, hx, hsf, HA, HB⟩ := hrel
    by_cases hlt : k < pieces
    · have d1 : decide ((k : Int) < (pieces : Int)) = true := decide_eq_true (by omega)
      have hfine : Fine (endS after done xs safe) 40 := end_fine hd (by omega) (by omega) hsf
      have ek : wrap64 ((k : Int) + 1) = ((k + 1 : Nat) : Int) := wrap_nat (by omega)
      by_cases h1 : done < after
      · have hfine2 : Fine (endS after (done + 1) (xs ++ [(k : Int)]) safe) 40 := end_fine (by omega) (by omega) (by rw [List.length_append, List.length_singleton]; omega) (by rw [List.length_append, List.length_singleton]; omega)
        have HAP := Aside0.mk (append_calls (HA.out.alloc (.cells #[.int .u8 (k : Int)] 5)) (hfine.ok (by omega)) (s := nA) (by decide) (c2 := 1) (lit_B wr [(k : Int)] (by rw [List.length_singleton]; omega)) (by rw [List.length_singleton]; omega))
        rw [end_app h1 (by omega) hsf] at HAP
        have HB3 := Aside0.mk (HB.out.alloc HA.out.size (.cells #[.int .u8 (k : Int)] 5))
        have hxl : (xs ++ [(k : Int)]).length = xs.length + 1 := by rw [List.length_append, List.length_singleton]
        have HHX := Aside0.mk hxl
        have d2 : decide ((done : Int) < (after : Int)) = true := decide_eq_true (by omega)
        clear HB HA hfine
        go_wp2_with fail
        refine HAP.out.mono ?_
        rintro e w4 ⟨rfl, hA, hB⟩
        have HA4 := Aside0.mk hA
        have HB4 := Aside0.mk (HB3.out.trans hB)
        clear hA hB HAP HB3
        generalize hys : xs ++ [(k : Int)] = ys at HA4 HHX hfine2 hxl
        by_cases h2 : k = synced
        · subst h2
          have HSY := Aside0.mk (sync_calls HA4.out (hfine2.ok (by omega)) (s := nA) (by decide))
          by_cases h3 : done + 1 < after
          · rw [end_sync h3 (by omega)] at HSY
            have HFF : Aside0 (done + 2 ≤ after ∧ ys.length ≤ k + 1) := ⟨by omega⟩
            clear hfine2 hys hxl
            go_wp2_with fail
            refine HSY.out.mono ?_
            rintro e w5 ⟨rfl, hA, hB⟩
            have HA5 := Aside0.mk hA
            have HB5 := Aside0.mk (HB4.out.trans hB)
            clear hA hB HSY HA4 HB4
            go_wp2_with fail
            go_roundw
            case rel => exact ⟨k + 1, done + 2, ys, ys.length, by first | rfl | (refine congrArg (Value.int .i64) ?_; first | omega | (rw [wrap_id (by omega) (by omega)]; omega)), by first | rfl | (refine congrArg (Value.int .i64) ?_; first | omega | (rw [wrap_id (by omega) (by omega)]; omega)), by have := HHX.out; first | rfl | (refine congrArg (Value.int .i64) ?_; first | omega | (rw [wrap_id (by omega) (by omega)]; omega)), by have := HHX.out; first | rfl | (refine congrArg (Value.int .i64) ?_; first | omega | (rw [wrap_id (by omega) (by omega)]; omega)), by omega, HFF.out.1, HFF.out.2, Nat.le_refl _, HA5, HB5⟩
            case measure => first | (simp [intOf]; omega) | (simp only [intOf, ek]; omega)
          · rw [end_sync0 (show done + 1 = after by omega)] at HSY
            have d5 : decide ((done : Int) + 1 < (after : Int)) = false := decide_eq_false (by omega)
            have d6 : ¬ (done : Int) + 1 < (after : Int) := by omega
            have HFF : Aside0 (ys.length ≤ k + 1 ∧ safe ≤ ys.length) := ⟨by omega⟩
            clear hfine2 hys hxl
            go_wp2_with fail
            refine HSY.out.mono ?_
            rintro e w5 ⟨rfl, hA, hB⟩
            have HA5 := Aside0.mk hA
            have HB5 := Aside0.mk (HB4.out.trans hB)
            clear hA hB HSY HA4 HB4
            go_wp2_with fail
            go_roundw
            case rel => exact ⟨k + 1, done + 1, ys, safe, by first | rfl | (refine congrArg (Value.int .i64) ?_; first | omega | (rw [wrap_id (by omega) (by omega)]; omega)), by first | rfl | (refine congrArg (Value.int .i64) ?_; first | omega | (rw [wrap_id (by omega) (by omega)]; omega)), by have := HHX.out; first | rfl | (refine congrArg (Value.int .i64) ?_; first | omega | (rw [wrap_id (by omega) (by omega)]; omega)), rfl, by omega, by omega, HFF.out.1, HFF.out.2, HA5, HB5⟩
            case measure => first | (simp [intOf]; omega) | (simp only [intOf, ek]; omega)
        · have d3 : ((k : Int) == (synced : Int)) = false := beq_eq_false_iff_ne.2 (by omega)
          have HFF : Aside0 (ys.length ≤ k + 1 ∧ safe ≤ ys.length) := ⟨by omega⟩
          clear hfine2 hys hxl
          go_wp2_with fail
          go_roundw
          case rel => exact ⟨k + 1, done + 1, ys, safe, by first | rfl | (refine congrArg (Value.int .i64) ?_; first | omega | (rw [wrap_id (by omega) (by omega)]; omega)), by first | rfl | (refine congrArg (Value.int .i64) ?_; first | omega | (rw [wrap_id (by omega) (by omega)]; omega)), by have := HHX.out; first | rfl | (refine congrArg (Value.int .i64) ?_; first | omega | (rw [wrap_id (by omega) (by omega)]; omega)), rfl, by omega, by omega, HFF.out.1, HFF.out.2, HA4, HB4⟩
          case measure => first | (simp [intOf]; omega) | (simp only [intOf, ek]; omega)
      · have hda : done = after := by omega
        have HAP := Aside0.mk (append_calls (HA.out.alloc (.cells #[.int .u8 (k : Int)] 5)) (hfine.ok (by omega)) (s := nA) (by decide) (c2 := 1) (lit_B wr [(k : Int)] (by rw [List.length_singleton]; omega)) (by rw [List.length_singleton]; omega))
        rw [end_app0 hda] at HAP
        have HB3 := Aside0.mk (HB.out.alloc HA.out.size (.cells #[.int .u8 (k : Int)] 5))
        have d2 : decide ((done : Int) < (after : Int)) = false := decide_eq_false (by omega)
        have d7 : ¬ (done : Int) < (after : Int) := by omega
        have HDA := Aside0.mk hda
        clear HB HA hda h1
        go_wp2_with fail
        refine HAP.out.mono ?_
        rintro e w4 ⟨rfl, hA, hB⟩
        have HA4 := Aside0.mk hA
        have HB4 := Aside0.mk (HB3.out.trans hB)
        clear hA hB HAP HB3
        by_cases h2 : k = synced
        · subst h2
          have HSY := Aside0.mk (sync_calls HA4.out (hfine.ok (by omega)) (s := nA) (by decide))
          rw [end_sync0 HDA.out] at HSY
          clear hfine
          go_wp2_with fail
          refine HSY.out.mono ?_
          rintro e w5 ⟨rfl, hA, hB⟩
          have HA5 := Aside0.mk hA
          have HB5 := Aside0.mk (HB4.out.trans hB)
          clear hA hB HSY HA4 HB4
          go_wp2_with fail
          go_roundw
          case rel => exact ⟨k + 1, done, xs, safe, by first | rfl | (refine congrArg (Value.int .i64) ?_; first | omega | (rw [wrap_id (by omega) (by omega)]; omega)), rfl, rfl, rfl, by omega, by omega, by omega, hsf, HA5, HB5⟩
          case measure => first | (simp [intOf]; omega) | (simp only [intOf, ek]; omega)
        · have d3 : ((k : Int) == (synced : Int)) = false := beq_eq_false_iff_ne.2 (by omega)
          clear hfine
          go_wp2_with fail
          go_roundw
          case rel => exact ⟨k + 1, done, xs, safe, by first | rfl | (refine congrArg (Value.int .i64) ?_; first | omega | (rw [wrap_id (by omega) (by omega)]; omega)), rfl, rfl, rfl, by omega, by omega, by omega, hsf, HA4, HB4⟩
          case measure => first | (simp [intOf]; omega) | (simp only [intOf, ek]; omega)
    · have d1 : decide ((k : Int) < (pieces : Int)) = false := decide_eq_false (by omega)
      have hfine : Fine (endS after done xs safe) 40 := end_fine hd (by omega) (by omega) hsf
      have HFI := Aside0.mk hfine
      have HSF : Aside0 (safe ≤ xs.length ∧ safe ≤ 61) := ⟨by omega⟩
      obtain ⟨b, hb1, hb2, hb4, hb3⟩ : ∃ b : Bool, ((endS after done xs safe).left == 0) = b ∧ decide ((done : Int) ≥ (after : Int)) = b ∧ decide (after ≤ done) = b ∧ (toldE (endS after done xs safe) nA == 30) = b := by
        rw [end_told xs safe hd]
        by_cases hda : done = after
        · refine ⟨true, beq_iff_eq.2 ?_, decide_eq_true (by omega), decide_eq_true (by omega), ?_⟩
          · show (after : Int) - done = 0
            omega
          · rw [if_pos hda]
            rfl
        · refine ⟨false, beq_eq_false_iff_ne.2 ?_, decide_eq_false (by omega), decide_eq_false (by omega), ?_⟩
          · show (after : Int) - done ≠ 0
            omega
          · rw [if_neg hda]
            split <;> rfl
      have HRD := Aside0.mk (read_calls HA.out hfine.rise (hfine.ok (by omega)) (s := nA) (by decide))
      unfold ReadPost at HRD
      clear hfine hsf hx hd ha hp hs hk
      generalize toldE (endS after done xs safe) nA = te at HRD hb3
      generalize (toldX (endS after done xs safe) nA).f1 = ty at HRD
      have HB0 := Aside0.mk hb1
      clear hb1
      go_wp2_with fail
      refine HRD.out.mono ?_
      rintro e w3 ⟨v, rfl, hA, hB⟩
      obtain ⟨Av, cv, rfl, -, -⟩ := hA.reads (d := kB) (e := 5) (v := v) (xs := ty) (by simp)
      have HDE := Aside0.mk (dead_calls hA)
      rw [HB0.out] at HDE
      have HAC := Aside0.mk (acts_calls hA)
      have HB3 := Aside0.mk (HB.out.trans hB)
      have HCR := Aside0.mk (crash_calls hA (HFI.out.ok (by omega)) HFI.out.rise HFI.out.safe (keep := []) (ck := 0) (Ak := none) (fun w' _ _ => Kd.C_nil _ _))
      rw [end_crash HSF.out.1] at HCR
      have HFC : Aside0 (Fine (endC done xs safe) 40) := ⟨by have := fine_crash HFI.out []; rw [end_crash HSF.out.1] at this; exact this⟩
      rw [show (endS after done xs safe).acts = (done : Int) from rfl] at HAC
      clear hA hB HRD HA HB HB0 HFI
      go_wp2_with fail
      refine HDE.out.mono ?_
      rintro e w4 ⟨rfl, rfl⟩
      go_wp2_with fail
      refine HAC.out.mono ?_
      rintro e w4 ⟨rfl, rfl⟩
      go_wp2_with fail
      refine HDE.out.mono ?_
      rintro e w4 ⟨rfl, rfl⟩
      go_wp2_with fail
      refine HCR.out.mono ?_
      rintro e w5 ⟨rfl, hA, hB⟩
      have HB5 := Aside0.mk (HB3.out.trans hB)
      have HRD := Aside0.mk (read_calls hA HFC.out.rise (HFC.out.ok (by omega)) (s := nA) (by decide))
      unfold ReadPost at HRD
      rw [end_last.1, end_last.2] at HRD
      clear hA hB HB3 HDE HAC HCR hb2 hb3 hb4
      by_cases h0 : xs.length = 0
      · rw [if_pos h0, if_pos h0] at HRD
        have d5 : ((xs.length : Int) == 0) = true := beq_iff_eq.2 (by omega)
        have d6 : (xs.length == 0) = true := beq_iff_eq.2 h0
        go_wp2_with fail
        refine HRD.out.mono ?_
        rintro e w6 ⟨v, rfl, hA, hB⟩
        obtain ⟨Av, cv, rfl, -, -⟩ := hA.reads (d := kB) (e := 5) (v := v) (xs := []) (by simp)
        have HDE : Aside0 (Calls Try.prog 19 #[ptr p] w6 fun e w' => e = .returned (.bool false) ∧ w6 = w') := ⟨dead_calls hA⟩
        have HB6 := Aside0.mk (HB5.out.trans hB)
        clear hA hB HRD HB5
        go_wp2_with fail
        refine HDE.out.mono ?_
        rintro e w7 ⟨rfl, rfl⟩
        go_wp2_with fail
        go_ret
        exact ⟨rfl, HB6.out⟩
      · rw [if_neg h0, if_neg h0] at HRD
        have d5 : ((xs.length : Int) == 0) = false := beq_eq_false_iff_ne.2 (by omega)
        have d6 : (xs.length == 0) = false := beq_eq_false_iff_ne.2 h0
        have d7 : decide ((xs.length : Int) > 0) = true := decide_eq_true (by omega)
        have d8 : 0 < xs.length := by omega
        generalize hys : xs.take safe = ys at HRD
        have hyl : ys.length = safe := by rw [← hys, List.length_take]; have := HSF.out; omega
        clear hys
        go_wp2_with fail
        refine HRD.out.mono ?_
        rintro e w6 ⟨v, rfl, hA, hB⟩
        obtain ⟨Av, cv, rfl, -, -⟩ := hA.reads (d := kB) (e := 5) (v := v) (xs := ys) (by simp)
        have HDE : Aside0 (Calls Try.prog 19 #[ptr p] w6 fun e w' => e = .returned (.bool false) ∧ w6 = w') := ⟨dead_calls hA⟩
        have HB6 := Aside0.mk (HB5.out.trans hB)
        clear hA hB HRD HB5
        go_wp2_with fail
        refine HDE.out.mono ?_
        rintro e w7 ⟨rfl, rfl⟩
        go_wp2_with fail
        go_ret
        exact ⟨rfl, HB6.out⟩
end Go.Proofs.Ytibnakpefjjoiaa.Fs
