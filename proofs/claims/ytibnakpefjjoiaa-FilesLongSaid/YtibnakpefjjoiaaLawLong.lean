/- How long a file may be, and how many files there may be: walked. -/
import Derived.Test.YtibnakpefjjoiaaFileW
namespace Go.Proofs.Ytibnakpefjjoiaa.Fs
open Go.RowKit Go.Proofs.YtibnakpefjjoiaaW.PrintWords Go.Proofs.YtibnakpefjjoiaaW.PrintLast Go.Proofs.YtibnakpefjjoiaaW.PrintMore Go.Proofs.Ytibnakpefjjoiaa.Q Go.Proofs.Ytibnakpefjjoiaa.Own
set_option linter.unusedVariables false
set_option linter.unusedSimpArgs false
attribute [local go_sem ↓] Go.wp_at_zero Go.wp_at_succ

set_option maxHeartbeats 8000000 in
set_option maxRecDepth 100000 in
theorem long_law (a0 a1 a2 : Int) (W : World) (w0 : (Lit.int .i64 a0).wf = true) (w1 : (Lit.int .i64 a1).wf = true) (w2 : (Lit.int .i64 a2).wf = true) :
    Calls Try.prog 4 #[.int .i64 a0, .int .i64 a1, .int .i64 a2] W fun e w' => e = .returned (.bool true) ∧ Below W.heap.size W w' := by
  clear w0 w1 w2
  obtain ⟨j, hj, ej⟩ := wrap_mod a0 400000 (by omega) (by omega)
  obtain ⟨pieces, hp, ep⟩ := wrap_mod a1 9 (by omega) (by omega)
  obtain ⟨many, hm, em⟩ := wrap_mod a2 80 (by omega) (by omega)
  rw [show IntKind.u64.wrap ((400000 : Nat) : Int) = 400000 from rfl] at ej
  rw [show IntKind.u64.wrap ((9 : Nat) : Int) = 9 from rfl] at ep
  rw [show IntKind.u64.wrap ((80 : Nat) : Int) = 80 from rfl] at em
  go_enter Try.func4, Try.ntmps4
  go_wp2_with fail
  try rw [ej, ep, em]
  have ejn : (j : Int) + 1 = ((j + 1 : Nat) : Int) := by omega
  rw [ejn]
  clear ej ep em ejn
  refine (new_calls (Has.nil W)).mono ?_
  rintro e w1 ⟨p, rfl, hA, hB⟩
  have HA2 : Aside0 (Has W.heap.size w1 [stoT p (lngS 0 0)]) := ⟨hA⟩
  have HB2 := Aside0.mk hB
  clear hA hB
  obtain ⟨n, hn⟩ : ∃ n : Nat, j + 1 = n := ⟨_, rfl⟩
  rw [hn]
  have hn0 : 0 < n := by omega
  have hn1 : n ≤ 400000 := by omega
  clear hn hj
  go_wp2_with fail
  go_loopw [9, 8] (fun i s wr => ∃ (k size acts : Nat), i = .int .i64 k ∧ s = .int .i64 size ∧ k ≤ pieces ∧ acts ≤ k ∧ size ≤ 1048576 ∧ (size = 0 → acts = 0) ∧ Aside0 (Has W.heap.size wr [stoT p (lngS size acts)]) ∧ Aside0 (Below W.heap.size W wr)) (fun i _ _ => pieces - (intOf i).toNat)
  case atStart => exact ⟨0, 0, 0, rfl, rfl, by omega, by omega, by omega, fun _ => rfl, HA2, HB2⟩
  case round =>
    clear HA2 HB2
    obtain ⟨k, size, acts, rfl, rfl, hk, hac, hsz, hsa, HA, HB⟩ := hrel
    have HSA := Aside0.mk hsa
    clear hsa
    by_cases hlt : k < pieces
    · have d1 : decide ((k : Int) < (pieces : Int)) = true := decide_eq_true (by omega)
      have hfine := Aside0.mk ((lng_fine (acts := acts) hsz).ok (by omega))
      have ek : wrap64 ((k : Int) + 1) = ((k + 1 : Nat) : Int) := wrap_nat (by omega)
      by_cases hlong : 1048576 < size + n
      · have d2 : decide ((size : Int) + (n : Int) > 1048576) = true := decide_eq_true (by omega)
        have d3 : 1048576 < (size : Int) + (n : Int) := by omega
        obtain ⟨v4, w4, hmk, hA4, hB4⟩ := make_run0 HA.out (m := n) (by omega)
        obtain ⟨A4, c4, rfl, hc4, hC4⟩ := hA4.reads (d := kB) (e := 5) (v := v4) (xs := List.replicate n 0) (by simp)
        have HAP := Aside0.mk (append_calls hA4.tail hfine.out (s := nA) (by decide) (c2 := c4) hC4 (by rw [List.length_replicate]; omega))
        rw [lng_full hsz (by omega) hlong] at HAP
        rw [List.length_replicate] at HAP
        have HB4 := Aside0.mk (HB.out.trans hB4)
        clear hA4 hB4 HA HB hC4
        go_wp2_with fail
        refine HAP.out.mono ?_
        rintro e w5 ⟨rfl, hA, hB⟩
        have HA5 := Aside0.mk hA
        have HB5 := Aside0.mk (HB4.out.trans hB)
        clear hA hB HAP HB4
        go_wp2_with fail
        go_roundw
        case rel => exact ⟨k + 1, size, acts, by first | rfl | rw [ek], rfl, by omega, by omega, hsz, HSA.out, HA5, HB5⟩
        case measure => first | (simp [intOf]; omega) | (rw [ek]; simp [intOf]; omega)
      · have d2 : decide ((size : Int) + (n : Int) > 1048576) = false := decide_eq_false (by omega)
        have d3 : ¬ 1048576 < (size : Int) + (n : Int) := by omega
        obtain ⟨v4, w4, hmk, hA4, hB4⟩ := make_run0 HA.out (m := n) (by omega)
        obtain ⟨A4, c4, rfl, hc4, hC4⟩ := hA4.reads (d := kB) (e := 5) (v := v4) (xs := List.replicate n 0) (by simp)
        have HAP := Aside0.mk (append_calls hA4.tail hfine.out (s := nA) (by decide) (c2 := c4) hC4 (by rw [List.length_replicate]; omega))
        rw [lng_app HSA.out (by omega) hn0] at HAP
        rw [List.length_replicate] at HAP
        have HB4 := Aside0.mk (HB.out.trans hB4)
        clear hA4 hB4 HA HB hC4
        go_wp2_with fail
        refine HAP.out.mono ?_
        rintro e w5 ⟨rfl, hA, hB⟩
        have HA5 := Aside0.mk hA
        have HB5 := Aside0.mk (HB4.out.trans hB)
        clear hA hB HAP HB4
        go_wp2_with fail
        go_roundw
        case rel => exact ⟨k + 1, size + n, acts + 1, by first | rfl | rw [ek], by first | rfl | (refine congrArg (Value.int .i64) ?_; first | omega | (rw [wrap_id (by omega) (by omega)]; omega)), by omega, by omega, by omega, fun q => absurd q (by omega), HA5, HB5⟩
        case measure => first | (simp [intOf]; omega) | (rw [ek]; simp [intOf]; omega)
    · have d1 : decide ((k : Int) < (pieces : Int)) = false := decide_eq_false (by omega)
      have HLS : Aside0 (LngS (lngS size acts) 0 (if size = 0 then 0 else 1)) := ⟨lng_start hsz (by omega)⟩
      have HNM := Aside0.mk (names_calls HA.out ((lng_fine (acts := acts) hsz).ok (by omega)))
      have hth : (if size = 0 then 0 else 1) ≤ 1 := by split <;> omega
      generalize (if size = 0 then 0 else 1) = th at HLS hth
      generalize lngS size acts = st at HA HLS HNM
      have hnl : (namesL st).length = th := by unfold namesL; rw [List.length_map]; exact HLS.out.len
      clear hsz hac hk HSA
      go_wp2_with fail
      refine HNM.out.mono ?_
      rintro e w3 ⟨v, rfl, hR, hb⟩
      obtain ⟨Av, cv, rfl, -, -⟩ := Kd.R_reads hR
      have HA3 := Aside0.mk (HA.out.below hb)
      have HB3 := Aside0.mk (HB.out.trans (hb.mono HA.out.size))
      rw [hnl]
      clear hR hb HNM HA HB hnl
      go_wp2_with fail
      go_loopw [12, 11] (fun i t wr => ∃ (k there : Nat) (st : Stt), i = .int .i64 k ∧ t = .int .i64 there ∧ k ≤ many ∧ there ≤ k + 1 ∧ Aside0 (LngS st k there) ∧ Aside0 (Has W.heap.size wr [stoT p st]) ∧ Aside0 (Below W.heap.size W wr)) (fun i _ _ => many - (intOf i).toNat)
      case atStart => exact ⟨0, th, st, rfl, rfl, by omega, by omega, HLS, HA3, HB3⟩
      case round =>
        clear HLS HA3 HB3 hth
        obtain ⟨k, there, st, rfl, rfl, hk, hth, HLS, HA, HB⟩ := hrel
        by_cases hlt : k < many
        · have d1 : decide ((k : Int) < (many : Int)) = true := decide_eq_true (by omega)
          have ek : wrap64 ((k : Int) + 1) = ((k + 1 : Nat) : Int) := wrap_nat (by omega)
          obtain ⟨hn1, hn2⟩ := lng_next HLS.out (by omega)
          have hcv : (convert 23 9 (.slice (some ⟨wr.heap.size, 0, none⟩) 2 2)).run Try.prog (wr.alloc (.cells #[.int .u8 (97 + (k : Int) % 26), .int .u8 (97 + (k : Int) / 26)] 5)) = .ok (.string (strOfNums [97 + (k : Int) % 26, 97 + (k : Int) / 26])) (wr.alloc (.cells #[.int .u8 (97 + (k : Int) % 26), .int .u8 (97 + (k : Int) / 26)] 5)) := Kd.C_string (P := Try.prog) (c := 2) Try.underlying23 Try.underlying5 Try.underlying9 (lit_B wr [97 + (k : Int) % 26, 97 + (k : Int) / 26] (show 2 ≤ 9223372036854775807 by omega))
          have hnm : (⟨#[98]⟩ : ByteArray) ++ strOfNums [97 + (k : Int) % 26, 97 + (k : Int) / 26] = nmI k := nm_cat k
          have HAP := Aside0.mk (append_calls (HA.out.alloc (.cells #[.int .u8 (97 + (k : Int) % 26), .int .u8 (97 + (k : Int) / 26)] 5)) (HLS.out.fine.ok (by omega)) (s := nmI k) (show 3 ≤ 9223372036854775807 by omega) (A2 := none) (c2 := 0) (ys := []) (Kd.C_nil _ _) (by decide))
          rw [← hnm] at HAP hn1 hn2
          have hss : (strOfNums [97 + (k : Int) % 26, 97 + (k : Int) / 26]).size = 2 := by rw [strOfNums_size]; rfl
          generalize strOfNums [97 + (k : Int) % 26, 97 + (k : Int) / 26] = sm at HAP hn1 hn2 hcv hnm hss
          have HB4 := Aside0.mk (HB.out.alloc HA.out.size (.cells #[.int .u8 (97 + (k : Int) % 26), .int .u8 (97 + (k : Int) / 26)] 5))
          clear HLS HA HB hnm
          by_cases hfull : 64 ≤ there
          · have d2 : decide ((there : Int) ≥ 64) = true := decide_eq_true (by omega)
            have d3 : 64 ≤ there := hfull
            rw [if_pos hfull] at hn1 hn2
            have HN2 := Aside0.mk hn2
            clear hn2
            go_wp2_with fail
            refine HAP.out.mono ?_
            rintro e w5 ⟨rfl, hA, hB⟩
            rw [hn1]
            have HA5 := Aside0.mk hA
            have HB5 := Aside0.mk (HB4.out.trans hB)
            clear hA hB HAP HB4 hcv
            go_wp2_with fail
            go_roundw
            case rel => exact ⟨k + 1, there, _, by first | rfl | rw [ek], rfl, by omega, by omega, HN2, HA5, HB5⟩
            case measure => first | (simp [intOf]; omega) | (rw [ek]; simp [intOf]; omega)
          · have d2 : decide ((there : Int) ≥ 64) = false := decide_eq_false (by omega)
            rw [if_neg hfull] at hn1 hn2
            have HN2 := Aside0.mk hn2
            clear hn2
            go_wp2_with fail
            refine HAP.out.mono ?_
            rintro e w5 ⟨rfl, hA, hB⟩
            rw [hn1]
            have HA5 := Aside0.mk hA
            have HB5 := Aside0.mk (HB4.out.trans hB)
            clear hA hB HAP HB4 hcv
            go_wp2_with fail
            go_roundw
            case rel => exact ⟨k + 1, there + 1, _, by first | rfl | rw [ek], by first | rfl | (refine congrArg (Value.int .i64) ?_; first | omega | (rw [wrap_id (by omega) (by omega)]; omega)), by omega, by omega, HN2, HA5, HB5⟩
            case measure => first | (simp [intOf]; omega) | (rw [ek]; simp [intOf]; omega)
        · have d1 : decide ((k : Int) < (many : Int)) = false := decide_eq_false (by omega)
          have HNM := Aside0.mk (names_calls HA.out (HLS.out.fine.ok (by omega)))
          have hnl : (namesL st).length = there := by unfold namesL; rw [List.length_map]; exact HLS.out.len
          go_wp2_with fail
          refine HNM.out.mono ?_
          rintro e w5 ⟨v, rfl, hR, hb⟩
          obtain ⟨Av, cv, rfl, -, -⟩ := Kd.R_reads hR
          have HB5 := Aside0.mk (HB.out.trans (hb.mono HA.out.size))
          rw [hnl]
          clear hR hb HNM HA HB hnl
          go_wp2_with fail
          refine (awake_calls w5).mono ?_
          rintro e w6 ⟨rfl, hB⟩
          have HB6 := Aside0.mk (HB5.out.trans (hB.mono HB5.out.size))
          clear hB HB5
          go_wp2_with fail
          go_ret
          exact ⟨rfl, HB6.out⟩
end Go.Proofs.Ytibnakpefjjoiaa.Fs
