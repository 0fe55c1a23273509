/- A file has all that was appended to it, piece behind piece: walked. -/
import Derived.Test.YtibnakpefjjoiaaFileQ
namespace Go.Proofs.Ytibnakpefjjoiaa.Fs
open Go.RowKit Go.Proofs.YtibnakpefjjoiaaW.PrintWords Go.Proofs.YtibnakpefjjoiaaW.PrintLast Go.Proofs.YtibnakpefjjoiaaW.PrintMore Go.Proofs.Ytibnakpefjjoiaa.Q Go.Proofs.Ytibnakpefjjoiaa.Own
set_option linter.unusedVariables false
set_option linter.unusedSimpArgs false
attribute [local go_sem ↓] Go.wp_at_zero Go.wp_at_succ

set_option maxHeartbeats 8000000 in
set_option maxRecDepth 100000 in
theorem pieces_law {G : List Int → Prop} (A0 : Option Addr) (c0 : Nat) (l0 : List (List Int)) (a1 : Int) (W : World) (hr0 : Kd.C kR W A0 l0.length l0) (hc0 : l0.length ≤ c0) (hm0 : l0.length ≤ 9223372036854775807) (y0 : l0.length * 24 ≤ 140737488351232) (hg0 : ∀ x ∈ l0, G x) (w1 : (Lit.int .i64 a1).wf = true) :
    Calls Try.prog 3 #[.slice A0 l0.length c0, .int .i64 a1] W fun e w' => e = .returned (.bool true) ∧ Below W.heap.size W w' := by
  have HC := Aside0.mk hr0
  clear hr0 hc0 hg0 w1
  go_enter Try.func3, Try.ntmps3
  go_wp2_with fail
  go_loopw [6, 5] (fun i m wr => ∃ k : Nat, i = .int .i64 k ∧ m = .int .i64 ((l0.take k).flatten.length : Nat) ∧ k ≤ l0.length ∧ k ≤ 50 ∧ (l0.take k).flatten.length ≤ 20000 ∧ Aside0 (W = wr)) (fun i _ _ => l0.length - (intOf i).toNat)
  case atStart => exact ⟨0, rfl, rfl, by omega, by omega, by simp, ⟨rfl⟩⟩
  case round =>
    obtain ⟨k, rfl, rfl, hk, hk50, hfl, ⟨rfl⟩⟩ := hrel
    by_cases hlt : k < l0.length
    · obtain ⟨ad, A1, c1, rfl, hcell, hle, -⟩ := at_R HC.out k hlt
      have d1 : decide ((k : Int) < (l0.length : Int)) = true := decide_eq_true (by omega)
      have d2 : decide (0 ≤ (k : Int)) = true := decide_eq_true (by omega)
      have HT := Aside0.mk (take_flat l0 hlt)
      generalize l0[k] = x at HT hcell hle
      by_cases h1 : x.length > 20000
      · have d3 : decide ((x.length : Int) > 20000) = true := decide_eq_true (by omega)
        have d4 : 20000 < (x.length : Int) := by omega
        go_wp2_with fail
        go_ret
        exact ⟨rfl, Below.refl _ _⟩
      have hn : (l0.take (k + 1)).flatten.length = (l0.take k).flatten.length + x.length := by rw [HT.out, List.length_append]
      have d3 : decide ((x.length : Int) > 20000) = false := decide_eq_false (by omega)
      have d4 : ¬ 20000 < (x.length : Int) := by omega
      generalize (l0.take k).flatten.length = n at hfl hn
      have hw : wrap64 ((n : Int) + (x.length : Int)) = ((n + x.length : Nat) : Int) := by unfold wrap64; omega
      by_cases h2 : n + x.length > 20000
      · have d5 : decide (((n + x.length : Nat) : Int) > 20000) = true := decide_eq_true (by omega)
        have d6 : 20000 < ((n + x.length : Nat) : Int) := by omega
        go_wp2_with fail
        go_ret
        exact ⟨rfl, Below.refl _ _⟩
      have d5 : decide (((n + x.length : Nat) : Int) > 20000) = false := decide_eq_false (by omega)
      have d6 : ¬ 20000 < ((n + x.length : Nat) : Int) := by omega
      by_cases h3 : k ≥ 50
      · have d7 : decide ((k : Int) ≥ 50) = true := decide_eq_true (by omega)
        have d8 : 50 ≤ (k : Int) := by omega
        go_wp2_with fail
        go_ret
        exact ⟨rfl, Below.refl _ _⟩
      have d7 : decide ((k : Int) ≥ 50) = false := decide_eq_false (by omega)
      have d8 : ¬ 50 ≤ (k : Int) := by omega
      go_wp2_with fail
      go_roundw
      case rel => exact ⟨k + 1, rfl, by rw [hn, Int.natCast_add], by omega, by omega, by omega, ⟨trivial⟩⟩
      case measure => simp [intOf]; omega
    · have d1 : decide ((k : Int) < (l0.length : Int)) = false := decide_eq_false (by omega)
      obtain rfl : k = l0.length := by omega
      rw [List.take_length] at hfl
      have HFL := Aside0.mk hfl
      have HK := Aside0.mk hk50
      clear hk50 hfl hk hlt
      rw [List.take_length]
      generalize (l0.flatten.length : Int) = nn
      go_wp2_with fail
      refine (new_calls (Has.nil W)).mono ?_
      rintro e w1 ⟨p, rfl, hA, hB⟩
      have HA1 := Aside0.mk (hA.row (Below.refl _ _) (Kd.R_nil kB 5 _ _ _)).swap
      have HB1 := Aside0.mk hB
      clear hA hB d1
      go_wp2_with fail
      go_loopw [9, 8] (fun i u w => ∃ k : Nat, i = .int .i64 k ∧ k ≤ l0.length ∧ Aside0 (Has W.heap.size w [stoT p (pcS l0 k), rowB u (l0.take k).flatten]) ∧ Aside0 (Below W.heap.size W w)) (fun i _ _ => l0.length - (intOf i).toNat)
      case atStart => exact ⟨0, rfl, by omega, HA1, HB1⟩
      case round =>
        obtain ⟨k, rfl, hk, HA, HB⟩ := hrel
        by_cases hlt : k < l0.length
        · obtain ⟨ad, A1, c1, rfl, hcell, hle, hCx⟩ := at_R HC.out k hlt
          have d1 : decide ((k : Int) < (l0.length : Int)) = true := decide_eq_true (by omega)
          have d2 : decide (0 ≤ (k : Int)) = true := decide_eq_true (by omega)
          have HT := Aside0.mk (take_flat l0 hlt)
          have HN := Aside0.mk (pc_next hlt HFL.out)
          have hlx : l0[k].length ≤ 20000 := by have := take_flat_le l0 (k + 1); have := HFL.out; rw [HT.out, List.length_append] at *; omega
          have hly : (l0.take k).flatten.length ≤ 20000 := by have := take_flat_le l0 k; have := HFL.out; omega
          generalize l0[k] = x at HT HN hcell hle hCx hlx
          have HCX := Aside0.mk hCx
          have q0 := pw_cell_below HB.out hcell
          have HAP := Aside0.mk (append_calls HA.out (pc_ok (by have := HK.out; omega) HFL.out) (s := nA) (by decide) (c2 := c1) (Kd.C_below hCx HB.out) (by omega))
          rw [HN.out] at HAP
          clear hCx
          go_wp2_with fail
          refine HAP.out.mono ?_
          rintro e w3 ⟨rfl, hA, hB⟩
          have HA3 := Aside0.mk hA
          have HB3 := Aside0.mk (HB.out.trans hB)
          have q1 := pw_cell_below HB3.out hcell
          clear hA hB q0 HAP HA HB
          go_wp2_with (refine app_rows kB HA3.out.swap rfl _ _ 23 (.int .u8 0) 1 rfl Try.underlying23 inf5 rfl (by decide) (by decide) A1 c1 rfl rfl (Kd.C_below HCX.out HB3.out) (fun x cs hx => mk_u8 hx) (by omega) ?_; rintro v4 w4 hA4 hB4; have HA4 := Aside0.mk hA4.swap; have HB4 := Aside0.mk (HB3.out.trans hB4); clear hA4 hB4 HA3 HB3)
          rw [← HT.out] at HA4
          go_roundw
          case rel => exact ⟨k + 1, rfl, by omega, HA4, HB4⟩
          case measure => simp [intOf]; omega
        · have d1 : decide ((k : Int) < (l0.length : Int)) = false := decide_eq_false (by omega)
          obtain rfl : k = l0.length := by omega
          rw [List.take_length] at HA
          clear hk hlt
          obtain ⟨Au, cu, rfl, hcu, -⟩ := HA.out.reads (d := kB) (e := 5) (v := u8) (xs := l0.flatten) (by simp)
          clear HA1 HB1 d1
          by_cases h0 : l0.length = 0
          · have e1 : pcS l0 l0.length = ⟨-1, 0, []⟩ := if_pos h0
            have HA2 : Aside0 (Has W.heap.size wr [stoT p ⟨-1, 0, []⟩, rowB (.slice Au l0.flatten.length cu) l0.flatten]) := ⟨by rw [← e1]; exact HA.out⟩
            have HNM := Aside0.mk (names_calls HA2.out ok_new)
            have d2 : ((l0.length : Int) == 0) = true := by rw [h0]; rfl
            clear HA e1
            go_wp2_with fail
            refine HNM.out.mono ?_
            rintro e w3 ⟨v, rfl, hR, hb⟩
            obtain ⟨Av, cv, rfl, -, -⟩ := Kd.R_reads hR
            have HA3 := Aside0.mk (HA2.out.below hb)
            have HTR := Aside0.mk (trunc_calls HA3.out ok_new (s := nA) (by decide) 0)
            have HB3 := Aside0.mk (HB.out.trans (hb.mono HA2.out.size))
            rw [show truncS ⟨-1, 0, []⟩ nA 0 = (31, ⟨-1, 0, []⟩) from rfl] at HTR
            clear hR hb HNM HA2 HB
            rw [show (namesL ⟨-1, 0, []⟩).length = 0 from rfl]
            go_wp2_with fail
            refine HTR.out.mono ?_
            rintro e w4 ⟨rfl, hA, hB⟩
            have HB4 := Aside0.mk (HB3.out.trans hB)
            clear hA hB HTR HB3 HA3
            go_wp2_with fail
            go_ret
            exact ⟨rfl, HB4.out⟩
          · have e1 : pcS l0 l0.length = oneS nA l0.length l0.flatten := by unfold pcS; rw [if_neg h0, List.take_length]
            rw [e1] at HA
            have d2 : ((l0.length : Int) == 0) = false := beq_eq_false_iff_ne.2 (by omega)
            clear e1
            generalize l0.flatten = xs at HA HFL hcu ⊢
            generalize l0.length = n at HA HK HC d2 h0 ⊢
            have HRD := Aside0.mk (read_calls HA.out (rise_one nA xs 0) (ok_one nA (by omega) (by have := HK.out; omega) (by have := HFL.out; omega)) (s := nA) (by decide))
            unfold ReadPost at HRD
            rw [(told_one nA n xs).1, (told_one nA n xs).2] at HRD
            dsimp only at HRD
            go_wp2_with fail
            refine HRD.out.mono ?_
            rintro e w3 ⟨v, rfl, hA, hB⟩
            obtain ⟨Av, cv, rfl, hcv, hCv⟩ := hA.reads (d := kB) (e := 5) (v := v) (xs := xs) (by simp)
            obtain ⟨Au', cu', ev, -, hCu⟩ := hA.reads (d := kB) (e := 5) (v := .slice Au xs.length cu) (xs := xs) (by simp)
            cases ev
            have g1 := Kd.C_string (P := Try.prog) (c := cv) Try.underlying23 Try.underlying5 Try.underlying9 hCv
            have g2 := Kd.C_string (P := Try.prog) (c := cu) Try.underlying23 Try.underlying5 Try.underlying9 hCu
            have HA3 := Aside0.mk hA.swap.tail
            have HB3 := Aside0.mk (HB.out.trans hB)
            clear hA hB HRD hCu hCv HB HA
            obtain ⟨m, hm, em⟩ := wrap_mod a1 (xs.length + 1) (by omega) (by have := HFL.out; omega)
            have ewl : wrap64 ((xs.length : Int) + 1) = ((xs.length + 1 : Nat) : Int) := wrap_nat (by have := HFL.out; omega)
            have dz : (IntKind.u64.wrap (wrap64 ((xs.length : Int) + 1)) == 0) = false := by rw [ewl]; exact u64_nz _ (by have := HFL.out; omega)
            have dzp := beq_eq_false_iff_ne.1 dz
            rw [← ewl] at em
            clear ewl
            go_wp2_with fail
            rw [em]
            clear em dz dzp g1 g2
            have HN1 : Aside0 (0 ≤ (n : Int) ∧ (n : Int) + 1 + 1 < 1000000 ∧ 0 ≤ (n : Int) + 1) := ⟨by have := HK.out; omega⟩
            have HXM : Aside0 ((xs.take m).length ≤ 20000) := ⟨by rw [List.length_take]; have := HFL.out; omega⟩
            have HTR := Aside0.mk (trunc_calls HA3.out (ok_one nA HN1.out.1 (by have := HN1.out.2.1; omega) (by have := HFL.out; omega)) (s := nA) (by decide) (m : Int))
            rw [trunc_one (by omega)] at HTR
            generalize hys : xs.take m = ys at HTR HXM
            refine HTR.out.mono ?_
            rintro e w4 ⟨rfl, hA, hB⟩
            have HA4 := Aside0.mk hA
            have HB4 := Aside0.mk (HB3.out.trans hB)
            clear hA hB HTR HA3 HB3
            have HRN := Aside0.mk (rename_calls HA4.out (ok_one nA HN1.out.2.2 (by have := HN1.out.2.1; omega) (by have := HXM.out; omega)) (s := nA) (m := nB) (by decide) (by decide))
            rw [rename_one] at HRN
            go_wp2_with fail
            refine HRN.out.mono ?_
            rintro e w5 ⟨rfl, hA, hB⟩
            have HA5 := Aside0.mk hA
            have HB5 := Aside0.mk (HB4.out.trans hB)
            clear hA hB HRN HA4 HB4
            dsimp only at HA5
            have HOK : Aside0 (OkS (oneS nB ((n : Int) + 1 + 1) (ys))) := ⟨ok_one nB (by have := HN1.out.1; omega) HN1.out.2.1 (by have := HXM.out; omega)⟩
            have HRB := Aside0.mk (read_calls HA5.out (rise_one nB (ys) 0) HOK.out (s := nB) (by decide))
            unfold ReadPost at HRB
            rw [(told_one nB _ (ys)).1, (told_one nB _ (ys)).2] at HRB
            dsimp only at HRB
            go_wp2_with fail
            refine HRB.out.mono ?_
            rintro e w6 ⟨vb, rfl, hA, hB⟩
            obtain ⟨Ab, cb, rfl, -, -⟩ := hA.reads (d := kB) (e := 5) (v := vb) (xs := ys) (by simp)
            have HA6 := Aside0.mk hA
            have HB6 := Aside0.mk (HB5.out.trans hB)
            clear hA hB HRB HA5 HB5
            have HRA := Aside0.mk (read_calls HA6.out (rise_one nB (ys) 0) HOK.out (s := nA) (by decide))
            unfold ReadPost at HRA
            rw [told_gone, show (toldX (oneS nB ((n : Int) + 1 + 1) (ys)) nA).f1 = [] from rfl] at HRA
            go_wp2_with fail
            refine HRA.out.mono ?_
            rintro e w7 ⟨va, rfl, hA, hB⟩
            obtain ⟨Aa, ca, rfl, -, -⟩ := hA.reads (d := kB) (e := 5) (v := va) (xs := []) (by simp)
            have HA7 := Aside0.mk hA.drew
            have HB7 := Aside0.mk ((HB6.out.trans hB).trans (below_drew (Below.refl _ _)))
            clear hA hB HRA HA6 HB6
            obtain ⟨_, _, ev, -, hCb⟩ := HA7.out.reads (d := kB) (e := 5) (v := .slice Ab (ys).length cb) (xs := ys) (by simp)
            cases ev
            obtain ⟨_, _, ev, -, hCu⟩ := HA7.out.reads (d := kB) (e := 5) (v := .slice Au xs.length cu) (xs := xs) (by simp)
            cases ev
            have elm : ys.length = m := by rw [← hys, List.length_take]; omega
            have g1 := Kd.C_string (P := Try.prog) (c := cb) Try.underlying23 Try.underlying5 Try.underlying9 hCb
            have g2 := Kd.C_string (P := Try.prog) (c := cu) Try.underlying23 Try.underlying5 Try.underlying9 (show Kd.C kB w7.drew Au m ys from by have := Kd.C_take hCu (m := m) (by omega); rw [hys, elm] at this; exact this)
            have HAC := Aside0.mk (acts_calls HA7.out)
            dsimp only [oneS] at HAC
            generalize strOfNums ys = sm at g1 g2
            have ewn : wrap64 ((n : Int) + 2) = (n : Int) + 1 + 1 := by have := HN1.out.2.1; unfold wrap64; omega
            have eb : ((n : Int) + 1 + 1 == wrap64 ((n : Int) + 2)) = true := by rw [ewn]; exact beq_self_eq_true _
            have f1 : decide (0 ≤ (m : Int)) = true := decide_eq_true (by omega)
            have f2 : m ≤ cu := by omega
            clear elm hys hCb hCu HN1 HXM HOK HK HC ewn
            go_wp2_with fail
            refine start_ (n := 32) (S := fun w' => (convert 23 9 (.slice Ab ys.length cb)).run Try.prog w' = .ok (.string sm) w' ∧ (convert 23 9 (.slice Au m cu)).run Try.prog w' = .ok (.string sm) w') (ds := []) #[false, false, false, false, false, false, false, false, false, false, false, false, false, false, false, false, false, false, false, false, false, false, false, false, false, false, false, false, false, false, false, false] (by kernel_rfl) rfl rfl ⟨g1, g2⟩ (fun hHeld => ?_)
            refine pure_ (i := 0) (N := some 112) (v := ?_) (a' := ?_) #[true, false, false, false, false, false, false, false, false, false, false, false, false, false, false, false, false, false, false, false, false, false, false, false, false, false, false, false, false, false, false, false] rfl rfl (by kernel_rfl) (fun _ _ _ h => h) (Or.inl ⟨by rfl, ?_⟩) ?_ ?_
            rotate_left
            · intro w'
              go_simp
              with_reducible rfl
            rotate_left
            · simp only [Act.put, List.setIfInBounds_toArray, List.set_cons_zero, List.set_cons_succ, i64_w, i32_w]
              rfl
            refine pure_ (i := 1) (N := some 113) (v := ?_) (a' := ?_) #[true, true, false, false, false, false, false, false, false, false, false, false, false, false, false, false, false, false, false, false, false, false, false, false, false, false, false, false, false, false, false, false] rfl rfl (by kernel_rfl) (fun _ _ _ h => h) (Or.inl ⟨by rfl, ?_⟩) ?_ ?_
            rotate_left
            · intro w'
              go_simp
              with_reducible rfl
            rotate_left
            · simp only [Act.put, List.setIfInBounds_toArray, List.set_cons_zero, List.set_cons_succ, i64_w, i32_w]
              rfl
            refine pure_ (i := 2) (N := some 114) (v := ?_) (a' := ?_) #[true, true, true, false, false, false, false, false, false, false, false, false, false, false, false, false, false, false, false, false, false, false, false, false, false, false, false, false, false, false, false, false] rfl rfl (by kernel_rfl) (fun _ _ _ h => h) (Or.inl ⟨by rfl, ?_⟩) ?_ ?_
            rotate_left
            · intro w'
              go_simp
              with_reducible rfl
            rotate_left
            · simp only [Act.put, List.setIfInBounds_toArray, List.set_cons_zero, List.set_cons_succ, i64_w, i32_w]
              rfl
            refine pure_ (i := 3) (N := some 115) (v := ?_) (a' := ?_) #[true, true, true, true, false, false, false, false, false, false, false, false, false, false, false, false, false, false, false, false, false, false, false, false, false, false, false, false, false, false, false, false] rfl rfl (by kernel_rfl) (fun _ _ _ h => h) (Or.inl ⟨by rfl, ?_⟩) ?_ ?_
            rotate_left
            · intro w'
              go_simp
              with_reducible rfl
            rotate_left
            · simp only [Act.put, List.setIfInBounds_toArray, List.set_cons_zero, List.set_cons_succ, i64_w, i32_w]
              rfl
            refine pure_ (i := 4) (N := some 116) (v := ?_) (a' := ?_) #[true, true, true, true, true, false, false, false, false, false, false, false, false, false, false, false, false, false, false, false, false, false, false, false, false, false, false, false, false, false, false, false] rfl rfl (by kernel_rfl) (fun _ _ _ h => h) (Or.inl ⟨by rfl, ?_⟩) ?_ ?_
            rotate_left
            · intro w'
              go_simp
              with_reducible rfl
            rotate_left
            · simp only [Act.put, List.setIfInBounds_toArray, List.set_cons_zero, List.set_cons_succ, i64_w, i32_w]
              rfl
            refine pure_ (i := 5) (N := some 117) (v := ?_) (a' := ?_) #[true, true, true, true, true, true, false, false, false, false, false, false, false, false, false, false, false, false, false, false, false, false, false, false, false, false, false, false, false, false, false, false] rfl rfl (by kernel_rfl) (fun _ _ _ h => h) (Or.inl ⟨by rfl, ?_⟩) ?_ ?_
            rotate_left
            · intro w'
              go_simp
              with_reducible rfl
            rotate_left
            · simp only [Act.put, List.setIfInBounds_toArray, List.set_cons_zero, List.set_cons_succ, i64_w, i32_w]
              rfl
            refine pure_ (i := 6) (N := some 118) (v := ?_) (a' := ?_) #[true, true, true, true, true, true, true, false, false, false, false, false, false, false, false, false, false, false, false, false, false, false, false, false, false, false, false, false, false, false, false, false] rfl rfl (by kernel_rfl) (fun _ _ _ h => h) (Or.inl ⟨by rfl, ?_⟩) ?_ ?_
            rotate_left
            · intro w'
              go_simp
              with_reducible rfl
            rotate_left
            · simp only [Act.put, List.setIfInBounds_toArray, List.set_cons_zero, List.set_cons_succ, i64_w, i32_w]
              rfl
            refine pure_ (i := 7) (N := some 119) (v := ?_) (a' := ?_) #[true, true, true, true, true, true, true, true, false, false, false, false, false, false, false, false, false, false, false, false, false, false, false, false, false, false, false, false, false, false, false, false] rfl rfl (by kernel_rfl) (fun _ _ _ h => h) (Or.inl ⟨by rfl, ?_⟩) ?_ ?_
            rotate_left
            · intro w'
              go_simp
              with_reducible rfl
            rotate_left
            · simp only [Act.put, List.setIfInBounds_toArray, List.set_cons_zero, List.set_cons_succ, i64_w, i32_w]
              rfl
            refine pure_ (i := 8) (N := some 120) (v := ?_) (a' := ?_) #[true, true, true, true, true, true, true, true, true, false, false, false, false, false, false, false, false, false, false, false, false, false, false, false, false, false, false, false, false, false, false, false] rfl rfl (by kernel_rfl) (fun _ _ _ h => h) (Or.inl ⟨by rfl, ?_⟩) ?_ ?_
            rotate_left
            · intro w'
              go_simp
              with_reducible rfl
            rotate_left
            · simp only [Act.put, List.setIfInBounds_toArray, List.set_cons_zero, List.set_cons_succ, i64_w, i32_w]
              rfl
            refine pure_ (i := 9) (N := some 121) (v := ?_) (a' := ?_) #[true, true, true, true, true, true, true, true, true, true, false, false, false, false, false, false, false, false, false, false, false, false, false, false, false, false, false, false, false, false, false, false] rfl rfl (by kernel_rfl) (fun _ _ _ h => h) (Or.inl ⟨by rfl, ?_⟩) ?_ ?_
            rotate_left
            · intro w'
              go_simp
              with_reducible rfl
            rotate_left
            · simp only [Act.put, List.setIfInBounds_toArray, List.set_cons_zero, List.set_cons_succ, i64_w, i32_w]
              rfl
            refine pure_ (i := 10) (N := some 122) (v := ?_) (a' := ?_) #[true, true, true, true, true, true, true, true, true, true, true, false, false, false, false, false, false, false, false, false, false, false, false, false, false, false, false, false, false, false, false, false] rfl rfl (by kernel_rfl) (fun _ _ _ h => h) (Or.inl ⟨by rfl, ?_⟩) ?_ ?_
            rotate_left
            · intro w'
              go_simp
              with_reducible rfl
            rotate_left
            · simp only [Act.put, List.setIfInBounds_toArray, List.set_cons_zero, List.set_cons_succ, i64_w, i32_w]
              rfl
            refine pure_ (i := 11) (N := some 123) (v := ?_) (a' := ?_) #[true, true, true, true, true, true, true, true, true, true, true, true, false, false, false, false, false, false, false, false, false, false, false, false, false, false, false, false, false, false, false, false] rfl rfl (by kernel_rfl) (fun _ _ _ h => h) (Or.inl ⟨by rfl, ?_⟩) ?_ ?_
            rotate_left
            · intro w'
              go_simp
              with_reducible rfl
            rotate_left
            · simp only [Act.put, List.setIfInBounds_toArray, List.set_cons_zero, List.set_cons_succ, i64_w, i32_w]
              rfl
            refine pure_ (i := 12) (N := some 124) (v := ?_) (a' := ?_) #[true, true, true, true, true, true, true, true, true, true, true, true, true, false, false, false, false, false, false, false, false, false, false, false, false, false, false, false, false, false, false, false] rfl rfl (by kernel_rfl) (fun _ _ _ h => h) (Or.inl ⟨by rfl, ?_⟩) ?_ ?_
            rotate_left
            · intro w'
              go_simp
              with_reducible rfl
            rotate_left
            · simp only [Act.put, List.setIfInBounds_toArray, List.set_cons_zero, List.set_cons_succ, i64_w, i32_w]
              rfl
            refine pure_ (i := 13) (N := some 125) (v := ?_) (a' := ?_) #[true, true, true, true, true, true, true, true, true, true, true, true, true, true, false, false, false, false, false, false, false, false, false, false, false, false, false, false, false, false, false, false] rfl rfl (by kernel_rfl) (fun _ _ _ h => h) (Or.inl ⟨by rfl, ?_⟩) ?_ ?_
            rotate_left
            · intro w'
              go_simp
              with_reducible rfl
            rotate_left
            · simp only [Act.put, List.setIfInBounds_toArray, List.set_cons_zero, List.set_cons_succ, i64_w, i32_w]
              rfl
            refine pure_ (i := 14) (N := some 126) (v := ?_) (a' := ?_) #[true, true, true, true, true, true, true, true, true, true, true, true, true, true, true, false, false, false, false, false, false, false, false, false, false, false, false, false, false, false, false, false] rfl rfl (by kernel_rfl) (fun _ _ _ h => h) (Or.inl ⟨by rfl, ?_⟩) ?_ ?_
            rotate_left
            · intro w'
              go_simp
              with_reducible rfl
            rotate_left
            · simp only [Act.put, List.setIfInBounds_toArray, List.set_cons_zero, List.set_cons_succ, i64_w, i32_w]
              rfl
            refine pure_ (i := 15) (N := some 127) (v := ?_) (a' := ?_) #[true, true, true, true, true, true, true, true, true, true, true, true, true, true, true, true, false, false, false, false, false, false, false, false, false, false, false, false, false, false, false, false] rfl rfl (by kernel_rfl) (fun _ _ _ h => h) (Or.inl ⟨by rfl, ?_⟩) ?_ ?_
            rotate_left
            · intro w'
              go_simp
              with_reducible rfl
            rotate_left
            · simp only [Act.put, List.setIfInBounds_toArray, List.set_cons_zero, List.set_cons_succ, i64_w, i32_w]
              rfl
            refine pure_ (i := 17) (N := some 129) (v := ?_) (a' := ?_) #[true, true, true, true, true, true, true, true, true, true, true, true, true, true, true, true, false, true, false, false, false, false, false, false, false, false, false, false, false, false, false, false] rfl rfl (by kernel_rfl) (fun _ _ _ h => h) (Or.inl ⟨by rfl, ?_⟩) ?_ ?_
            rotate_left
            · intro w'
              go_simp
              with_reducible rfl
            rotate_left
            · simp only [Act.put, List.setIfInBounds_toArray, List.set_cons_zero, List.set_cons_succ, i64_w, i32_w]
              rfl
            refine pure_ (i := 18) (N := some 130) (v := ?_) (a' := ?_) #[true, true, true, true, true, true, true, true, true, true, true, true, true, true, true, true, false, true, true, false, false, false, false, false, false, false, false, false, false, false, false, false] rfl rfl (by kernel_rfl) (fun _ _ _ h => h) (Or.inl ⟨by rfl, ?_⟩) ?_ ?_
            rotate_left
            · intro w'
              go_simp
              with_reducible rfl
            rotate_left
            · simp only [Act.put, List.setIfInBounds_toArray, List.set_cons_zero, List.set_cons_succ, i64_w, i32_w]
              rfl
            refine pure_ (i := 19) (N := some 131) (v := ?_) (a' := ?_) #[true, true, true, true, true, true, true, true, true, true, true, true, true, true, true, true, false, true, true, true, false, false, false, false, false, false, false, false, false, false, false, false] rfl rfl (by kernel_rfl) (fun _ _ _ h => h) (Or.inl ⟨by rfl, ?_⟩) ?_ ?_
            rotate_left
            · intro w'
              go_simp
              with_reducible rfl
            rotate_left
            · simp only [Act.put, List.setIfInBounds_toArray, List.set_cons_zero, List.set_cons_succ, i64_w, i32_w]
              rfl
            refine take_ (i := 16) (N := some 128) (v := ?_) (a' := ?_) #[true, true, true, true, true, true, true, true, true, true, true, true, true, true, true, true, true, true, true, true, false, false, false, false, false, false, false, false, false, false, false, false] rfl rfl (by kernel_rfl) (fun _ _ _ h => h) (Or.inl ⟨by rfl, ?_⟩) hHeld ?_ ?_
            rotate_left
            · rintro w' ⟨s0, s1⟩
              go_simp
              with_reducible rfl
            rotate_left
            · simp only [Act.put, List.setIfInBounds_toArray, List.set_cons_zero, List.set_cons_succ, i64_w, i32_w]
              rfl
            refine take_ (i := 20) (N := some 132) (v := ?_) (a' := ?_) #[true, true, true, true, true, true, true, true, true, true, true, true, true, true, true, true, true, true, true, true, true, false, false, false, false, false, false, false, false, false, false, false] rfl rfl (by kernel_rfl) (fun _ _ _ h => h) (Or.inl ⟨by rfl, ?_⟩) hHeld ?_ ?_
            rotate_left
            · rintro w' ⟨s0, s1⟩
              go_simp
              with_reducible rfl
            rotate_left
            · simp only [Act.put, List.setIfInBounds_toArray, List.set_cons_zero, List.set_cons_succ, i64_w, i32_w]
              rfl
            refine pure_ (i := 21) (N := some 133) (v := ?_) (a' := ?_) #[true, true, true, true, true, true, true, true, true, true, true, true, true, true, true, true, true, true, true, true, true, true, false, false, false, false, false, false, false, false, false, false] rfl rfl (by kernel_rfl) (fun _ _ _ h => h) (Or.inl ⟨by rfl, ?_⟩) ?_ ?_
            rotate_left
            · intro w'
              go_simp
              with_reducible rfl
            rotate_left
            · simp only [Act.put, List.setIfInBounds_toArray, List.set_cons_zero, List.set_cons_succ, i64_w, i32_w]
              rfl
            refine pure_ (i := 22) (N := some 134) (v := ?_) (a' := ?_) #[true, true, true, true, true, true, true, true, true, true, true, true, true, true, true, true, true, true, true, true, true, true, true, false, false, false, false, false, false, false, false, false] rfl rfl (by kernel_rfl) (fun _ _ _ h => h) (Or.inl ⟨by rfl, ?_⟩) ?_ ?_
            rotate_left
            · intro w'
              go_simp
              with_reducible rfl
            rotate_left
            · simp only [Act.put, List.setIfInBounds_toArray, List.set_cons_zero, List.set_cons_succ, i64_w, i32_w]
              rfl
            refine pure_ (i := 23) (N := some 135) (v := ?_) (a' := ?_) #[true, true, true, true, true, true, true, true, true, true, true, true, true, true, true, true, true, true, true, true, true, true, true, true, false, false, false, false, false, false, false, false] rfl rfl (by kernel_rfl) (fun _ _ _ h => h) (Or.inl ⟨by rfl, ?_⟩) ?_ ?_
            rotate_left
            · intro w'
              go_simp
              with_reducible rfl
            rotate_left
            · simp only [Act.put, List.setIfInBounds_toArray, List.set_cons_zero, List.set_cons_succ, i64_w, i32_w]
              rfl
            refine pure_ (i := 24) (N := some 136) (v := ?_) (a' := ?_) #[true, true, true, true, true, true, true, true, true, true, true, true, true, true, true, true, true, true, true, true, true, true, true, true, true, false, false, false, false, false, false, false] rfl rfl (by kernel_rfl) (fun _ _ _ h => h) (Or.inl ⟨by rfl, ?_⟩) ?_ ?_
            rotate_left
            · intro w'
              go_simp
              with_reducible rfl
            rotate_left
            · simp only [Act.put, List.setIfInBounds_toArray, List.set_cons_zero, List.set_cons_succ, i64_w, i32_w]
              rfl
            refine pure_ (i := 26) (N := some 138) (v := ?_) (a' := ?_) #[true, true, true, true, true, true, true, true, true, true, true, true, true, true, true, true, true, true, true, true, true, true, true, true, true, false, true, false, false, false, false, false] rfl rfl (by kernel_rfl) (fun _ _ _ h => h) (Or.inl ⟨by rfl, ?_⟩) ?_ ?_
            rotate_left
            · intro w'
              go_simp
              with_reducible rfl
            rotate_left
            · simp only [Act.put, List.setIfInBounds_toArray, List.set_cons_zero, List.set_cons_succ, i64_w, i32_w]
              rfl
            refine pure_ (i := 27) (N := some 139) (v := ?_) (a' := ?_) #[true, true, true, true, true, true, true, true, true, true, true, true, true, true, true, true, true, true, true, true, true, true, true, true, true, false, true, true, false, false, false, false] rfl rfl (by kernel_rfl) (fun _ _ _ h => h) (Or.inl ⟨by rfl, ?_⟩) ?_ ?_
            rotate_left
            · intro w'
              go_simp
              with_reducible rfl
            rotate_left
            · simp only [Act.put, List.setIfInBounds_toArray, List.set_cons_zero, List.set_cons_succ, i64_w, i32_w]
              rfl
            refine pure_ (i := 28) (N := some 140) (v := ?_) (a' := ?_) #[true, true, true, true, true, true, true, true, true, true, true, true, true, true, true, true, true, true, true, true, true, true, true, true, true, false, true, true, true, false, false, false] rfl rfl (by kernel_rfl) (fun _ _ _ h => h) (Or.inl ⟨by rfl, ?_⟩) ?_ ?_
            rotate_left
            · intro w'
              go_simp
              with_reducible rfl
            rotate_left
            · simp only [Act.put, List.setIfInBounds_toArray, List.set_cons_zero, List.set_cons_succ, i64_w, i32_w]
              rfl
            refine one_ (i := 25) (N := some 137) #[true, true, true, true, true, true, true, true, true, true, true, true, true, true, true, true, true, true, true, true, true, true, true, true, true, true, true, true, true, false, false, false] rfl rfl (by kernel_rfl) (by decide) (fun K hK => ?_)
            refine goes_ Try.func15 (by kernel_rfl) rfl #[ptr p] (by rfl) rfl rfl (by simp only [List.map_toArray, List.map_cons, List.map_nil]; rfl) ?_
            with_reducible refine (HAC.out).mono ?_
            rintro e w8 ⟨rfl, rfl⟩
            refine ⟨_, rfl, ?_⟩
            refine hK.out _ _ ⟨g1, g2⟩ (fun hHeld => ?_)
            clear hK K
            refine norm_ (a' := ?_) ?_ ?_
            rotate_left
            · show Act.put _ (some 137) _ = _
              simp only [Act.put, List.setIfInBounds_toArray, List.set_cons_zero, List.set_cons_succ, i64_w, i32_w]
              rfl
            refine pure_ (i := 29) (N := some 141) (v := ?_) (a' := ?_) #[true, true, true, true, true, true, true, true, true, true, true, true, true, true, true, true, true, true, true, true, true, true, true, true, true, true, true, true, true, true, false, false] rfl rfl (by kernel_rfl) (fun _ _ _ h => h) (Or.inl ⟨by rfl, ?_⟩) ?_ ?_
            rotate_left
            · intro w'
              go_simp
              with_reducible rfl
            rotate_left
            · simp only [Act.put, List.setIfInBounds_toArray, List.set_cons_zero, List.set_cons_succ, i64_w, i32_w]
              rfl
            refine pure_ (i := 30) (N := some 142) (v := ?_) (a' := ?_) #[true, true, true, true, true, true, true, true, true, true, true, true, true, true, true, true, true, true, true, true, true, true, true, true, true, true, true, true, true, true, true, false] rfl rfl (by kernel_rfl) (fun _ _ _ h => h) (Or.inl ⟨by rfl, ?_⟩) ?_ ?_
            rotate_left
            · intro w'
              go_simp
              with_reducible rfl
            rotate_left
            · simp only [Act.put, List.setIfInBounds_toArray, List.set_cons_zero, List.set_cons_succ, i64_w, i32_w]
              rfl
            refine pure_ (i := 31) (N := some 4) (v := ?_) (a' := ?_) #[true, true, true, true, true, true, true, true, true, true, true, true, true, true, true, true, true, true, true, true, true, true, true, true, true, true, true, true, true, true, true, true] rfl rfl (by kernel_rfl) (fun _ _ _ h => h) (Or.inl ⟨by rfl, ?_⟩) ?_ ?_
            rotate_left
            · intro w'
              go_simp
              with_reducible rfl
            rotate_left
            · simp only [Act.put, List.setIfInBounds_toArray, List.set_cons_zero, List.set_cons_succ, i64_w, i32_w]
              rfl
            refine done_ (by kernel_rfl) ?_

            go_wp2_with fail
            go_ret
            exact ⟨rfl, HB7.out⟩
end Go.Proofs.Ytibnakpefjjoiaa.Fs
