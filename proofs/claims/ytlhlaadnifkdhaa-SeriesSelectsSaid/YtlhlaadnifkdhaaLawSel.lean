/- What is selected are just the series whose labels the matchers meet, each with what lies in the window: walked. -/
import Derived.Test.YtlhlaadnifkdhaaM3
namespace Go.Proofs.Ytlhlaadnifkdhaa.Sr
open Go.RowKit Go.Proofs.YtlhlaadnifkdhaaW.PrintWords Go.Proofs.YtlhlaadnifkdhaaW.PrintLast Go.Proofs.YtlhlaadnifkdhaaW.PrintMore Go.Proofs.Ytlhlaadnifkdhaa.Q Go.Proofs.Ytlhlaadnifkdhaa.Own Go.Proofs.Ytlhlaadnifkdhaa.Nmd
set_option linter.unusedVariables false
set_option linter.unusedSimpArgs false
attribute [local go_sem ↓] Go.wp_at_zero Go.wp_at_succ

theorem mat_at {w : World} {A : Option Addr} {n : Nat} {l : List MT} (h : Kd.C kM w A n l) (k : Nat) (hk : k < l.length) : ∃ ad, A = some ad ∧ w.cell? (ad.add (k * 3)) = some (.string (l[k]).f0) ∧ w.cell? ⟨(ad.add (k * 3)).block, (ad.add (k * 3)).off + 2, none⟩ = some (.string (l[k]).f2) := by
  have hn := Kd.C_len h
  obtain ⟨ad, e, h0, -, h2⟩ := at_T40 h (k : Int) (by omega) (by omega)
  have hr : rd_T40 l (k : Int) = l[k] := by
    unfold rd_T40
    rw [Int.toNat_natCast, List.getD_eq_getElem?_getD, List.getElem?_eq_getElem hk]
    rfl
  rw [hr, Int.toNat_natCast] at h0 h2
  exact ⟨ad, e, h0, h2⟩
set_option maxHeartbeats 16000000 in
set_option maxRecDepth 100000 in
theorem selects_law {G0 : AT → Prop} {G1 : MT → Prop} (A0 : Option Addr) (c0 : Nat) (l0 : List AT) (A1 : Option Addr) (c1 : Nat) (l1 : List MT) (a2 a3 : Int) (W : World) (hr0 : Kd.C kA W A0 l0.length l0) (hc0 : l0.length ≤ c0) (hr1 : Kd.C kM W A1 l1.length l1) (hc1 : l1.length ≤ c1) (hm0 : l0.length ≤ 9223372036854775807) (y0 : l0.length * 48 ≤ 140737488351232) (hg0 : ∀ x ∈ l0, G0 x) (hm1 : l1.length ≤ 9223372036854775807) (y1 : l1.length * 40 ≤ 140737488351232) (hg1 : ∀ x ∈ l1, G1 x) (w2 : (Lit.int .i64 a2).wf = true) (w3 : (Lit.int .i64 a3).wf = true) :
    Calls Try.prog 7 #[.slice A0 l0.length c0, .slice A1 l1.length c1, .int .i64 a2, .int .i64 a3] W fun e w' => e = .returned (.bool true) ∧ Below W.heap.size W w' := by
  clear hg0 hg1 w2 w3 y0 y1
  have hlab : ∀ x ∈ l0, x.f1.length ≤ 9223372036854775807 := by
    intro x hx
    obtain ⟨k, hk, rfl⟩ := List.getElem_of_mem hx
    obtain ⟨ad, A, c, -, -, -, -, -, -, hC⟩ := act_at hr0 k hk
    exact Kd.C_max hC
  obtain ⟨r, hr, hgr⟩ := great_c hr0 hc0 hlab
  have HG := Aside0.mk hgr
  have HC := Aside0.mk hr0
  have HM := Aside0.mk hr1
  have HR := Aside0.mk hr
  have HCC := Aside0.mk (show l0.length ≤ c0 ∧ l1.length ≤ c1 from ⟨hc0, hc1⟩)
  have H1 := Aside0.mk hm1
  clear hr0 hr1 hc0 hc1 hm0 hm1 hlab hgr hr
  go_enter Try.func7, Try.ntmps7
  go_wp2_with fail
  refine HG.out.mono ?_
  rintro e w1 ⟨rfl, hb1⟩
  have HB1 := Aside0.mk hb1
  clear hb1 HG
  cases r with
  | true =>
    go_wp2_with fail
    go_ret
    exact ⟨rfl, HB1.out⟩
  | false =>
    have hl0 := HR.out rfl
    by_cases hml : l1.length > 20
    · have d0 : decide ((l1.length : Int) > 20) = true := decide_eq_true (by omega)
      have d0' : (20 : Int) < (l1.length : Int) := by omega
      go_wp2_with fail
      go_ret
      exact ⟨rfl, HB1.out⟩
    have d0 : decide ((l1.length : Int) > 20) = false := decide_eq_false (by omega)
    have d0' : ¬ (20 : Int) < (l1.length : Int) := by omega
    go_wp2_with fail
    go_loopw [9] (fun i wr => ∃ k : Nat, i = .int .i64 k ∧ k ≤ l1.length ∧ Aside0 (Below W.heap.size W wr)) (fun i _ => l1.length - (intOf i).toNat)
    case atStart => exact ⟨0, rfl, by omega, HB1⟩
    case round =>
      clear HB1
      obtain ⟨k, rfl, hk, HB⟩ := hrel
      by_cases hlt : k < l1.length
      · have d1 : decide ((k : Int) < (l1.length : Int)) = true := decide_eq_true (by omega)
        have d2 : decide (0 ≤ (k : Int)) = true := decide_eq_true (by omega)
        have ek : wrap64 ((k : Int) + 1) = ((k + 1 : Nat) : Int) := (w64 (x := (k : Int) + 1) (by omega) (by omega)).trans (by omega)
        obtain ⟨ad, rfl, q0, q2⟩ := mat_at HM.out k hlt
        replace q0 := (HB.out.cell (World.block_lt_of_cell? W _ q0)).trans q0
        replace q2 := (HB.out.cell (World.block_lt_of_cell? W _ q2)).trans q2
        generalize (l1[k]).f0 = s0 at q0
        generalize (l1[k]).f2 = s2 at q2
        by_cases h1 : (s0.size : Int) > 1000
        · have d3 : decide ((s0.size : Int) > 1000) = true := decide_eq_true h1
          go_wp2_with fail
          go_ret
          exact ⟨rfl, HB.out⟩
        have d3 : decide ((s0.size : Int) > 1000) = false := decide_eq_false h1
        have d3' : ¬ (1000 : Int) < (s0.size : Int) := by omega
        by_cases h2 : (s2.size : Int) > 1000
        · have d4 : decide ((s2.size : Int) > 1000) = true := decide_eq_true h2
          go_wp2_with fail
          go_ret
          exact ⟨rfl, HB.out⟩
        have d4 : decide ((s2.size : Int) > 1000) = false := decide_eq_false h2
        have d4' : ¬ (1000 : Int) < (s2.size : Int) := by omega
        go_wp2_with fail
        go_roundw
        case rel => exact ⟨k + 1, by first | rfl | rw [ek], by omega, HB⟩
        case measure => first | (simp [intOf]; omega) | (rw [ek]; simp [intOf]; omega)
      · obtain rfl : k = l1.length := by omega
        have d1 : decide ((l1.length : Int) < (l1.length : Int)) = false := decide_eq_false (by omega)
        go_wp2_with fail
        refine (st_new (Has.nil wr)).mono ?_
        rintro e w3 ⟨p, rfl, hA, hB⟩
        have HB3 : Aside0 (Below W.heap.size W w3) := ⟨HB.out.trans (hB.mono HB.out.size)⟩
        have HA3 : Aside0 (Has W.heap.size w3 [storeT p (runV (l0.take 0))]) := ⟨⟨HB3.out.size, by
          obtain ⟨F, h1, h2, h3⟩ := hA.all
          exact ⟨F, h1, fun k hk => ⟨trivial, Nat.le_trans HB.out.size (h2 k hk).2.1, (h2 k hk).2.2⟩, trivial⟩⟩⟩
        clear hA hB HB d1 hlt
        go_wp2_with fail
        go_loopw [11] (fun i wr => ∃ k : Nat, i = .int .i64 k ∧ k ≤ l0.length ∧ Aside0 (Has W.heap.size wr [storeT p (runV (l0.take k))]) ∧ Aside0 (Below W.heap.size W wr)) (fun i _ => l0.length - (intOf i).toNat)
        case atStart => exact ⟨0, rfl, by omega, HA3, HB3⟩
        case round =>
          clear HA3 HB3
          obtain ⟨k, rfl, hk, HA, HB⟩ := hrel
          by_cases hlt : k < l0.length
          · have d1 : decide ((k : Int) < (l0.length : Int)) = true := decide_eq_true (by omega)
            have d2 : decide (0 ≤ (k : Int)) = true := decide_eq_true (by omega)
            have ek : wrap64 ((k : Int) + 1) = ((k + 1 : Nat) : Int) := (w64 (x := (k : Int) + 1) (by omega) (by omega)).trans (by omega)
            obtain ⟨ad, Al, cl, rfl, q0, q1, q2, q3, hcl, hCl⟩ := act_at HC.out k hlt
            have HT := Aside0.mk (run_take l0 hlt)
            replace q0 := (HB.out.cell (World.block_lt_of_cell? W _ q0)).trans q0
            replace q1 := (HB.out.cell (World.block_lt_of_cell? W _ q1)).trans q1
            replace q2 := (HB.out.cell (World.block_lt_of_cell? W _ q2)).trans q2
            replace q3 := (HB.out.cell (World.block_lt_of_cell? W _ q3)).trans q3
            have HEX := Aside0.mk (st_exp HA.out (l0[k]).f2.f0)
            have HAD := Aside0.mk (st_add HA.out.drew (A := Al) (c := cl) (ls := (l0[k]).f1) (l0[k]).f2 (fun w' _ hb => Kd.C_below hCl (HB.out.trans ((bl_drew (Below.refl W.heap.size wr)).trans hb))) hcl (Kd.C_max hCl))
            generalize l0[k] = x at q0 q1 q2 q3 HEX HAD HT
            obtain ⟨x0, x1, ⟨x2, x3⟩⟩ := x
            dsimp only at q0 q1 q2 q3 HEX HAD
            clear hCl hcl
            cases x0 with
            | true =>
              have HT2 : Aside0 (runV (l0.take (k + 1)) = expV (runV (l0.take k)) x2) := ⟨HT.out⟩
              clear HAD HT
              go_wp2_with fail
              refine HEX.out.mono ?_
              rintro e w4 ⟨rfl, hA4, hB4⟩
              have HA4 : Aside0 (Has W.heap.size w4 [storeT p (runV (l0.take (k + 1)))]) := ⟨by rw [HT2.out]; exact hA4⟩
              have HB4 := Aside0.mk (HB.out.trans hB4)
              clear hA4 hB4 HEX HA HB
              go_wp2_with fail
              go_roundw
              case rel => exact ⟨k + 1, by first | rfl | rw [ek], by omega, HA4, HB4⟩
              case measure => first | (simp [intOf]; omega) | (rw [ek]; simp [intOf]; omega)
            | false =>
              have HT2 : Aside0 (runV (l0.take (k + 1)) = (addV (runV (l0.take k)) x1 ⟨x2, x3⟩).2) := ⟨HT.out⟩
              clear HEX HT
              go_wp2_with fail
              refine start_ (n := 12) (S := fun w' => w'.cell? (ad.add (k * 4)) = some (.bool false) ∧ w'.cell? ⟨(ad.add (k * 4)).block, (ad.add (k * 4)).off + 1, none⟩ = some (.slice Al x1.length cl) ∧ w'.cell? ⟨(ad.add (k * 4)).block, (ad.add (k * 4)).off + 2, none⟩ = some (.int .i64 x2) ∧ w'.cell? ⟨(ad.add (k * 4)).block, (ad.add (k * 4)).off + 3, none⟩ = some (.int .i64 x3)) (ds := [11]) #[false, false, false, false, false, false, false, false, false, false, false, false] (by kernel_rfl) rfl rfl ⟨q0, q1, q2, q3⟩ (fun hHeld => ?_)
              refine pure_ (i := 0) (N := some 66) (v := ?_) (a' := ?_) #[true, false, false, false, false, false, false, false, false, false, false, false] rfl rfl (by kernel_rfl) (fun _ _ _ h => h) (Or.inl ⟨by rfl, ?_⟩) ?_ ?_
              rotate_left
              · intro w'
                go_simp
                with_reducible rfl
              rotate_left
              · simp only [Act.put, List.setIfInBounds_toArray, List.set_cons_zero, List.set_cons_succ, i64_w, i32_w]
                rfl
              refine pure_ (i := 1) (N := some 67) (v := ?_) (a' := ?_) #[true, true, false, false, false, false, false, false, false, false, false, false] rfl rfl (by kernel_rfl) (fun _ _ _ h => h) (Or.inl ⟨by rfl, ?_⟩) ?_ ?_
              rotate_left
              · intro w'
                go_simp
                with_reducible rfl
              rotate_left
              · simp only [Act.put, List.setIfInBounds_toArray, List.set_cons_zero, List.set_cons_succ, i64_w, i32_w]
                rfl
              refine pure_ (i := 2) (N := some 68) (v := ?_) (a' := ?_) #[true, true, true, false, false, false, false, false, false, false, false, false] rfl rfl (by kernel_rfl) (fun _ _ _ h => h) (Or.inl ⟨by rfl, ?_⟩) ?_ ?_
              rotate_left
              · intro w'
                go_simp
                with_reducible rfl
              rotate_left
              · simp only [Act.put, List.setIfInBounds_toArray, List.set_cons_zero, List.set_cons_succ, i64_w, i32_w]
                rfl
              refine pure_ (i := 3) (N := some 69) (v := ?_) (a' := ?_) #[true, true, true, true, false, false, false, false, false, false, false, false] rfl rfl (by kernel_rfl) (fun _ _ _ h => h) (Or.inl ⟨by rfl, ?_⟩) ?_ ?_
              rotate_left
              · intro w'
                go_simp
                with_reducible rfl
              rotate_left
              · simp only [Act.put, List.setIfInBounds_toArray, List.set_cons_zero, List.set_cons_succ, i64_w, i32_w]
                rfl
              refine pure_ (i := 4) (N := some 70) (v := ?_) (a' := ?_) #[true, true, true, true, true, false, false, false, false, false, false, false] rfl rfl (by kernel_rfl) (fun _ _ _ h => h) (Or.inl ⟨by rfl, ?_⟩) ?_ ?_
              rotate_left
              · intro w'
                go_simp
                with_reducible rfl
              rotate_left
              · simp only [Act.put, List.setIfInBounds_toArray, List.set_cons_zero, List.set_cons_succ, i64_w, i32_w]
                rfl
              refine pure_ (i := 6) (N := some 72) (v := ?_) (a' := ?_) #[true, true, true, true, true, false, true, false, false, false, false, false] rfl rfl (by kernel_rfl) (fun _ _ _ h => h) (Or.inl ⟨by rfl, ?_⟩) ?_ ?_
              rotate_left
              · intro w'
                go_simp
                with_reducible rfl
              rotate_left
              · simp only [Act.put, List.setIfInBounds_toArray, List.set_cons_zero, List.set_cons_succ, i64_w, i32_w]
                rfl
              refine pure_ (i := 7) (N := some 73) (v := ?_) (a' := ?_) #[true, true, true, true, true, false, true, true, false, false, false, false] rfl rfl (by kernel_rfl) (fun _ _ _ h => h) (Or.inl ⟨by rfl, ?_⟩) ?_ ?_
              rotate_left
              · intro w'
                go_simp
                with_reducible rfl
              rotate_left
              · simp only [Act.put, List.setIfInBounds_toArray, List.set_cons_zero, List.set_cons_succ, i64_w, i32_w]
                rfl
              refine pure_ (i := 8) (N := some 74) (v := ?_) (a' := ?_) #[true, true, true, true, true, false, true, true, true, false, false, false] rfl rfl (by kernel_rfl) (fun _ _ _ h => h) (Or.inl ⟨by rfl, ?_⟩) ?_ ?_
              rotate_left
              · intro w'
                go_simp
                with_reducible rfl
              rotate_left
              · simp only [Act.put, List.setIfInBounds_toArray, List.set_cons_zero, List.set_cons_succ, i64_w, i32_w]
                rfl
              refine pure_ (i := 9) (N := some 75) (v := ?_) (a' := ?_) #[true, true, true, true, true, false, true, true, true, true, false, false] rfl rfl (by kernel_rfl) (fun _ _ _ h => h) (Or.inl ⟨by rfl, ?_⟩) ?_ ?_
              rotate_left
              · intro w'
                go_simp
                with_reducible rfl
              rotate_left
              · simp only [Act.put, List.setIfInBounds_toArray, List.set_cons_zero, List.set_cons_succ, i64_w, i32_w]
                rfl
              refine take_ (i := 5) (N := some 71) (v := ?_) (a' := ?_) #[true, true, true, true, true, true, true, true, true, true, false, false] rfl rfl (by kernel_rfl) (fun _ _ _ h => h) (Or.inl ⟨by rfl, ?_⟩) hHeld ?_ ?_
              rotate_left
              · rintro w' ⟨s0, s1, s2, s3⟩
                go_simp
                with_reducible rfl
              rotate_left
              · simp only [Act.put, List.setIfInBounds_toArray, List.set_cons_zero, List.set_cons_succ, i64_w, i32_w]
                rfl
              refine take_ (i := 10) (N := some 76) (v := ?_) (a' := ?_) #[true, true, true, true, true, true, true, true, true, true, true, false] rfl rfl (by kernel_rfl) (fun _ _ _ h => h) (Or.inl ⟨by rfl, ?_⟩) hHeld ?_ ?_
              rotate_left
              · rintro w' ⟨s0, s1, s2, s3⟩
                go_simp
                with_reducible rfl
              rotate_left
              · simp only [Act.put, List.setIfInBounds_toArray, List.set_cons_zero, List.set_cons_succ, i64_w, i32_w]
                rfl
              refine last_ (i := 11) (N := some 77) #[true, true, true, true, true, true, true, true, true, true, true, true] rfl rfl (by kernel_rfl) (by decide) (fun K hK => ?_)
              refine goes_ Try.func9 (by kernel_rfl) rfl #[ptr p, .slice Al x1.length cl, .agg #[.int .i64 x2, .int .i64 x3]] (by rfl) rfl rfl (by simp only [List.map_toArray, List.map_cons, List.map_nil]; rfl) ?_
              with_reducible refine (HAD.out).mono ?_
              rintro e w4 ⟨rfl, hA4, hB4⟩
              refine ⟨_, rfl, ?_⟩
              refine hK.out _ _ ?_
              clear hK K
              refine norm_ (a' := ?_) ?_ ?_
              rotate_left
              · show Act.put _ (some 77) _ = _
                simp only [Act.put, List.setIfInBounds_toArray, List.set_cons_zero, List.set_cons_succ, i64_w, i32_w]
                rfl
              refine done_ (by kernel_rfl) ?_

              have HA4 : Aside0 (Has W.heap.size w4 [storeT p (runV (l0.take (k + 1)))]) := ⟨by rw [HT2.out]; exact hA4⟩
              have HB4 : Aside0 (Below W.heap.size W w4) := ⟨HB.out.trans ((bl_drew (Below.refl W.heap.size wr)).trans hB4)⟩
              clear hA4 hB4 HAD HA HB q0 q1 q2 q3
              go_wp2_with fail
              go_roundw
              case rel => exact ⟨k + 1, by first | rfl | rw [ek], by omega, HA4, HB4⟩
              case measure => first | (simp [intOf]; omega) | (rw [ek]; simp [intOf]; omega)
          · obtain rfl : k = l0.length := by omega
            have d1 : decide ((l0.length : Int) < (l0.length : Int)) = false := decide_eq_false (by omega)
            generalize runV (l0.take l0.length) = V at HA
            have HAL := Aside0.mk (st_all HA.out)
            clear HA hlt
            go_wp2_with fail
            refine HAL.out.mono ?_
            rintro e w4 ⟨Aa, na, ca, rfl, hA4, hB4⟩
            have HB4 := Aside0.mk (HB.out.trans hB4)
            have HSE := Aside0.mk (st_sel hA4.swap (Am := A1) (cm := c1) (m := l1) a2 a3 (fun W' _ hb => Kd.C_below HM.out (HB4.out.trans hb)) HCC.out.2)
            clear hA4 hB4 HAL HB d1
            go_wp2_with fail
            refine HSE.out.mono ?_
            rintro e w5 ⟨As, ns, cs, rfl, hA5, hB5⟩
            have HB5 := Aside0.mk (HB4.out.trans hB5)
            obtain ⟨hrise, hmay, hv8, hfull⟩ := store_facts hA5.swap
            have hrise : Rise keyP (allV V) := hrise.sublist (all_sub V)
            have hmay : ∀ v ∈ allV V, Pure.mayB v.1 = true := fun v hv => hmay v ((all_sub V).subset hv)
            have hfull : ∀ v ∈ allV V, v.2.length ≤ 32 := fun v hv => hfull v ((all_sub V).subset hv)
            have hx8 : (allV V).length ≤ 8 := Nat.le_trans (all_sub V).length_le hv8
            rw [sel_all] at hA5
            generalize hX : allV V = X at hA5 hrise hmay hfull hx8
            have hlY := finds_len X (selG l1 a2 a3)
            obtain ⟨N, hN, hA5a⟩ := finds_open hA5.swap.tail.swap.swap
            clear hA5
            obtain ⟨M, hM, hA5b⟩ := finds_open (has_mid (As := rowF (.slice As ns cs) (N.map plF) :: tf N) (Bs := []) hA5a)
            clear hA5a
            rw [List.append_nil] at hA5b
            obtain ⟨TH, hTH⟩ : ∃ TH, rowF (.slice Aa na ca) (M.map plF) :: (tf M ++ (rowF (.slice As ns cs) (N.map plF) :: tf N)) = TH := ⟨_, rfl⟩
            rw [hTH] at hA5b
            have hra : rowF (.slice Aa na ca) (M.map plF) ∈ TH := by rw [← hTH]; simp
            have hta : ∀ T ∈ tf M, T ∈ TH := fun T hT => by rw [← hTH]; simp [hT]
            have hrs : rowF (.slice As ns cs) (N.map plF) ∈ TH := by rw [← hTH]; simp
            have hts : ∀ T ∈ tf N, T ∈ TH := fun T hT => by rw [← hTH]; simp [hT]
            have hna : na = X.length := by rw [← view_len hM]; exact (find_n hA5b hra).1
            have hns : ns = (findsV X (selG l1 a2 a3)).length := by rw [← view_len hN]; exact (find_n hA5b hrs).1
            subst hna
            subst hns
            have RA : Aside0 (∀ w, Has W.heap.size w TH → ∀ k (hk : k < X.length), ∃ ad, Aa = some ad ∧ ∃ (A1 : Option Addr) (n1 c1 : Nat) (A2 : Option Addr) (n2 c2 : Nat), FRead w ad k ⟨(A1, n1, c1), (A2, n2, c2), (X[k]).1, (X[k]).2⟩) := ⟨fun w hw k hk => reads_of hw hM hra hta hk⟩
            have RS : Aside0 (∀ w, Has W.heap.size w TH → ∀ k (hk : k < (findsV X (selG l1 a2 a3)).length), ∃ ad, As = some ad ∧ ∃ (A1 : Option Addr) (n1 c1 : Nat) (A2 : Option Addr) (n2 c2 : Nat), FRead w ad k ⟨(A1, n1, c1), (A2, n2, c2), ((findsV X (selG l1 a2 a3))[k]).1, ((findsV X (selG l1 a2 a3))[k]).2⟩) := ⟨fun w hw k hk => reads_of hw hN hrs hts hk⟩
            have HX : Aside0 (Rise keyP X ∧ (∀ v ∈ X, Pure.mayB v.1 = true) ∧ ∀ v ∈ X, v.2.length ≤ 32) := ⟨hrise, hmay, hfull⟩
            have HA5 := Aside0.mk hA5b
            obtain ⟨nY, hnY⟩ : ∃ nY, (findsV X (selG l1 a2 a3)).length = nY := ⟨_, rfl⟩
            have HNY := Aside0.mk hnY
            rw [hnY] at hlY ⊢
            clear hnY
            clear hA5b hra hta hrs hts hM hN hTH hrise hmay hfull hB5 hv8 hX HSE HB4
            go_wp2_with fail
            go_loopw [15, 14] (fun i kk wr => ∃ k : Nat, i = .int .i64 k ∧ kk = .int .i64 ((findsV (X.take k) (selG l1 a2 a3)).length : Nat) ∧ k ≤ X.length ∧ Aside0 (Has W.heap.size wr TH) ∧ Aside0 (Below W.heap.size W wr)) (fun i _ _ => X.length - (intOf i).toNat)
            case atStart => exact ⟨0, rfl, rfl, by omega, HA5, HB5⟩
            case round =>
              clear HA5 HB5
              obtain ⟨k, rfl, rfl, hk, HA, HB⟩ := hrel
              have hqk : (findsV (X.take k) (selG l1 a2 a3)).length ≤ k := Nat.le_trans (finds_len _ _) (by rw [List.length_take]; omega)
              by_cases hlt : k < X.length
              · have d1 : decide ((k : Int) < (X.length : Int)) = true := decide_eq_true (by omega)
                have d2 : decide (0 ≤ (k : Int)) = true := decide_eq_true (by omega)
                have ek : wrap64 ((k : Int) + 1) = ((k + 1 : Nat) : Int) := (w64 (x := (k : Int) + 1) (by omega) (by omega)).trans (by omega)
                obtain ⟨ad, rfl, A1q, n1q, c1q, A2q, n2q, c2q, hFR⟩ := RA.out wr HA.out k hlt
                have HFR := Aside0.mk hFR
                have HMY := Aside0.mk (HX.out.2.1 _ (List.getElem_mem hlt))
                have h32 := HX.out.2.2 _ (List.getElem_mem hlt)
                have HSK := Aside0.mk (fun hg => sel_skip X (selG l1 a2 a3) hlt hg)
                have HNX := Aside0.mk (fun hg => sel_next X (selG l1 a2 a3) hlt hg)
                clear hFR
                by_cases hk0 : 0 < k
                · have d3 : decide ((k : Int) > 0) = true := decide_eq_true (by omega)
                  have d3' : (0 : Int) < (k : Int) := by omega
                  obtain ⟨j, hj⟩ : ∃ j, k - 1 = j := ⟨_, rfl⟩
                  have hjk : j < k := by omega
                  have hjx : j < X.length := by omega
                  have e1 : wrap64 ((k : Int) - 1) = (j : Int) := (w64 (x := (k : Int) - 1) (by omega) (by omega)).trans (by omega)
                  have d4 : decide (0 ≤ (j : Int)) = true := decide_eq_true (by omega)
                  have d5 : decide ((j : Int) < (X.length : Int)) = true := decide_eq_true (by omega)
                  have d5' : (j : Int) < (X.length : Int) := by omega
                  obtain ⟨adj, eadj, A1j, n1j, c1j, A2j, n2j, c2j, hFJ⟩ := RA.out wr HA.out j hjx
                  obtain rfl : ad = adj := by injection eadj
                  have hless := rise_less HX.out.1 hjk hlt
                  have HLS : Aside0 (Op.bytesLess (textL (X[j]).1).toList (textL (X[k]).1).toList = true) := ⟨hless⟩
                  have HFJ := Aside0.mk hFJ
                  have f0 := HFJ.out.c0
                  have b0 := HFR.out.c0
                  have hdr : Below wr.heap.size wr wr.drew := bl_drew (Below.refl _ _)
                  have HP1 := Aside0.mk (print_c (HFJ.out.below hdr).C0 HFJ.out.le0 (HX.out.2.1 _ (List.getElem_mem hjx)))
                  have HP2 : Aside0 (∀ w6, Below wr.drew.heap.size wr.drew w6 → Calls Try.prog 23 #[.slice A1q (X[k]).1.length c1q] w6 fun e w' => e = .returned (.string (textL (X[k]).1)) ∧ Below w6.heap.size w6 w') := ⟨fun w6 hb => print_c (HFR.out.below (hdr.trans hb)).C0 HFR.out.le0 HMY.out⟩
                  have HFB : Aside0 (∀ w6, Below wr.drew.heap.size wr.drew w6 → w6.cell? (ad.add (j * 2)) = some (.slice A1j (X[j]).1.length c1j) ∧ w6.cell? (ad.add (k * 2)) = some (.slice A1q (X[k]).1.length c1q)) := ⟨fun w6 hb => ⟨(HFJ.out.below (hdr.trans hb)).c0, (HFR.out.below (hdr.trans hb)).c0⟩⟩
                  dsimp only at f0 b0 HP1
                  have hless := HLS.out
                  generalize textL (X[j]).1 = tj at HP1 hless
                  generalize htk : textL (X[k]).1 = tk at HP2 hless
                  have hge : ∀ w : World, (binOp .geq 9 (.string tj) (.string tk)).run Try.prog w = .ok (.bool false) w := fun w => by rw [Go.Proofs.Ytlhlaadnifkdhaa.Opn.str_geq, hless]; rfl
                  clear hFJ hdr eadj HLS hj htk
                  go_wp2_with fail
                  refine start_ (n := 18) (S := fun w' => w'.cell? (ad.add (j * 2)) = some (.slice A1j (X[j]).1.length c1j) ∧ w'.cell? (ad.add (k * 2)) = some (.slice A1q (X[k]).1.length c1q)) (ds := [15]) #[false, false, false, false, false, false, false, false, false, false, false, false, false, false, false, false, false, false] (by kernel_rfl) rfl rfl ⟨f0, b0⟩ (fun hHeld => ?_)
                  refine pure_ (i := 0) (N := some 91) (v := ?_) (a' := ?_) #[true, false, false, false, false, false, false, false, false, false, false, false, false, false, false, false, false, false] rfl rfl (by kernel_rfl) (fun _ _ _ h => h) (Or.inl ⟨by rfl, ?_⟩) ?_ ?_
                  rotate_left
                  · intro w'
                    go_simp
                    with_reducible rfl
                  rotate_left
                  · simp only [Act.put, List.setIfInBounds_toArray, List.set_cons_zero, List.set_cons_succ, i64_w, i32_w]
                    rfl
                  refine pure_ (i := 1) (N := some 92) (v := ?_) (a' := ?_) #[true, true, false, false, false, false, false, false, false, false, false, false, false, false, false, false, false, false] rfl rfl (by kernel_rfl) (fun _ _ _ h => h) (Or.inl ⟨by rfl, ?_⟩) ?_ ?_
                  rotate_left
                  · intro w'
                    go_simp
                    with_reducible rfl
                  rotate_left
                  · simp only [Act.put, List.setIfInBounds_toArray, List.set_cons_zero, List.set_cons_succ, i64_w, i32_w]
                    rfl
                  refine pure_ (i := 2) (N := some 93) (v := ?_) (a' := ?_) #[true, true, true, false, false, false, false, false, false, false, false, false, false, false, false, false, false, false] rfl rfl (by kernel_rfl) (fun _ _ _ h => h) (Or.inl ⟨by rfl, ?_⟩) ?_ ?_
                  rotate_left
                  · intro w'
                    go_simp
                    with_reducible rfl
                  rotate_left
                  · simp only [Act.put, List.setIfInBounds_toArray, List.set_cons_zero, List.set_cons_succ, i64_w, i32_w]
                    rfl
                  refine pure_ (i := 3) (N := some 94) (v := ?_) (a' := ?_) #[true, true, true, true, false, false, false, false, false, false, false, false, false, false, false, false, false, false] rfl rfl (by kernel_rfl) (fun _ _ _ h => h) (Or.inl ⟨by rfl, ?_⟩) ?_ ?_
                  rotate_left
                  · intro w'
                    go_simp
                    with_reducible rfl
                  rotate_left
                  · simp only [Act.put, List.setIfInBounds_toArray, List.set_cons_zero, List.set_cons_succ, i64_w, i32_w]
                    rfl
                  refine pure_ (i := 4) (N := some 95) (v := ?_) (a' := ?_) #[true, true, true, true, true, false, false, false, false, false, false, false, false, false, false, false, false, false] rfl rfl (by kernel_rfl) (fun _ _ _ h => h) (Or.inl ⟨by rfl, ?_⟩) ?_ ?_
                  rotate_left
                  · intro w'
                    go_simp
                    with_reducible rfl
                  rotate_left
                  · simp only [Act.put, List.setIfInBounds_toArray, List.set_cons_zero, List.set_cons_succ, i64_w, i32_w]
                    rfl
                  refine pure_ (i := 5) (N := some 96) (v := ?_) (a' := ?_) #[true, true, true, true, true, true, false, false, false, false, false, false, false, false, false, false, false, false] rfl rfl (by kernel_rfl) (fun _ _ _ h => h) (Or.inl ⟨by rfl, ?_⟩) ?_ ?_
                  rotate_left
                  · intro w'
                    go_simp
                    with_reducible rfl
                  rotate_left
                  · simp only [Act.put, List.setIfInBounds_toArray, List.set_cons_zero, List.set_cons_succ, i64_w, i32_w]
                    rfl
                  refine pure_ (i := 6) (N := some 97) (v := ?_) (a' := ?_) #[true, true, true, true, true, true, true, false, false, false, false, false, false, false, false, false, false, false] rfl rfl (by kernel_rfl) (fun _ _ _ h => h) (Or.inl ⟨by rfl, ?_⟩) ?_ ?_
                  rotate_left
                  · intro w'
                    go_simp
                    with_reducible rfl
                  rotate_left
                  · simp only [Act.put, List.setIfInBounds_toArray, List.set_cons_zero, List.set_cons_succ, i64_w, i32_w]
                    rfl
                  refine pure_ (i := 7) (N := some 98) (v := ?_) (a' := ?_) #[true, true, true, true, true, true, true, true, false, false, false, false, false, false, false, false, false, false] rfl rfl (by kernel_rfl) (fun _ _ _ h => h) (Or.inl ⟨by rfl, ?_⟩) ?_ ?_
                  rotate_left
                  · intro w'
                    go_simp
                    with_reducible rfl
                  rotate_left
                  · simp only [Act.put, List.setIfInBounds_toArray, List.set_cons_zero, List.set_cons_succ, i64_w, i32_w]
                    rfl
                  refine pure_ (i := 10) (N := some 101) (v := ?_) (a' := ?_) #[true, true, true, true, true, true, true, true, false, false, true, false, false, false, false, false, false, false] rfl rfl (by kernel_rfl) (fun _ _ _ h => h) (Or.inl ⟨by rfl, ?_⟩) ?_ ?_
                  rotate_left
                  · intro w'
                    go_simp
                    with_reducible rfl
                  rotate_left
                  · simp only [Act.put, List.setIfInBounds_toArray, List.set_cons_zero, List.set_cons_succ, i64_w, i32_w]
                    rfl
                  refine pure_ (i := 11) (N := some 102) (v := ?_) (a' := ?_) #[true, true, true, true, true, true, true, true, false, false, true, true, false, false, false, false, false, false] rfl rfl (by kernel_rfl) (fun _ _ _ h => h) (Or.inl ⟨by rfl, ?_⟩) ?_ ?_
                  rotate_left
                  · intro w'
                    go_simp
                    with_reducible rfl
                  rotate_left
                  · simp only [Act.put, List.setIfInBounds_toArray, List.set_cons_zero, List.set_cons_succ, i64_w, i32_w]
                    rfl
                  refine pure_ (i := 12) (N := some 103) (v := ?_) (a' := ?_) #[true, true, true, true, true, true, true, true, false, false, true, true, true, false, false, false, false, false] rfl rfl (by kernel_rfl) (fun _ _ _ h => h) (Or.inl ⟨by rfl, ?_⟩) ?_ ?_
                  rotate_left
                  · intro w'
                    go_simp
                    with_reducible rfl
                  rotate_left
                  · simp only [Act.put, List.setIfInBounds_toArray, List.set_cons_zero, List.set_cons_succ, i64_w, i32_w]
                    rfl
                  refine pure_ (i := 13) (N := some 104) (v := ?_) (a' := ?_) #[true, true, true, true, true, true, true, true, false, false, true, true, true, true, false, false, false, false] rfl rfl (by kernel_rfl) (fun _ _ _ h => h) (Or.inl ⟨by rfl, ?_⟩) ?_ ?_
                  rotate_left
                  · intro w'
                    go_simp
                    with_reducible rfl
                  rotate_left
                  · simp only [Act.put, List.setIfInBounds_toArray, List.set_cons_zero, List.set_cons_succ, i64_w, i32_w]
                    rfl
                  refine take_ (i := 8) (N := some 99) (v := ?_) (a' := ?_) #[true, true, true, true, true, true, true, true, true, false, true, true, true, true, false, false, false, false] rfl rfl (by kernel_rfl) (fun _ _ _ h => h) (Or.inl ⟨by rfl, ?_⟩) hHeld ?_ ?_
                  rotate_left
                  · rintro w' ⟨s0, s1⟩
                    go_simp
                    with_reducible rfl
                  rotate_left
                  · simp only [Act.put, List.setIfInBounds_toArray, List.set_cons_zero, List.set_cons_succ, i64_w, i32_w]
                    rfl
                  refine take_ (i := 14) (N := some 105) (v := ?_) (a' := ?_) #[true, true, true, true, true, true, true, true, true, false, true, true, true, true, true, false, false, false] rfl rfl (by kernel_rfl) (fun _ _ _ h => h) (Or.inl ⟨by rfl, ?_⟩) hHeld ?_ ?_
                  rotate_left
                  · rintro w' ⟨s0, s1⟩
                    go_simp
                    with_reducible rfl
                  rotate_left
                  · simp only [Act.put, List.setIfInBounds_toArray, List.set_cons_zero, List.set_cons_succ, i64_w, i32_w]
                    rfl
                  refine one_ (i := 9) (N := some 100) #[true, true, true, true, true, true, true, true, true, true, true, true, true, true, true, false, false, false] rfl rfl (by kernel_rfl) (by decide) (fun K hK => ?_)
                  refine goes_ Try.func23 (by kernel_rfl) rfl #[.slice A1j (X[j]).1.length c1j] (by rfl) rfl rfl (by simp only [List.map_toArray, List.map_cons, List.map_nil]; rfl) ?_
                  with_reducible refine (HP1.out).mono ?_
                  rintro e w5 ⟨rfl, hb5⟩
                  refine ⟨_, rfl, ?_⟩
                  obtain ⟨s0, s1⟩ := HFB.out w5 hb5
                  have HP5 := Aside0.mk (HP2.out w5 hb5)
                  have HB5 := Aside0.mk hb5
                  clear hb5
                  refine hK.out _ _ ⟨s0, s1⟩ (fun hHeld => ?_)
                  clear hK K
                  refine norm_ (a' := ?_) ?_ ?_
                  rotate_left
                  · show Act.put _ (some 100) _ = _
                    simp only [Act.put, List.setIfInBounds_toArray, List.set_cons_zero, List.set_cons_succ, i64_w, i32_w]
                    rfl
                  refine last_ (i := 15) (N := some 106) #[true, true, true, true, true, true, true, true, true, true, true, true, true, true, true, true, false, false] rfl rfl (by kernel_rfl) (by decide) (fun K hK => ?_)
                  refine goes_ Try.func23 (by kernel_rfl) rfl #[.slice A1q (X[k]).1.length c1q] (by rfl) rfl rfl (by simp only [List.map_toArray, List.map_cons, List.map_nil]; rfl) ?_
                  with_reducible refine (HP5.out).mono ?_
                  rintro e w6 ⟨rfl, hb6⟩
                  refine ⟨_, rfl, ?_⟩
                  have HB6 := Aside0.mk hb6
                  clear hb6
                  refine hK.out _ _ ?_
                  clear hK K
                  refine norm_ (a' := ?_) ?_ ?_
                  rotate_left
                  · show Act.put _ (some 106) _ = _
                    simp only [Act.put, List.setIfInBounds_toArray, List.set_cons_zero, List.set_cons_succ, i64_w, i32_w]
                    rfl
                  refine pure_ (i := 16) (N := some 107) (v := ?_) (a' := ?_) #[true, true, true, true, true, true, true, true, true, true, true, true, true, true, true, true, true, false] rfl rfl (by kernel_rfl) (fun _ _ _ h => h) (Or.inl ⟨by rfl, ?_⟩) ?_ ?_
                  rotate_left
                  · intro w'
                    go_simp
                    with_reducible rfl
                  rotate_left
                  · simp only [Act.put, List.setIfInBounds_toArray, List.set_cons_zero, List.set_cons_succ, i64_w, i32_w]
                    rfl
                  refine pure_ (i := 17) (N := some 108) (v := ?_) (a' := ?_) #[true, true, true, true, true, true, true, true, true, true, true, true, true, true, true, true, true, true] rfl rfl (by kernel_rfl) (fun _ _ _ h => h) (Or.inl ⟨by rfl, ?_⟩) ?_ ?_
                  rotate_left
                  · intro w'
                    go_simp
                    with_reducible rfl
                  rotate_left
                  · simp only [Act.put, List.setIfInBounds_toArray, List.set_cons_zero, List.set_cons_succ, i64_w, i32_w]
                    rfl
                  refine done_ (by kernel_rfl) ?_

                  have hbx : Below wr.heap.size wr w6 := (bl_drew (Below.refl _ _)).trans (HB5.out.trans (HB6.out.mono HB5.out.size))
                  have HF6 := Aside0.mk (HFR.out.below hbx)
                  have HA6 := Aside0.mk (HA.out.below hbx)
                  have HB6 := Aside0.mk (HB.out.trans (hbx.mono HA.out.size))
                  clear hbx HB5 HP1 HP2 HP5 HFB HFJ HFR HA HB f0 b0 hless hge e1 d4 d5 d5'
                  have b1 := HF6.out.c1
                  have HWI := Aside0.mk (window_c HF6.out.C1 HF6.out.le1 (by show (X[k]).2.length ≤ 1000000; omega) a2 a3)
                  dsimp only at b1 HWI
                  obtain ⟨ys, hys⟩ : ∃ ys, winL (X[k]).2 a2 a3 = ys := ⟨_, rfl⟩
                  have HYS := Aside0.mk hys
                  rw [hys] at HWI
                  clear hys
                  go_wp2_with fail
                  refine HWI.out.mono ?_
                  intro e w7 hrp
                  obtain ⟨Aw, cw, rfl, hA7, hB7⟩ := hrp.has HA6.out
                  have HF7 := Aside0.mk (HF6.out.below (by obtain ⟨_, _, _, hb⟩ := hrp; exact hb))
                  have HB7 := Aside0.mk (HB6.out.trans hB7)
                  have HA7 := Aside0.mk hA7
                  have b0 := HF7.out.c0
                  have HDO := Aside0.mk (match_Does.calls A1 c1 l1 A1q c1q (X[k]).1 (doesL l1 (X[k]).1) w7 (Kd.C_below HM.out HB7.out) HCC.out.2 HF7.out.C0 HF7.out.le0 rfl)
                  dsimp only at b0
                  clear hrp hA7 hB7 HWI b1 HA6 HB6 HF6
                  cases hd : doesL l1 (X[k]).1 with
                  | false =>
                    rw [hd] at HDO
                    have HS2 : Aside0 (findsV (X.take (k + 1)) (selG l1 a2 a3) = findsV (X.take k) (selG l1 a2 a3)) := ⟨HSK.out (by unfold selG; rw [hd]; rfl)⟩
                    clear hd
                    go_wp2_with fail
                    refine HDO.out.mono ?_
                    rintro e w8 ⟨rfl, hb8⟩
                    have HA8 := Aside0.mk ((HA7.out.below hb8).tail)
                    have HB8 := Aside0.mk (HB7.out.trans (hb8.mono HA7.out.size))
                    clear hb8 HDO b0 HA7 HB7 HF7
                    go_wp2_with fail
                    go_roundw
                    case rel => exact ⟨k + 1, by first | rfl | rw [ek], by rw [HS2.out], by omega, HA8, HB8⟩
                    case measure => first | (simp [intOf]; omega) | (rw [ek]; simp [intOf]; omega)
                  | true =>
                    rw [hd] at HDO
                    go_wp2_with fail
                    refine HDO.out.mono ?_
                    rintro e w8 ⟨rfl, hb8⟩
                    have HA8 := Aside0.mk (HA7.out.below hb8)
                    have HB8 := Aside0.mk (HB7.out.trans (hb8.mono HA7.out.size))
                    have HF8 := Aside0.mk (HF7.out.below hb8)
                    clear hb8 HDO b0 HA7 HB7 HF7
                    by_cases hz : ys = []
                    · have HS2 : Aside0 (findsV (X.take (k + 1)) (selG l1 a2 a3) = findsV (X.take k) (selG l1 a2 a3)) := ⟨HSK.out (by unfold selG; rw [hd, if_pos rfl, HYS.out, hz])⟩
                      subst hz
                      have HA9 := Aside0.mk HA8.out.tail
                      clear hd HF8 HA8
                      go_wp2_with fail
                      go_roundw
                      case rel => exact ⟨k + 1, by first | rfl | rw [ek], by rw [HS2.out], by omega, HA9, HB8⟩
                      case measure => first | (simp [intOf]; omega) | (rw [ek]; simp [intOf]; omega)
                    · have hp : ys.length ≠ 0 := fun q => hz (List.eq_nil_of_length_eq_zero q)
                      have d5 : ((ys.length : Int) == 0) = false := beq_eq_false_iff_ne.2 (by omega)
                      have d5' : ¬ (ys.length : Int) = 0 := by omega
                      have hgv : selG l1 a2 a3 X[k] = ys := by unfold selG; rw [hd, if_pos rfl, HYS.out]
                      obtain ⟨hq1, hq2, hq3⟩ := HNX.out (by rw [hgv]; exact hz)
                      rw [hgv] at hq2
                      have HQ3 := Aside0.mk hq3
                      obtain ⟨ad2, rfl, A1r, n1r, c1r, A2r, n2r, c2r, hFN⟩ := RS.out w8 HA8.out.tail _ hq1
                      rw [hq2] at hFN
                      rw [HNY.out] at hq1
                      clear hq2 hq3 hgv hd hz hp
                      obtain ⟨q, hq⟩ : ∃ q, (findsV (X.take k) (selG l1 a2 a3)).length = q := ⟨_, rfl⟩
                      rw [hq] at hFN hq1 hqk HQ3 ⊢
                      have HQ := Aside0.mk hq
                      clear hq
                      have d6 : decide ((q : Int) ≥ (nY : Int)) = false := decide_eq_false (by omega)
                      have d6' : ¬ (nY : Int) ≤ (q : Int) := by omega
                      have d6n : decide (nY ≤ q) = false := decide_eq_false (by omega)
                      have d6p : ¬ nY ≤ q := by omega
                      have d7 : decide (0 ≤ (q : Int)) = true := decide_eq_true (by omega)
                      have d8 : decide ((q : Int) < (nY : Int)) = true := decide_eq_true (by omega)
                      have d8' : (q : Int) < (nY : Int) := by omega
                      have d1' : (k : Int) < (X.length : Int) := by omega
                      have eq : wrap64 ((q : Int) + 1) = ((q + 1 : Nat) : Int) := (w64 (x := (q : Int) + 1) (by omega) (by omega)).trans (by omega)
                      have HFN := Aside0.mk hFN
                      have g0 := HFN.out.c0
                      have g1 := HFN.out.c1
                      have b0 := HF8.out.c0
                      have hdr : Below w8.heap.size w8 w8.drew := bl_drew (Below.refl _ _)
                      have HSL := Aside0.mk (samel_c (HFN.out.below hdr).C0 HFN.out.le0 (HF8.out.below hdr).C0 HF8.out.le0)
                      rw [show sameLs (⟨(A1r, n1r, c1r), (A2r, n2r, c2r), (X[k]).1, ys⟩ : FE).ls (⟨(A1q, n1q, c1q), (A2q, n2q, c2q), (X[k]).1, (X[k]).2⟩ : FE).ls = true from sameLs_iff.2 rfl] at HSL
                      have HSS : Aside0 (∀ w9, Below w8.drew.heap.size w8.drew w9 → Calls Try.prog 22 #[.slice A2r ys.length c2r, .slice Aw ys.length cw] w9 fun e w' => e = .returned (.bool true) ∧ Below w9.heap.size w9 w') := ⟨fun w9 hb9 => by
                        have hb89 : Below w8.heap.size w8 w9 := hdr.trans hb9
                        obtain ⟨_, hcw, hCw⟩ := row_reads (HA8.out.below hb89) (d := kS) (e := 26) (A := Aw) (n := ys.length) (c := cw) (xs := ys) (List.mem_cons_self ..)
                        have hss := sames_c (HFN.out.below hb89).C1 HFN.out.le1 hCw hcw
                        rw [show sameSs ys ys = true from sameSs_iff.2 rfl] at hss
                        exact hss⟩
                      dsimp only at g0 g1 b0 HSL
                      have HFB : Aside0 (∀ w9, Below w8.drew.heap.size w8.drew w9 → w9.cell? (ad2.add (q * 2)) = some (.slice A1r (X[k]).1.length c1r) ∧ w9.cell? ⟨(ad2.add (q * 2)).block, (ad2.add (q * 2)).off + 1, none⟩ = some (.slice A2r ys.length c2r) ∧ w9.cell? (ad.add (k * 2)) = some (.slice A1q (X[k]).1.length c1q)) := ⟨fun w9 hb9 => ⟨(HFN.out.below (hdr.trans hb9)).c0, (HFN.out.below (hdr.trans hb9)).c1, (HF8.out.below (hdr.trans hb9)).c0⟩⟩
                      clear hFN hdr
                      go_wp2_with fail
                      refine start_ (n := 28) (S := fun w' => w'.cell? (ad2.add (q * 2)) = some (.slice A1r (X[k]).1.length c1r) ∧ w'.cell? ⟨(ad2.add (q * 2)).block, (ad2.add (q * 2)).off + 1, none⟩ = some (.slice A2r ys.length c2r) ∧ w'.cell? (ad.add (k * 2)) = some (.slice A1q (X[k]).1.length c1q)) (ds := [25]) #[false, false, false, false, false, false, false, false, false, false, false, false, false, false, false, false, false, false, false, false, false, false, false, false, false, false, false, false] (by kernel_rfl) rfl rfl ⟨g0, g1, b0⟩ (fun hHeld => ?_)
                      refine pure_ (i := 0) (N := some 130) (v := ?_) (a' := ?_) #[true, false, false, false, false, false, false, false, false, false, false, false, false, false, false, false, false, false, false, false, false, false, false, false, false, false, false, false] rfl rfl (by kernel_rfl) (fun _ _ _ h => h) (Or.inl ⟨by rfl, ?_⟩) ?_ ?_
                      rotate_left
                      · intro w'
                        go_simp
                        with_reducible rfl
                      rotate_left
                      · simp only [Act.put, List.setIfInBounds_toArray, List.set_cons_zero, List.set_cons_succ, i64_w, i32_w]
                        rfl
                      refine pure_ (i := 1) (N := some 131) (v := ?_) (a' := ?_) #[true, true, false, false, false, false, false, false, false, false, false, false, false, false, false, false, false, false, false, false, false, false, false, false, false, false, false, false] rfl rfl (by kernel_rfl) (fun _ _ _ h => h) (Or.inl ⟨by rfl, ?_⟩) ?_ ?_
                      rotate_left
                      · intro w'
                        go_simp
                        with_reducible rfl
                      rotate_left
                      · simp only [Act.put, List.setIfInBounds_toArray, List.set_cons_zero, List.set_cons_succ, i64_w, i32_w]
                        rfl
                      refine pure_ (i := 2) (N := some 132) (v := ?_) (a' := ?_) #[true, true, true, false, false, false, false, false, false, false, false, false, false, false, false, false, false, false, false, false, false, false, false, false, false, false, false, false] rfl rfl (by kernel_rfl) (fun _ _ _ h => h) (Or.inl ⟨by rfl, ?_⟩) ?_ ?_
                      rotate_left
                      · intro w'
                        go_simp
                        with_reducible rfl
                      rotate_left
                      · simp only [Act.put, List.setIfInBounds_toArray, List.set_cons_zero, List.set_cons_succ, i64_w, i32_w]
                        rfl
                      refine pure_ (i := 3) (N := some 133) (v := ?_) (a' := ?_) #[true, true, true, true, false, false, false, false, false, false, false, false, false, false, false, false, false, false, false, false, false, false, false, false, false, false, false, false] rfl rfl (by kernel_rfl) (fun _ _ _ h => h) (Or.inl ⟨by rfl, ?_⟩) ?_ ?_
                      rotate_left
                      · intro w'
                        go_simp
                        with_reducible rfl
                      rotate_left
                      · simp only [Act.put, List.setIfInBounds_toArray, List.set_cons_zero, List.set_cons_succ, i64_w, i32_w]
                        rfl
                      refine pure_ (i := 4) (N := some 134) (v := ?_) (a' := ?_) #[true, true, true, true, true, false, false, false, false, false, false, false, false, false, false, false, false, false, false, false, false, false, false, false, false, false, false, false] rfl rfl (by kernel_rfl) (fun _ _ _ h => h) (Or.inl ⟨by rfl, ?_⟩) ?_ ?_
                      rotate_left
                      · intro w'
                        go_simp
                        with_reducible rfl
                      rotate_left
                      · simp only [Act.put, List.setIfInBounds_toArray, List.set_cons_zero, List.set_cons_succ, i64_w, i32_w]
                        rfl
                      refine pure_ (i := 5) (N := some 135) (v := ?_) (a' := ?_) #[true, true, true, true, true, true, false, false, false, false, false, false, false, false, false, false, false, false, false, false, false, false, false, false, false, false, false, false] rfl rfl (by kernel_rfl) (fun _ _ _ h => h) (Or.inl ⟨by rfl, ?_⟩) ?_ ?_
                      rotate_left
                      · intro w'
                        go_simp
                        with_reducible rfl
                      rotate_left
                      · simp only [Act.put, List.setIfInBounds_toArray, List.set_cons_zero, List.set_cons_succ, i64_w, i32_w]
                        rfl
                      refine pure_ (i := 6) (N := some 136) (v := ?_) (a' := ?_) #[true, true, true, true, true, true, true, false, false, false, false, false, false, false, false, false, false, false, false, false, false, false, false, false, false, false, false, false] rfl rfl (by kernel_rfl) (fun _ _ _ h => h) (Or.inl ⟨by rfl, ?_⟩) ?_ ?_
                      rotate_left
                      · intro w'
                        go_simp
                        with_reducible rfl
                      rotate_left
                      · simp only [Act.put, List.setIfInBounds_toArray, List.set_cons_zero, List.set_cons_succ, i64_w, i32_w]
                        rfl
                      refine pure_ (i := 7) (N := some 137) (v := ?_) (a' := ?_) #[true, true, true, true, true, true, true, true, false, false, false, false, false, false, false, false, false, false, false, false, false, false, false, false, false, false, false, false] rfl rfl (by kernel_rfl) (fun _ _ _ h => h) (Or.inl ⟨by rfl, ?_⟩) ?_ ?_
                      rotate_left
                      · intro w'
                        go_simp
                        with_reducible rfl
                      rotate_left
                      · simp only [Act.put, List.setIfInBounds_toArray, List.set_cons_zero, List.set_cons_succ, i64_w, i32_w]
                        rfl
                      refine pure_ (i := 8) (N := some 138) (v := ?_) (a' := ?_) #[true, true, true, true, true, true, true, true, true, false, false, false, false, false, false, false, false, false, false, false, false, false, false, false, false, false, false, false] rfl rfl (by kernel_rfl) (fun _ _ _ h => h) (Or.inl ⟨by rfl, ?_⟩) ?_ ?_
                      rotate_left
                      · intro w'
                        go_simp
                        with_reducible rfl
                      rotate_left
                      · simp only [Act.put, List.setIfInBounds_toArray, List.set_cons_zero, List.set_cons_succ, i64_w, i32_w]
                        rfl
                      refine pure_ (i := 10) (N := some 140) (v := ?_) (a' := ?_) #[true, true, true, true, true, true, true, true, true, false, true, false, false, false, false, false, false, false, false, false, false, false, false, false, false, false, false, false] rfl rfl (by kernel_rfl) (fun _ _ _ h => h) (Or.inl ⟨by rfl, ?_⟩) ?_ ?_
                      rotate_left
                      · intro w'
                        go_simp
                        with_reducible rfl
                      rotate_left
                      · simp only [Act.put, List.setIfInBounds_toArray, List.set_cons_zero, List.set_cons_succ, i64_w, i32_w]
                        rfl
                      refine pure_ (i := 11) (N := some 141) (v := ?_) (a' := ?_) #[true, true, true, true, true, true, true, true, true, false, true, true, false, false, false, false, false, false, false, false, false, false, false, false, false, false, false, false] rfl rfl (by kernel_rfl) (fun _ _ _ h => h) (Or.inl ⟨by rfl, ?_⟩) ?_ ?_
                      rotate_left
                      · intro w'
                        go_simp
                        with_reducible rfl
                      rotate_left
                      · simp only [Act.put, List.setIfInBounds_toArray, List.set_cons_zero, List.set_cons_succ, i64_w, i32_w]
                        rfl
                      refine pure_ (i := 12) (N := some 142) (v := ?_) (a' := ?_) #[true, true, true, true, true, true, true, true, true, false, true, true, true, false, false, false, false, false, false, false, false, false, false, false, false, false, false, false] rfl rfl (by kernel_rfl) (fun _ _ _ h => h) (Or.inl ⟨by rfl, ?_⟩) ?_ ?_
                      rotate_left
                      · intro w'
                        go_simp
                        with_reducible rfl
                      rotate_left
                      · simp only [Act.put, List.setIfInBounds_toArray, List.set_cons_zero, List.set_cons_succ, i64_w, i32_w]
                        rfl
                      refine pure_ (i := 13) (N := some 143) (v := ?_) (a' := ?_) #[true, true, true, true, true, true, true, true, true, false, true, true, true, true, false, false, false, false, false, false, false, false, false, false, false, false, false, false] rfl rfl (by kernel_rfl) (fun _ _ _ h => h) (Or.inl ⟨by rfl, ?_⟩) ?_ ?_
                      rotate_left
                      · intro w'
                        go_simp
                        with_reducible rfl
                      rotate_left
                      · simp only [Act.put, List.setIfInBounds_toArray, List.set_cons_zero, List.set_cons_succ, i64_w, i32_w]
                        rfl
                      refine take_ (i := 9) (N := some 139) (v := ?_) (a' := ?_) #[true, true, true, true, true, true, true, true, true, true, true, true, true, true, false, false, false, false, false, false, false, false, false, false, false, false, false, false] rfl rfl (by kernel_rfl) (fun _ _ _ h => h) (Or.inl ⟨by rfl, ?_⟩) hHeld ?_ ?_
                      rotate_left
                      · rintro w' ⟨s0, s1, s2⟩
                        go_simp
                        with_reducible rfl
                      rotate_left
                      · simp only [Act.put, List.setIfInBounds_toArray, List.set_cons_zero, List.set_cons_succ, i64_w, i32_w]
                        rfl
                      refine take_ (i := 14) (N := some 144) (v := ?_) (a' := ?_) #[true, true, true, true, true, true, true, true, true, true, true, true, true, true, true, false, false, false, false, false, false, false, false, false, false, false, false, false] rfl rfl (by kernel_rfl) (fun _ _ _ h => h) (Or.inl ⟨by rfl, ?_⟩) hHeld ?_ ?_
                      rotate_left
                      · rintro w' ⟨s0, s1, s2⟩
                        go_simp
                        with_reducible rfl
                      rotate_left
                      · simp only [Act.put, List.setIfInBounds_toArray, List.set_cons_zero, List.set_cons_succ, i64_w, i32_w]
                        rfl
                      refine one_ (i := 15) (N := some 145) #[true, true, true, true, true, true, true, true, true, true, true, true, true, true, true, true, false, false, false, false, false, false, false, false, false, false, false, false] rfl rfl (by kernel_rfl) (by decide) (fun K hK => ?_)
                      refine goes_ Try.func21 (by kernel_rfl) rfl #[.slice A1r (X[k]).1.length c1r, .slice A1q (X[k]).1.length c1q] (by rfl) rfl rfl (by simp only [List.map_toArray, List.map_cons, List.map_nil]; rfl) ?_
                      with_reducible refine (HSL.out).mono ?_
                      rintro e w9 ⟨rfl, hb9⟩
                      refine ⟨_, rfl, ?_⟩
                      obtain ⟨s0, s1, s2⟩ := HFB.out w9 hb9
                      have HS9 := Aside0.mk (HSS.out w9 hb9)
                      have HB9 := Aside0.mk hb9
                      clear hb9
                      refine hK.out _ _ ⟨s0, s1, s2⟩ (fun hHeld => ?_)
                      clear hK K
                      refine norm_ (a' := ?_) ?_ ?_
                      rotate_left
                      · show Act.put _ (some 145) _ = _
                        simp only [Act.put, List.setIfInBounds_toArray, List.set_cons_zero, List.set_cons_succ, i64_w, i32_w]
                        rfl
                      refine pure_ (i := 16) (N := some 146) (v := ?_) (a' := ?_) #[true, true, true, true, true, true, true, true, true, true, true, true, true, true, true, true, true, false, false, false, false, false, false, false, false, false, false, false] rfl rfl (by kernel_rfl) (fun _ _ _ h => h) (Or.inl ⟨by rfl, ?_⟩) ?_ ?_
                      rotate_left
                      · intro w'
                        go_simp
                        with_reducible rfl
                      rotate_left
                      · simp only [Act.put, List.setIfInBounds_toArray, List.set_cons_zero, List.set_cons_succ, i64_w, i32_w]
                        rfl
                      refine pure_ (i := 17) (N := some 147) (v := ?_) (a' := ?_) #[true, true, true, true, true, true, true, true, true, true, true, true, true, true, true, true, true, true, false, false, false, false, false, false, false, false, false, false] rfl rfl (by kernel_rfl) (fun _ _ _ h => h) (Or.inl ⟨by rfl, ?_⟩) ?_ ?_
                      rotate_left
                      · intro w'
                        go_simp
                        with_reducible rfl
                      rotate_left
                      · simp only [Act.put, List.setIfInBounds_toArray, List.set_cons_zero, List.set_cons_succ, i64_w, i32_w]
                        rfl
                      refine pure_ (i := 18) (N := some 148) (v := ?_) (a' := ?_) #[true, true, true, true, true, true, true, true, true, true, true, true, true, true, true, true, true, true, true, false, false, false, false, false, false, false, false, false] rfl rfl (by kernel_rfl) (fun _ _ _ h => h) (Or.inl ⟨by rfl, ?_⟩) ?_ ?_
                      rotate_left
                      · intro w'
                        go_simp
                        with_reducible rfl
                      rotate_left
                      · simp only [Act.put, List.setIfInBounds_toArray, List.set_cons_zero, List.set_cons_succ, i64_w, i32_w]
                        rfl
                      refine pure_ (i := 19) (N := some 149) (v := ?_) (a' := ?_) #[true, true, true, true, true, true, true, true, true, true, true, true, true, true, true, true, true, true, true, true, false, false, false, false, false, false, false, false] rfl rfl (by kernel_rfl) (fun _ _ _ h => h) (Or.inl ⟨by rfl, ?_⟩) ?_ ?_
                      rotate_left
                      · intro w'
                        go_simp
                        with_reducible rfl
                      rotate_left
                      · simp only [Act.put, List.setIfInBounds_toArray, List.set_cons_zero, List.set_cons_succ, i64_w, i32_w]
                        rfl
                      refine pure_ (i := 20) (N := some 150) (v := ?_) (a' := ?_) #[true, true, true, true, true, true, true, true, true, true, true, true, true, true, true, true, true, true, true, true, true, false, false, false, false, false, false, false] rfl rfl (by kernel_rfl) (fun _ _ _ h => h) (Or.inl ⟨by rfl, ?_⟩) ?_ ?_
                      rotate_left
                      · intro w'
                        go_simp
                        with_reducible rfl
                      rotate_left
                      · simp only [Act.put, List.setIfInBounds_toArray, List.set_cons_zero, List.set_cons_succ, i64_w, i32_w]
                        rfl
                      refine pure_ (i := 21) (N := some 151) (v := ?_) (a' := ?_) #[true, true, true, true, true, true, true, true, true, true, true, true, true, true, true, true, true, true, true, true, true, true, false, false, false, false, false, false] rfl rfl (by kernel_rfl) (fun _ _ _ h => h) (Or.inl ⟨by rfl, ?_⟩) ?_ ?_
                      rotate_left
                      · intro w'
                        go_simp
                        with_reducible rfl
                      rotate_left
                      · simp only [Act.put, List.setIfInBounds_toArray, List.set_cons_zero, List.set_cons_succ, i64_w, i32_w]
                        rfl
                      refine pure_ (i := 22) (N := some 152) (v := ?_) (a' := ?_) #[true, true, true, true, true, true, true, true, true, true, true, true, true, true, true, true, true, true, true, true, true, true, true, false, false, false, false, false] rfl rfl (by kernel_rfl) (fun _ _ _ h => h) (Or.inl ⟨by rfl, ?_⟩) ?_ ?_
                      rotate_left
                      · intro w'
                        go_simp
                        with_reducible rfl
                      rotate_left
                      · simp only [Act.put, List.setIfInBounds_toArray, List.set_cons_zero, List.set_cons_succ, i64_w, i32_w]
                        rfl
                      refine pure_ (i := 24) (N := some 154) (v := ?_) (a' := ?_) #[true, true, true, true, true, true, true, true, true, true, true, true, true, true, true, true, true, true, true, true, true, true, true, false, true, false, false, false] rfl rfl (by kernel_rfl) (fun _ _ _ h => h) (Or.inl ⟨by rfl, ?_⟩) ?_ ?_
                      rotate_left
                      · intro w'
                        go_simp
                        with_reducible rfl
                      rotate_left
                      · simp only [Act.put, List.setIfInBounds_toArray, List.set_cons_zero, List.set_cons_succ, i64_w, i32_w]
                        rfl
                      refine take_ (i := 23) (N := some 153) (v := ?_) (a' := ?_) #[true, true, true, true, true, true, true, true, true, true, true, true, true, true, true, true, true, true, true, true, true, true, true, true, true, false, false, false] rfl rfl (by kernel_rfl) (fun _ _ _ h => h) (Or.inl ⟨by rfl, ?_⟩) hHeld ?_ ?_
                      rotate_left
                      · rintro w' ⟨s0, s1, s2⟩
                        go_simp
                        with_reducible rfl
                      rotate_left
                      · simp only [Act.put, List.setIfInBounds_toArray, List.set_cons_zero, List.set_cons_succ, i64_w, i32_w]
                        rfl
                      refine last_ (i := 25) (N := some 155) #[true, true, true, true, true, true, true, true, true, true, true, true, true, true, true, true, true, true, true, true, true, true, true, true, true, true, false, false] rfl rfl (by kernel_rfl) (by decide) (fun K hK => ?_)
                      refine goes_ Try.func22 (by kernel_rfl) rfl #[.slice A2r ys.length c2r, .slice Aw ys.length cw] (by rfl) rfl rfl (by simp only [List.map_toArray, List.map_cons, List.map_nil]; rfl) ?_
                      with_reducible refine (HS9.out).mono ?_
                      rintro e w10 ⟨rfl, hb10⟩
                      refine ⟨_, rfl, ?_⟩
                      have HB10 := Aside0.mk hb10
                      clear hb10
                      refine hK.out _ _ ?_
                      clear hK K
                      refine norm_ (a' := ?_) ?_ ?_
                      rotate_left
                      · show Act.put _ (some 155) _ = _
                        simp only [Act.put, List.setIfInBounds_toArray, List.set_cons_zero, List.set_cons_succ, i64_w, i32_w]
                        rfl
                      refine pure_ (i := 26) (N := some 156) (v := ?_) (a' := ?_) #[true, true, true, true, true, true, true, true, true, true, true, true, true, true, true, true, true, true, true, true, true, true, true, true, true, true, true, false] rfl rfl (by kernel_rfl) (fun _ _ _ h => h) (Or.inl ⟨by rfl, ?_⟩) ?_ ?_
                      rotate_left
                      · intro w'
                        go_simp
                        with_reducible rfl
                      rotate_left
                      · simp only [Act.put, List.setIfInBounds_toArray, List.set_cons_zero, List.set_cons_succ, i64_w, i32_w]
                        rfl
                      refine pure_ (i := 27) (N := some 157) (v := ?_) (a' := ?_) #[true, true, true, true, true, true, true, true, true, true, true, true, true, true, true, true, true, true, true, true, true, true, true, true, true, true, true, true] rfl rfl (by kernel_rfl) (fun _ _ _ h => h) (Or.inl ⟨by rfl, ?_⟩) ?_ ?_
                      rotate_left
                      · intro w'
                        go_simp
                        with_reducible rfl
                      rotate_left
                      · simp only [Act.put, List.setIfInBounds_toArray, List.set_cons_zero, List.set_cons_succ, i64_w, i32_w]
                        rfl
                      refine done_ (by kernel_rfl) ?_

                      have hbx : Below w8.heap.size w8 w10 := (bl_drew (Below.refl _ _)).trans (HB9.out.trans (HB10.out.mono HB9.out.size))
                      have HAx := Aside0.mk (HA8.out.below hbx).tail
                      have HBx := Aside0.mk (HB8.out.trans (hbx.mono HA8.out.size))
                      clear hbx HB9 HB10 HSL HSS HS9 HFB HFN HF8 HA8 HB8 g0 g1 b0
                      have EK := Aside0.mk ek
                      have EQ := Aside0.mk eq
                      clear ek eq d1 d2 d5 d5' d6 d6' d6n d6p d7 d8 d8' d1' hqk hq1
                      go_wp2_with fail
                      go_roundw
                      case rel => exact ⟨k + 1, by first | rfl | rw [EK.out], by rw [HQ3.out]; first | rfl | rw [EQ.out], by omega, HAx, HBx⟩
                      case measure => first | (simp [intOf]; omega) | (rw [EK.out]; simp [intOf]; omega)
                · have d3 : decide ((k : Int) > 0) = false := decide_eq_false (by omega)
                  have d3' : ¬ (0 : Int) < (k : Int) := by omega
                  have HF6 := Aside0.mk (HFR.out.below (bl_drew (Below.refl wr.heap.size wr)))
                  have HA6 := Aside0.mk (HA.out.below (bl_drew (Below.refl wr.heap.size wr)))
                  have HB6 := Aside0.mk (HB.out.trans ((bl_drew (Below.refl wr.heap.size wr)).mono HA.out.size))
                  clear HFR HA HB
                  go_wp2_with fail
                  refine start_ (n := 18) (S := fun w' => True) (ds := []) #[false, false, false, false, false, false, false, false, false, false, false, false, false, false, false, false, false, false] (by kernel_rfl) rfl rfl trivial (fun hHeld => ?_)
                  refine pure_ (i := 0) (N := some 91) (v := ?_) (a' := ?_) #[true, false, false, false, false, false, false, false, false, false, false, false, false, false, false, false, false, false] rfl rfl (by kernel_rfl) (fun _ _ _ h => h) (Or.inl ⟨by rfl, ?_⟩) ?_ ?_
                  rotate_left
                  · intro w'
                    go_simp
                    with_reducible rfl
                  rotate_left
                  · simp only [Act.put, List.setIfInBounds_toArray, List.set_cons_zero, List.set_cons_succ, i64_w, i32_w]
                    rfl
                  refine pure_ (i := 1) (N := some 92) (v := ?_) (a' := ?_) #[true, true, false, false, false, false, false, false, false, false, false, false, false, false, false, false, false, false] rfl rfl (by kernel_rfl) (fun _ _ _ h => h) (Or.inl ⟨by rfl, ?_⟩) ?_ ?_
                  rotate_left
                  · intro w'
                    go_simp
                    with_reducible rfl
                  rotate_left
                  · simp only [Act.put, List.setIfInBounds_toArray, List.set_cons_zero, List.set_cons_succ, i64_w, i32_w]
                    rfl
                  refine pure_ (i := 2) (N := some 93) (v := ?_) (a' := ?_) #[true, true, true, false, false, false, false, false, false, false, false, false, false, false, false, false, false, false] rfl rfl (by kernel_rfl) (fun _ _ _ h => h) (Or.inl ⟨by rfl, ?_⟩) ?_ ?_
                  rotate_left
                  · intro w'
                    go_simp
                    with_reducible rfl
                  rotate_left
                  · simp only [Act.put, List.setIfInBounds_toArray, List.set_cons_zero, List.set_cons_succ, i64_w, i32_w]
                    rfl
                  refine pure_ (i := 3) (N := some 94) (v := undef) (a' := ?_) #[true, true, true, true, false, false, false, false, false, false, false, false, false, false, false, false, false, false] rfl rfl (by kernel_rfl) (fun _ _ _ h => h) (Or.inr ⟨by rfl, rfl⟩) ?_ ?_
                  rotate_left
                  · simp only [Act.put, List.setIfInBounds_toArray, List.set_cons_zero, List.set_cons_succ, i64_w, i32_w]
                    rfl
                  refine pure_ (i := 4) (N := some 95) (v := undef) (a' := ?_) #[true, true, true, true, true, false, false, false, false, false, false, false, false, false, false, false, false, false] rfl rfl (by kernel_rfl) (fun _ _ _ h => h) (Or.inr ⟨by rfl, rfl⟩) ?_ ?_
                  rotate_left
                  · simp only [Act.put, List.setIfInBounds_toArray, List.set_cons_zero, List.set_cons_succ, i64_w, i32_w]
                    rfl
                  refine pure_ (i := 5) (N := some 96) (v := undef) (a' := ?_) #[true, true, true, true, true, true, false, false, false, false, false, false, false, false, false, false, false, false] rfl rfl (by kernel_rfl) (fun _ _ _ h => h) (Or.inr ⟨by rfl, rfl⟩) ?_ ?_
                  rotate_left
                  · simp only [Act.put, List.setIfInBounds_toArray, List.set_cons_zero, List.set_cons_succ, i64_w, i32_w]
                    rfl
                  refine pure_ (i := 6) (N := some 97) (v := undef) (a' := ?_) #[true, true, true, true, true, true, true, false, false, false, false, false, false, false, false, false, false, false] rfl rfl (by kernel_rfl) (fun _ _ _ h => h) (Or.inr ⟨by rfl, rfl⟩) ?_ ?_
                  rotate_left
                  · simp only [Act.put, List.setIfInBounds_toArray, List.set_cons_zero, List.set_cons_succ, i64_w, i32_w]
                    rfl
                  refine pure_ (i := 7) (N := some 98) (v := undef) (a' := ?_) #[true, true, true, true, true, true, true, true, false, false, false, false, false, false, false, false, false, false] rfl rfl (by kernel_rfl) (fun _ _ _ h => h) (Or.inr ⟨by rfl, rfl⟩) ?_ ?_
                  rotate_left
                  · simp only [Act.put, List.setIfInBounds_toArray, List.set_cons_zero, List.set_cons_succ, i64_w, i32_w]
                    rfl
                  refine pure_ (i := 8) (N := some 99) (v := undef) (a' := ?_) #[true, true, true, true, true, true, true, true, true, false, false, false, false, false, false, false, false, false] rfl rfl (by kernel_rfl) (fun _ _ _ h => h) (Or.inr ⟨by rfl, rfl⟩) ?_ ?_
                  rotate_left
                  · simp only [Act.put, List.setIfInBounds_toArray, List.set_cons_zero, List.set_cons_succ, i64_w, i32_w]
                    rfl
                  refine pure_ (i := 9) (N := some 100) (v := undef) (a' := ?_) #[true, true, true, true, true, true, true, true, true, true, false, false, false, false, false, false, false, false] rfl rfl (by kernel_rfl) (fun _ _ _ h => h) (Or.inr ⟨by rfl, rfl⟩) ?_ ?_
                  rotate_left
                  · simp only [Act.put, List.setIfInBounds_toArray, List.set_cons_zero, List.set_cons_succ, i64_w, i32_w]
                    rfl
                  refine pure_ (i := 10) (N := some 101) (v := undef) (a' := ?_) #[true, true, true, true, true, true, true, true, true, true, true, false, false, false, false, false, false, false] rfl rfl (by kernel_rfl) (fun _ _ _ h => h) (Or.inr ⟨by rfl, rfl⟩) ?_ ?_
                  rotate_left
                  · simp only [Act.put, List.setIfInBounds_toArray, List.set_cons_zero, List.set_cons_succ, i64_w, i32_w]
                    rfl
                  refine pure_ (i := 11) (N := some 102) (v := undef) (a' := ?_) #[true, true, true, true, true, true, true, true, true, true, true, true, false, false, false, false, false, false] rfl rfl (by kernel_rfl) (fun _ _ _ h => h) (Or.inr ⟨by rfl, rfl⟩) ?_ ?_
                  rotate_left
                  · simp only [Act.put, List.setIfInBounds_toArray, List.set_cons_zero, List.set_cons_succ, i64_w, i32_w]
                    rfl
                  refine pure_ (i := 12) (N := some 103) (v := undef) (a' := ?_) #[true, true, true, true, true, true, true, true, true, true, true, true, true, false, false, false, false, false] rfl rfl (by kernel_rfl) (fun _ _ _ h => h) (Or.inr ⟨by rfl, rfl⟩) ?_ ?_
                  rotate_left
                  · simp only [Act.put, List.setIfInBounds_toArray, List.set_cons_zero, List.set_cons_succ, i64_w, i32_w]
                    rfl
                  refine pure_ (i := 13) (N := some 104) (v := undef) (a' := ?_) #[true, true, true, true, true, true, true, true, true, true, true, true, true, true, false, false, false, false] rfl rfl (by kernel_rfl) (fun _ _ _ h => h) (Or.inr ⟨by rfl, rfl⟩) ?_ ?_
                  rotate_left
                  · simp only [Act.put, List.setIfInBounds_toArray, List.set_cons_zero, List.set_cons_succ, i64_w, i32_w]
                    rfl
                  refine pure_ (i := 14) (N := some 105) (v := undef) (a' := ?_) #[true, true, true, true, true, true, true, true, true, true, true, true, true, true, true, false, false, false] rfl rfl (by kernel_rfl) (fun _ _ _ h => h) (Or.inr ⟨by rfl, rfl⟩) ?_ ?_
                  rotate_left
                  · simp only [Act.put, List.setIfInBounds_toArray, List.set_cons_zero, List.set_cons_succ, i64_w, i32_w]
                    rfl
                  refine pure_ (i := 15) (N := some 106) (v := undef) (a' := ?_) #[true, true, true, true, true, true, true, true, true, true, true, true, true, true, true, true, false, false] rfl rfl (by kernel_rfl) (fun _ _ _ h => h) (Or.inr ⟨by rfl, rfl⟩) ?_ ?_
                  rotate_left
                  · simp only [Act.put, List.setIfInBounds_toArray, List.set_cons_zero, List.set_cons_succ, i64_w, i32_w]
                    rfl
                  refine pure_ (i := 16) (N := some 107) (v := undef) (a' := ?_) #[true, true, true, true, true, true, true, true, true, true, true, true, true, true, true, true, true, false] rfl rfl (by kernel_rfl) (fun _ _ _ h => h) (Or.inr ⟨by rfl, rfl⟩) ?_ ?_
                  rotate_left
                  · simp only [Act.put, List.setIfInBounds_toArray, List.set_cons_zero, List.set_cons_succ, i64_w, i32_w]
                    rfl
                  refine pure_ (i := 17) (N := some 108) (v := ?_) (a' := ?_) #[true, true, true, true, true, true, true, true, true, true, true, true, true, true, true, true, true, true] rfl rfl (by kernel_rfl) (fun _ _ _ h => h) (Or.inl ⟨by rfl, ?_⟩) ?_ ?_
                  rotate_left
                  · intro w'
                    go_simp
                    with_reducible rfl
                  rotate_left
                  · simp only [Act.put, List.setIfInBounds_toArray, List.set_cons_zero, List.set_cons_succ, i64_w, i32_w]
                    rfl
                  refine done_ (by kernel_rfl) ?_

                  generalize wr.drew = w6 at HF6 HA6 HB6 ⊢
                  have b1 := HF6.out.c1
                  have HWI := Aside0.mk (window_c HF6.out.C1 HF6.out.le1 (by show (X[k]).2.length ≤ 1000000; omega) a2 a3)
                  dsimp only at b1 HWI
                  obtain ⟨ys, hys⟩ : ∃ ys, winL (X[k]).2 a2 a3 = ys := ⟨_, rfl⟩
                  have HYS := Aside0.mk hys
                  rw [hys] at HWI
                  clear hys
                  go_wp2_with fail
                  refine HWI.out.mono ?_
                  intro e w7 hrp
                  obtain ⟨Aw, cw, rfl, hA7, hB7⟩ := hrp.has HA6.out
                  have HF7 := Aside0.mk (HF6.out.below (by obtain ⟨_, _, _, hb⟩ := hrp; exact hb))
                  have HB7 := Aside0.mk (HB6.out.trans hB7)
                  have HA7 := Aside0.mk hA7
                  have b0 := HF7.out.c0
                  have HDO := Aside0.mk (match_Does.calls A1 c1 l1 A1q c1q (X[k]).1 (doesL l1 (X[k]).1) w7 (Kd.C_below HM.out HB7.out) HCC.out.2 HF7.out.C0 HF7.out.le0 rfl)
                  dsimp only at b0
                  clear hrp hA7 hB7 HWI b1 HA6 HB6 HF6
                  cases hd : doesL l1 (X[k]).1 with
                  | false =>
                    rw [hd] at HDO
                    have HS2 : Aside0 (findsV (X.take (k + 1)) (selG l1 a2 a3) = findsV (X.take k) (selG l1 a2 a3)) := ⟨HSK.out (by unfold selG; rw [hd]; rfl)⟩
                    clear hd
                    go_wp2_with fail
                    refine HDO.out.mono ?_
                    rintro e w8 ⟨rfl, hb8⟩
                    have HA8 := Aside0.mk ((HA7.out.below hb8).tail)
                    have HB8 := Aside0.mk (HB7.out.trans (hb8.mono HA7.out.size))
                    clear hb8 HDO b0 HA7 HB7 HF7
                    go_wp2_with fail
                    go_roundw
                    case rel => exact ⟨k + 1, by first | rfl | rw [ek], by rw [HS2.out], by omega, HA8, HB8⟩
                    case measure => first | (simp [intOf]; omega) | (rw [ek]; simp [intOf]; omega)
                  | true =>
                    rw [hd] at HDO
                    go_wp2_with fail
                    refine HDO.out.mono ?_
                    rintro e w8 ⟨rfl, hb8⟩
                    have HA8 := Aside0.mk (HA7.out.below hb8)
                    have HB8 := Aside0.mk (HB7.out.trans (hb8.mono HA7.out.size))
                    have HF8 := Aside0.mk (HF7.out.below hb8)
                    clear hb8 HDO b0 HA7 HB7 HF7
                    by_cases hz : ys = []
                    · have HS2 : Aside0 (findsV (X.take (k + 1)) (selG l1 a2 a3) = findsV (X.take k) (selG l1 a2 a3)) := ⟨HSK.out (by unfold selG; rw [hd, if_pos rfl, HYS.out, hz])⟩
                      subst hz
                      have HA9 := Aside0.mk HA8.out.tail
                      clear hd HF8 HA8
                      go_wp2_with fail
                      go_roundw
                      case rel => exact ⟨k + 1, by first | rfl | rw [ek], by rw [HS2.out], by omega, HA9, HB8⟩
                      case measure => first | (simp [intOf]; omega) | (rw [ek]; simp [intOf]; omega)
                    · have hp : ys.length ≠ 0 := fun q => hz (List.eq_nil_of_length_eq_zero q)
                      have d5 : ((ys.length : Int) == 0) = false := beq_eq_false_iff_ne.2 (by omega)
                      have d5' : ¬ (ys.length : Int) = 0 := by omega
                      have hgv : selG l1 a2 a3 X[k] = ys := by unfold selG; rw [hd, if_pos rfl, HYS.out]
                      obtain ⟨hq1, hq2, hq3⟩ := HNX.out (by rw [hgv]; exact hz)
                      rw [hgv] at hq2
                      have HQ3 := Aside0.mk hq3
                      obtain ⟨ad2, rfl, A1r, n1r, c1r, A2r, n2r, c2r, hFN⟩ := RS.out w8 HA8.out.tail _ hq1
                      rw [hq2] at hFN
                      rw [HNY.out] at hq1
                      clear hq2 hq3 hgv hd hz hp
                      obtain ⟨q, hq⟩ : ∃ q, (findsV (X.take k) (selG l1 a2 a3)).length = q := ⟨_, rfl⟩
                      rw [hq] at hFN hq1 hqk HQ3 ⊢
                      have HQ := Aside0.mk hq
                      clear hq
                      have d6 : decide ((q : Int) ≥ (nY : Int)) = false := decide_eq_false (by omega)
                      have d6' : ¬ (nY : Int) ≤ (q : Int) := by omega
                      have d6n : decide (nY ≤ q) = false := decide_eq_false (by omega)
                      have d6p : ¬ nY ≤ q := by omega
                      have d7 : decide (0 ≤ (q : Int)) = true := decide_eq_true (by omega)
                      have d8 : decide ((q : Int) < (nY : Int)) = true := decide_eq_true (by omega)
                      have d8' : (q : Int) < (nY : Int) := by omega
                      have d1' : (k : Int) < (X.length : Int) := by omega
                      have eq : wrap64 ((q : Int) + 1) = ((q + 1 : Nat) : Int) := (w64 (x := (q : Int) + 1) (by omega) (by omega)).trans (by omega)
                      have HFN := Aside0.mk hFN
                      have g0 := HFN.out.c0
                      have g1 := HFN.out.c1
                      have b0 := HF8.out.c0
                      have hdr : Below w8.heap.size w8 w8.drew := bl_drew (Below.refl _ _)
                      have HSL := Aside0.mk (samel_c (HFN.out.below hdr).C0 HFN.out.le0 (HF8.out.below hdr).C0 HF8.out.le0)
                      rw [show sameLs (⟨(A1r, n1r, c1r), (A2r, n2r, c2r), (X[k]).1, ys⟩ : FE).ls (⟨(A1q, n1q, c1q), (A2q, n2q, c2q), (X[k]).1, (X[k]).2⟩ : FE).ls = true from sameLs_iff.2 rfl] at HSL
                      have HSS : Aside0 (∀ w9, Below w8.drew.heap.size w8.drew w9 → Calls Try.prog 22 #[.slice A2r ys.length c2r, .slice Aw ys.length cw] w9 fun e w' => e = .returned (.bool true) ∧ Below w9.heap.size w9 w') := ⟨fun w9 hb9 => by
                        have hb89 : Below w8.heap.size w8 w9 := hdr.trans hb9
                        obtain ⟨_, hcw, hCw⟩ := row_reads (HA8.out.below hb89) (d := kS) (e := 26) (A := Aw) (n := ys.length) (c := cw) (xs := ys) (List.mem_cons_self ..)
                        have hss := sames_c (HFN.out.below hb89).C1 HFN.out.le1 hCw hcw
                        rw [show sameSs ys ys = true from sameSs_iff.2 rfl] at hss
                        exact hss⟩
                      dsimp only at g0 g1 b0 HSL
                      have HFB : Aside0 (∀ w9, Below w8.drew.heap.size w8.drew w9 → w9.cell? (ad2.add (q * 2)) = some (.slice A1r (X[k]).1.length c1r) ∧ w9.cell? ⟨(ad2.add (q * 2)).block, (ad2.add (q * 2)).off + 1, none⟩ = some (.slice A2r ys.length c2r) ∧ w9.cell? (ad.add (k * 2)) = some (.slice A1q (X[k]).1.length c1q)) := ⟨fun w9 hb9 => ⟨(HFN.out.below (hdr.trans hb9)).c0, (HFN.out.below (hdr.trans hb9)).c1, (HF8.out.below (hdr.trans hb9)).c0⟩⟩
                      clear hFN hdr
                      go_wp2_with fail
                      refine start_ (n := 28) (S := fun w' => w'.cell? (ad2.add (q * 2)) = some (.slice A1r (X[k]).1.length c1r) ∧ w'.cell? ⟨(ad2.add (q * 2)).block, (ad2.add (q * 2)).off + 1, none⟩ = some (.slice A2r ys.length c2r) ∧ w'.cell? (ad.add (k * 2)) = some (.slice A1q (X[k]).1.length c1q)) (ds := [25]) #[false, false, false, false, false, false, false, false, false, false, false, false, false, false, false, false, false, false, false, false, false, false, false, false, false, false, false, false] (by kernel_rfl) rfl rfl ⟨g0, g1, b0⟩ (fun hHeld => ?_)
                      refine pure_ (i := 0) (N := some 130) (v := ?_) (a' := ?_) #[true, false, false, false, false, false, false, false, false, false, false, false, false, false, false, false, false, false, false, false, false, false, false, false, false, false, false, false] rfl rfl (by kernel_rfl) (fun _ _ _ h => h) (Or.inl ⟨by rfl, ?_⟩) ?_ ?_
                      rotate_left
                      · intro w'
                        go_simp
                        with_reducible rfl
                      rotate_left
                      · simp only [Act.put, List.setIfInBounds_toArray, List.set_cons_zero, List.set_cons_succ, i64_w, i32_w]
                        rfl
                      refine pure_ (i := 1) (N := some 131) (v := ?_) (a' := ?_) #[true, true, false, false, false, false, false, false, false, false, false, false, false, false, false, false, false, false, false, false, false, false, false, false, false, false, false, false] rfl rfl (by kernel_rfl) (fun _ _ _ h => h) (Or.inl ⟨by rfl, ?_⟩) ?_ ?_
                      rotate_left
                      · intro w'
                        go_simp
                        with_reducible rfl
                      rotate_left
                      · simp only [Act.put, List.setIfInBounds_toArray, List.set_cons_zero, List.set_cons_succ, i64_w, i32_w]
                        rfl
                      refine pure_ (i := 2) (N := some 132) (v := ?_) (a' := ?_) #[true, true, true, false, false, false, false, false, false, false, false, false, false, false, false, false, false, false, false, false, false, false, false, false, false, false, false, false] rfl rfl (by kernel_rfl) (fun _ _ _ h => h) (Or.inl ⟨by rfl, ?_⟩) ?_ ?_
                      rotate_left
                      · intro w'
                        go_simp
                        with_reducible rfl
                      rotate_left
                      · simp only [Act.put, List.setIfInBounds_toArray, List.set_cons_zero, List.set_cons_succ, i64_w, i32_w]
                        rfl
                      refine pure_ (i := 3) (N := some 133) (v := ?_) (a' := ?_) #[true, true, true, true, false, false, false, false, false, false, false, false, false, false, false, false, false, false, false, false, false, false, false, false, false, false, false, false] rfl rfl (by kernel_rfl) (fun _ _ _ h => h) (Or.inl ⟨by rfl, ?_⟩) ?_ ?_
                      rotate_left
                      · intro w'
                        go_simp
                        with_reducible rfl
                      rotate_left
                      · simp only [Act.put, List.setIfInBounds_toArray, List.set_cons_zero, List.set_cons_succ, i64_w, i32_w]
                        rfl
                      refine pure_ (i := 4) (N := some 134) (v := ?_) (a' := ?_) #[true, true, true, true, true, false, false, false, false, false, false, false, false, false, false, false, false, false, false, false, false, false, false, false, false, false, false, false] rfl rfl (by kernel_rfl) (fun _ _ _ h => h) (Or.inl ⟨by rfl, ?_⟩) ?_ ?_
                      rotate_left
                      · intro w'
                        go_simp
                        with_reducible rfl
                      rotate_left
                      · simp only [Act.put, List.setIfInBounds_toArray, List.set_cons_zero, List.set_cons_succ, i64_w, i32_w]
                        rfl
                      refine pure_ (i := 5) (N := some 135) (v := ?_) (a' := ?_) #[true, true, true, true, true, true, false, false, false, false, false, false, false, false, false, false, false, false, false, false, false, false, false, false, false, false, false, false] rfl rfl (by kernel_rfl) (fun _ _ _ h => h) (Or.inl ⟨by rfl, ?_⟩) ?_ ?_
                      rotate_left
                      · intro w'
                        go_simp
                        with_reducible rfl
                      rotate_left
                      · simp only [Act.put, List.setIfInBounds_toArray, List.set_cons_zero, List.set_cons_succ, i64_w, i32_w]
                        rfl
                      refine pure_ (i := 6) (N := some 136) (v := ?_) (a' := ?_) #[true, true, true, true, true, true, true, false, false, false, false, false, false, false, false, false, false, false, false, false, false, false, false, false, false, false, false, false] rfl rfl (by kernel_rfl) (fun _ _ _ h => h) (Or.inl ⟨by rfl, ?_⟩) ?_ ?_
                      rotate_left
                      · intro w'
                        go_simp
                        with_reducible rfl
                      rotate_left
                      · simp only [Act.put, List.setIfInBounds_toArray, List.set_cons_zero, List.set_cons_succ, i64_w, i32_w]
                        rfl
                      refine pure_ (i := 7) (N := some 137) (v := ?_) (a' := ?_) #[true, true, true, true, true, true, true, true, false, false, false, false, false, false, false, false, false, false, false, false, false, false, false, false, false, false, false, false] rfl rfl (by kernel_rfl) (fun _ _ _ h => h) (Or.inl ⟨by rfl, ?_⟩) ?_ ?_
                      rotate_left
                      · intro w'
                        go_simp
                        with_reducible rfl
                      rotate_left
                      · simp only [Act.put, List.setIfInBounds_toArray, List.set_cons_zero, List.set_cons_succ, i64_w, i32_w]
                        rfl
                      refine pure_ (i := 8) (N := some 138) (v := ?_) (a' := ?_) #[true, true, true, true, true, true, true, true, true, false, false, false, false, false, false, false, false, false, false, false, false, false, false, false, false, false, false, false] rfl rfl (by kernel_rfl) (fun _ _ _ h => h) (Or.inl ⟨by rfl, ?_⟩) ?_ ?_
                      rotate_left
                      · intro w'
                        go_simp
                        with_reducible rfl
                      rotate_left
                      · simp only [Act.put, List.setIfInBounds_toArray, List.set_cons_zero, List.set_cons_succ, i64_w, i32_w]
                        rfl
                      refine pure_ (i := 10) (N := some 140) (v := ?_) (a' := ?_) #[true, true, true, true, true, true, true, true, true, false, true, false, false, false, false, false, false, false, false, false, false, false, false, false, false, false, false, false] rfl rfl (by kernel_rfl) (fun _ _ _ h => h) (Or.inl ⟨by rfl, ?_⟩) ?_ ?_
                      rotate_left
                      · intro w'
                        go_simp
                        with_reducible rfl
                      rotate_left
                      · simp only [Act.put, List.setIfInBounds_toArray, List.set_cons_zero, List.set_cons_succ, i64_w, i32_w]
                        rfl
                      refine pure_ (i := 11) (N := some 141) (v := ?_) (a' := ?_) #[true, true, true, true, true, true, true, true, true, false, true, true, false, false, false, false, false, false, false, false, false, false, false, false, false, false, false, false] rfl rfl (by kernel_rfl) (fun _ _ _ h => h) (Or.inl ⟨by rfl, ?_⟩) ?_ ?_
                      rotate_left
                      · intro w'
                        go_simp
                        with_reducible rfl
                      rotate_left
                      · simp only [Act.put, List.setIfInBounds_toArray, List.set_cons_zero, List.set_cons_succ, i64_w, i32_w]
                        rfl
                      refine pure_ (i := 12) (N := some 142) (v := ?_) (a' := ?_) #[true, true, true, true, true, true, true, true, true, false, true, true, true, false, false, false, false, false, false, false, false, false, false, false, false, false, false, false] rfl rfl (by kernel_rfl) (fun _ _ _ h => h) (Or.inl ⟨by rfl, ?_⟩) ?_ ?_
                      rotate_left
                      · intro w'
                        go_simp
                        with_reducible rfl
                      rotate_left
                      · simp only [Act.put, List.setIfInBounds_toArray, List.set_cons_zero, List.set_cons_succ, i64_w, i32_w]
                        rfl
                      refine pure_ (i := 13) (N := some 143) (v := ?_) (a' := ?_) #[true, true, true, true, true, true, true, true, true, false, true, true, true, true, false, false, false, false, false, false, false, false, false, false, false, false, false, false] rfl rfl (by kernel_rfl) (fun _ _ _ h => h) (Or.inl ⟨by rfl, ?_⟩) ?_ ?_
                      rotate_left
                      · intro w'
                        go_simp
                        with_reducible rfl
                      rotate_left
                      · simp only [Act.put, List.setIfInBounds_toArray, List.set_cons_zero, List.set_cons_succ, i64_w, i32_w]
                        rfl
                      refine take_ (i := 9) (N := some 139) (v := ?_) (a' := ?_) #[true, true, true, true, true, true, true, true, true, true, true, true, true, true, false, false, false, false, false, false, false, false, false, false, false, false, false, false] rfl rfl (by kernel_rfl) (fun _ _ _ h => h) (Or.inl ⟨by rfl, ?_⟩) hHeld ?_ ?_
                      rotate_left
                      · rintro w' ⟨s0, s1, s2⟩
                        go_simp
                        with_reducible rfl
                      rotate_left
                      · simp only [Act.put, List.setIfInBounds_toArray, List.set_cons_zero, List.set_cons_succ, i64_w, i32_w]
                        rfl
                      refine take_ (i := 14) (N := some 144) (v := ?_) (a' := ?_) #[true, true, true, true, true, true, true, true, true, true, true, true, true, true, true, false, false, false, false, false, false, false, false, false, false, false, false, false] rfl rfl (by kernel_rfl) (fun _ _ _ h => h) (Or.inl ⟨by rfl, ?_⟩) hHeld ?_ ?_
                      rotate_left
                      · rintro w' ⟨s0, s1, s2⟩
                        go_simp
                        with_reducible rfl
                      rotate_left
                      · simp only [Act.put, List.setIfInBounds_toArray, List.set_cons_zero, List.set_cons_succ, i64_w, i32_w]
                        rfl
                      refine one_ (i := 15) (N := some 145) #[true, true, true, true, true, true, true, true, true, true, true, true, true, true, true, true, false, false, false, false, false, false, false, false, false, false, false, false] rfl rfl (by kernel_rfl) (by decide) (fun K hK => ?_)
                      refine goes_ Try.func21 (by kernel_rfl) rfl #[.slice A1r (X[k]).1.length c1r, .slice A1q (X[k]).1.length c1q] (by rfl) rfl rfl (by simp only [List.map_toArray, List.map_cons, List.map_nil]; rfl) ?_
                      with_reducible refine (HSL.out).mono ?_
                      rintro e w9 ⟨rfl, hb9⟩
                      refine ⟨_, rfl, ?_⟩
                      obtain ⟨s0, s1, s2⟩ := HFB.out w9 hb9
                      have HS9 := Aside0.mk (HSS.out w9 hb9)
                      have HB9 := Aside0.mk hb9
                      clear hb9
                      refine hK.out _ _ ⟨s0, s1, s2⟩ (fun hHeld => ?_)
                      clear hK K
                      refine norm_ (a' := ?_) ?_ ?_
                      rotate_left
                      · show Act.put _ (some 145) _ = _
                        simp only [Act.put, List.setIfInBounds_toArray, List.set_cons_zero, List.set_cons_succ, i64_w, i32_w]
                        rfl
                      refine pure_ (i := 16) (N := some 146) (v := ?_) (a' := ?_) #[true, true, true, true, true, true, true, true, true, true, true, true, true, true, true, true, true, false, false, false, false, false, false, false, false, false, false, false] rfl rfl (by kernel_rfl) (fun _ _ _ h => h) (Or.inl ⟨by rfl, ?_⟩) ?_ ?_
                      rotate_left
                      · intro w'
                        go_simp
                        with_reducible rfl
                      rotate_left
                      · simp only [Act.put, List.setIfInBounds_toArray, List.set_cons_zero, List.set_cons_succ, i64_w, i32_w]
                        rfl
                      refine pure_ (i := 17) (N := some 147) (v := ?_) (a' := ?_) #[true, true, true, true, true, true, true, true, true, true, true, true, true, true, true, true, true, true, false, false, false, false, false, false, false, false, false, false] rfl rfl (by kernel_rfl) (fun _ _ _ h => h) (Or.inl ⟨by rfl, ?_⟩) ?_ ?_
                      rotate_left
                      · intro w'
                        go_simp
                        with_reducible rfl
                      rotate_left
                      · simp only [Act.put, List.setIfInBounds_toArray, List.set_cons_zero, List.set_cons_succ, i64_w, i32_w]
                        rfl
                      refine pure_ (i := 18) (N := some 148) (v := ?_) (a' := ?_) #[true, true, true, true, true, true, true, true, true, true, true, true, true, true, true, true, true, true, true, false, false, false, false, false, false, false, false, false] rfl rfl (by kernel_rfl) (fun _ _ _ h => h) (Or.inl ⟨by rfl, ?_⟩) ?_ ?_
                      rotate_left
                      · intro w'
                        go_simp
                        with_reducible rfl
                      rotate_left
                      · simp only [Act.put, List.setIfInBounds_toArray, List.set_cons_zero, List.set_cons_succ, i64_w, i32_w]
                        rfl
                      refine pure_ (i := 19) (N := some 149) (v := ?_) (a' := ?_) #[true, true, true, true, true, true, true, true, true, true, true, true, true, true, true, true, true, true, true, true, false, false, false, false, false, false, false, false] rfl rfl (by kernel_rfl) (fun _ _ _ h => h) (Or.inl ⟨by rfl, ?_⟩) ?_ ?_
                      rotate_left
                      · intro w'
                        go_simp
                        with_reducible rfl
                      rotate_left
                      · simp only [Act.put, List.setIfInBounds_toArray, List.set_cons_zero, List.set_cons_succ, i64_w, i32_w]
                        rfl
                      refine pure_ (i := 20) (N := some 150) (v := ?_) (a' := ?_) #[true, true, true, true, true, true, true, true, true, true, true, true, true, true, true, true, true, true, true, true, true, false, false, false, false, false, false, false] rfl rfl (by kernel_rfl) (fun _ _ _ h => h) (Or.inl ⟨by rfl, ?_⟩) ?_ ?_
                      rotate_left
                      · intro w'
                        go_simp
                        with_reducible rfl
                      rotate_left
                      · simp only [Act.put, List.setIfInBounds_toArray, List.set_cons_zero, List.set_cons_succ, i64_w, i32_w]
                        rfl
                      refine pure_ (i := 21) (N := some 151) (v := ?_) (a' := ?_) #[true, true, true, true, true, true, true, true, true, true, true, true, true, true, true, true, true, true, true, true, true, true, false, false, false, false, false, false] rfl rfl (by kernel_rfl) (fun _ _ _ h => h) (Or.inl ⟨by rfl, ?_⟩) ?_ ?_
                      rotate_left
                      · intro w'
                        go_simp
                        with_reducible rfl
                      rotate_left
                      · simp only [Act.put, List.setIfInBounds_toArray, List.set_cons_zero, List.set_cons_succ, i64_w, i32_w]
                        rfl
                      refine pure_ (i := 22) (N := some 152) (v := ?_) (a' := ?_) #[true, true, true, true, true, true, true, true, true, true, true, true, true, true, true, true, true, true, true, true, true, true, true, false, false, false, false, false] rfl rfl (by kernel_rfl) (fun _ _ _ h => h) (Or.inl ⟨by rfl, ?_⟩) ?_ ?_
                      rotate_left
                      · intro w'
                        go_simp
                        with_reducible rfl
                      rotate_left
                      · simp only [Act.put, List.setIfInBounds_toArray, List.set_cons_zero, List.set_cons_succ, i64_w, i32_w]
                        rfl
                      refine pure_ (i := 24) (N := some 154) (v := ?_) (a' := ?_) #[true, true, true, true, true, true, true, true, true, true, true, true, true, true, true, true, true, true, true, true, true, true, true, false, true, false, false, false] rfl rfl (by kernel_rfl) (fun _ _ _ h => h) (Or.inl ⟨by rfl, ?_⟩) ?_ ?_
                      rotate_left
                      · intro w'
                        go_simp
                        with_reducible rfl
                      rotate_left
                      · simp only [Act.put, List.setIfInBounds_toArray, List.set_cons_zero, List.set_cons_succ, i64_w, i32_w]
                        rfl
                      refine take_ (i := 23) (N := some 153) (v := ?_) (a' := ?_) #[true, true, true, true, true, true, true, true, true, true, true, true, true, true, true, true, true, true, true, true, true, true, true, true, true, false, false, false] rfl rfl (by kernel_rfl) (fun _ _ _ h => h) (Or.inl ⟨by rfl, ?_⟩) hHeld ?_ ?_
                      rotate_left
                      · rintro w' ⟨s0, s1, s2⟩
                        go_simp
                        with_reducible rfl
                      rotate_left
                      · simp only [Act.put, List.setIfInBounds_toArray, List.set_cons_zero, List.set_cons_succ, i64_w, i32_w]
                        rfl
                      refine last_ (i := 25) (N := some 155) #[true, true, true, true, true, true, true, true, true, true, true, true, true, true, true, true, true, true, true, true, true, true, true, true, true, true, false, false] rfl rfl (by kernel_rfl) (by decide) (fun K hK => ?_)
                      refine goes_ Try.func22 (by kernel_rfl) rfl #[.slice A2r ys.length c2r, .slice Aw ys.length cw] (by rfl) rfl rfl (by simp only [List.map_toArray, List.map_cons, List.map_nil]; rfl) ?_
                      with_reducible refine (HS9.out).mono ?_
                      rintro e w10 ⟨rfl, hb10⟩
                      refine ⟨_, rfl, ?_⟩
                      have HB10 := Aside0.mk hb10
                      clear hb10
                      refine hK.out _ _ ?_
                      clear hK K
                      refine norm_ (a' := ?_) ?_ ?_
                      rotate_left
                      · show Act.put _ (some 155) _ = _
                        simp only [Act.put, List.setIfInBounds_toArray, List.set_cons_zero, List.set_cons_succ, i64_w, i32_w]
                        rfl
                      refine pure_ (i := 26) (N := some 156) (v := ?_) (a' := ?_) #[true, true, true, true, true, true, true, true, true, true, true, true, true, true, true, true, true, true, true, true, true, true, true, true, true, true, true, false] rfl rfl (by kernel_rfl) (fun _ _ _ h => h) (Or.inl ⟨by rfl, ?_⟩) ?_ ?_
                      rotate_left
                      · intro w'
                        go_simp
                        with_reducible rfl
                      rotate_left
                      · simp only [Act.put, List.setIfInBounds_toArray, List.set_cons_zero, List.set_cons_succ, i64_w, i32_w]
                        rfl
                      refine pure_ (i := 27) (N := some 157) (v := ?_) (a' := ?_) #[true, true, true, true, true, true, true, true, true, true, true, true, true, true, true, true, true, true, true, true, true, true, true, true, true, true, true, true] rfl rfl (by kernel_rfl) (fun _ _ _ h => h) (Or.inl ⟨by rfl, ?_⟩) ?_ ?_
                      rotate_left
                      · intro w'
                        go_simp
                        with_reducible rfl
                      rotate_left
                      · simp only [Act.put, List.setIfInBounds_toArray, List.set_cons_zero, List.set_cons_succ, i64_w, i32_w]
                        rfl
                      refine done_ (by kernel_rfl) ?_

                      have hbx : Below w8.heap.size w8 w10 := (bl_drew (Below.refl _ _)).trans (HB9.out.trans (HB10.out.mono HB9.out.size))
                      have HAx := Aside0.mk (HA8.out.below hbx).tail
                      have HBx := Aside0.mk (HB8.out.trans (hbx.mono HA8.out.size))
                      clear hbx HB9 HB10 HSL HSS HS9 HFB HFN HF8 HA8 HB8 g0 g1 b0
                      have EK := Aside0.mk ek
                      have EQ := Aside0.mk eq
                      clear ek eq d1 d2 d5 d5' d6 d6' d6n d6p d7 d8 d8' d1' hqk hq1
                      go_wp2_with fail
                      go_roundw
                      case rel => exact ⟨k + 1, by first | rfl | rw [EK.out], by rw [HQ3.out]; first | rfl | rw [EQ.out], by omega, HAx, HBx⟩
                      case measure => first | (simp [intOf]; omega) | (rw [EK.out]; simp [intOf]; omega)
              · obtain rfl : k = X.length := by omega
                have d1 : decide ((X.length : Int) < (X.length : Int)) = false := decide_eq_false (by omega)
                have hfin : (findsV (X.take X.length) (selG l1 a2 a3)).length = nY := by rw [List.take_length]; exact HNY.out
                rw [hfin]
                clear hfin hqk
                go_wp2_with fail
                refine (awake_calls _).mono ?_
                rintro e w6 ⟨rfl, hb6⟩
                go_wp2_with fail
                go_ret
                exact ⟨rfl, HB.out.trans (hb6.mono HA.out.size)⟩
end Go.Proofs.Ytlhlaadnifkdhaa.Sr
