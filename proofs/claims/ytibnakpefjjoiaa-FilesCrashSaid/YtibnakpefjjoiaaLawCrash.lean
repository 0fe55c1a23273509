/- Behind a crash each file has a beginning of what it had: walked. -/
import Derived.Test.YtibnakpefjjoiaaFileZ
namespace Go.Proofs.Ytibnakpefjjoiaa.Fs
open Go.RowKit Go.Proofs.YtibnakpefjjoiaaW.PrintWords Go.Proofs.YtibnakpefjjoiaaW.PrintLast Go.Proofs.YtibnakpefjjoiaaW.PrintMore Go.Proofs.Ytibnakpefjjoiaa.Q Go.Proofs.Ytibnakpefjjoiaa.Own
set_option linter.unusedVariables false
set_option linter.unusedSimpArgs false
attribute [local go_sem ↓] Go.wp_at_zero Go.wp_at_succ

theorem rd_at (l : List SA) {k : Nat} (hk : k < l.length) : rd_T46 l (k : Int) = l[k] := by
  unfold rd_T46
  rw [Int.toNat_natCast, List.getD_eq_getElem?_getD, List.getElem?_eq_getElem hk]
  rfl
set_option maxHeartbeats 8000000 in
set_option maxRecDepth 100000 in
theorem crash_law {G : SA → Prop} {G1 : Int → Prop} (A0 : Option Addr) (c0 : Nat) (l0 : List SA) (A1 : Option Addr) (c1 : Nat) (l1 : List Int) (W : World) (hr0 : Kd.C kA W A0 l0.length l0) (hc0 : l0.length ≤ c0) (hr1 : Kd.C kI W A1 l1.length l1) (hc1 : l1.length ≤ c1) (hm0 : l0.length ≤ 9223372036854775807) (y0 : l0.length * 96 ≤ 140737488351232) (hg0 : ∀ x ∈ l0, G x) (hm1 : l1.length ≤ 9223372036854775807) (y1 : l1.length * 8 ≤ 140737488351232) (hg1 : ∀ x ∈ l1, G1 x) :
    Calls Try.prog 6 #[.slice A0 l0.length c0, .slice A1 l1.length c1] W fun e w' => e = .returned (.bool true) ∧ Below W.heap.size W w' := by
  have HC := Aside0.mk hr0
  have HK := Aside0.mk hr1
  have hu46 := Try.underlying46
  obtain ⟨r, hr, hrf⟩ := great_ev l0
  have HG := Aside0.mk (tocsinlaw03_Great.calls (l0.length + 1) A0 c0 l0 r W hr0 hc0 hr)
  have HRF := Aside0.mk hrf
  clear hr0 hc0 hm0 hg0 hr1 hc1 hm1 hg1 hr hrf y0 y1
  go_enter Try.func6, Try.ntmps6
  go_wp2_with fail
  refine HG.out.mono ?_
  rintro e w1 ⟨rfl, ⟨nd, rfl⟩⟩
  have HA1 := Aside0.mk ((Has.nil W).drewN nd)
  have HB1 : Aside0 (Below W.heap.size W (W.drewN nd)) := ⟨pw_below_drewN (Below.refl _ _) _⟩
  clear HG
  generalize W.drewN nd = w1 at HA1 HB1 ⊢
  cases r
  · obtain ⟨hl, hsm⟩ := HRF.out rfl
    have HSM := Aside0.mk hsm
    clear hsm HRF
    go_wp2_with fail
    refine (new_calls HA1.out).mono ?_
    rintro e w2 ⟨p, rfl, hA, hB⟩
    have HA2 := Aside0.mk hA
    have HB2 := Aside0.mk (HB1.out.trans hB)
    clear hA hB HA1 HB1
    go_wp2_with fail
    go_loopw [6] (fun i wr => ∃ (k : Nat) (st : Stt), i = .int .i64 k ∧ k ≤ l0.length ∧ Aside0 (Fine st k) ∧ Aside0 (st.left = -1) ∧ Aside0 (Has W.heap.size wr [stoT p st]) ∧ Aside0 (Below W.heap.size W wr)) (fun i _ => l0.length - (intOf i).toNat)
    case atStart => exact ⟨0, ⟨-1, 0, []⟩, rfl, by omega, ⟨fine_new⟩, ⟨rfl⟩, HA2, HB2⟩
    case round =>
      clear HA2 HB2
      obtain ⟨k, st, rfl, hk, HF, HL, HA, HB⟩ := hrel
      by_cases hlt : k < l0.length
      · have d1 : decide ((k : Int) < (l0.length : Int)) = true := decide_eq_true (by omega)
        have d2 : decide (0 ≤ (k : Int)) = true := decide_eq_true (by omega)
        have ek : wrap64 ((k : Int) + 1) = ((k + 1 : Nat) : Int) := wrap_nat (by omega)
        obtain ⟨ad, A3, c3, A5, c5, rfl, q0, q1, q2, q3, q4, q5, l3, g3, l5, g5⟩ := at_T46 (Kd.C_below HC.out HB.out) (k : Int) (by omega) (by omega)
        rw [rd_at l0 hlt] at q0 q1 q2 q3 q4 q5 l3 g3 l5 g5
        rw [Int.toNat_natCast] at q0 q1 q2 q3 q4 q5
        have hx : SmallA l0[k] := HSM.out _ (List.getElem_mem hlt)
        generalize l0[k] = x at q0 q1 q2 q3 q4 q5 l3 g3 l5 g5 hx
        have HFA := Aside0.mk (fine_act HF.out x)
        have HLA := Aside0.mk (act_left HL.out x)
        have hA := HA.out.alloc (.cells #[.int .u8 x.f0, .string x.f1, .string x.f2, .slice A3 x.f3.length c3, .int .i64 x.f4, .slice A5 x.f5.length c5] 46)
        have hB := HB.out.alloc HA.out.size (.cells #[.int .u8 x.f0, .string x.f1, .string x.f2, .slice A3 x.f3.length c3, .int .i64 x.f4, .slice A5 x.f5.length c5] 46)
        obtain ⟨z1, z2, z3⟩ := hx
        have HB4 := Aside0.mk hB
        have hok : OkS st := HF.out.ok (by omega)
        by_cases h4 : x.f0.tmod 10 = 4
        · have e4 : (x.f0.tmod 10 == 4) = true := beq_iff_eq.2 h4
          have hact : actS st x = (syncS st x.f1).2 := by unfold actS; rw [if_pos h4]
          have HM := Aside0.mk (sync_calls hA hok (s := x.f1) (by omega))
          clear hA hB hok HA HB h4
          go_wp2_with fail
          refine HM.out.mono ?_
          rintro e w5 ⟨rfl, hA, hB⟩
          rw [← hact] at hA
          have HA5 := Aside0.mk hA
          have HB5 := Aside0.mk (HB4.out.trans hB)
          clear hA hB HM hact HB4
          go_wp2_with fail
          go_roundw
          case rel => exact ⟨k + 1, actS st x, by first | rfl | rw [ek], by omega, HFA, HLA, HA5, HB5⟩
          case measure => first | (simp [intOf]; omega) | (rw [ek]; simp [intOf]; omega)
        have e4 : (x.f0.tmod 10 == 4) = false := beq_eq_false_iff_ne.2 h4
        by_cases h5 : x.f0.tmod 10 = 5
        · have e5 : (x.f0.tmod 10 == 5) = true := beq_iff_eq.2 h5
          have hact : actS st x = (truncS st x.f1 x.f4).2 := by unfold actS; rw [if_neg h4, if_pos h5]
          have HM := Aside0.mk (trunc_calls hA hok (s := x.f1) (by omega) x.f4)
          clear hA hB hok HA HB h4 h5
          go_wp2_with fail
          refine HM.out.mono ?_
          rintro e w5 ⟨rfl, hA, hB⟩
          rw [← hact] at hA
          have HA5 := Aside0.mk hA
          have HB5 := Aside0.mk (HB4.out.trans hB)
          clear hA hB HM hact HB4
          go_wp2_with fail
          go_roundw
          case rel => exact ⟨k + 1, actS st x, by first | rfl | rw [ek], by omega, HFA, HLA, HA5, HB5⟩
          case measure => first | (simp [intOf]; omega) | (rw [ek]; simp [intOf]; omega)
        have e5 : (x.f0.tmod 10 == 5) = false := beq_eq_false_iff_ne.2 h5
        by_cases h6 : x.f0.tmod 10 = 6
        · have e6 : (x.f0.tmod 10 == 6) = true := beq_iff_eq.2 h6
          have hact : actS st x = (renameS st x.f1 x.f2).2 := by unfold actS; rw [if_neg h4, if_neg h5, if_pos h6]
          have HM := Aside0.mk (rename_calls hA hok (s := x.f1) (m := x.f2) (by omega) (by omega))
          clear hA hB hok HA HB h4 h5 h6
          go_wp2_with fail
          refine HM.out.mono ?_
          rintro e w5 ⟨rfl, hA, hB⟩
          rw [← hact] at hA
          have HA5 := Aside0.mk hA
          have HB5 := Aside0.mk (HB4.out.trans hB)
          clear hA hB HM hact HB4
          go_wp2_with fail
          go_roundw
          case rel => exact ⟨k + 1, actS st x, by first | rfl | rw [ek], by omega, HFA, HLA, HA5, HB5⟩
          case measure => first | (simp [intOf]; omega) | (rw [ek]; simp [intOf]; omega)
        have e6 : (x.f0.tmod 10 == 6) = false := beq_eq_false_iff_ne.2 h6
        by_cases h7 : x.f0.tmod 10 = 7
        · have e7 : (x.f0.tmod 10 == 7) = true := beq_iff_eq.2 h7
          have hact : actS st x = (removeS st x.f1).2 := by unfold actS; rw [if_neg h4, if_neg h5, if_neg h6, if_pos h7]
          have HM := Aside0.mk (remove_calls hA hok (s := x.f1) (by omega))
          clear hA hB hok HA HB h4 h5 h6 h7
          go_wp2_with fail
          refine HM.out.mono ?_
          rintro e w5 ⟨rfl, hA, hB⟩
          rw [← hact] at hA
          have HA5 := Aside0.mk hA
          have HB5 := Aside0.mk (HB4.out.trans hB)
          clear hA hB HM hact HB4
          go_wp2_with fail
          go_roundw
          case rel => exact ⟨k + 1, actS st x, by first | rfl | rw [ek], by omega, HFA, HLA, HA5, HB5⟩
          case measure => first | (simp [intOf]; omega) | (rw [ek]; simp [intOf]; omega)
        have e7 : (x.f0.tmod 10 == 7) = false := beq_eq_false_iff_ne.2 h7
        by_cases h8 : x.f0.tmod 10 = 8
        · have e8 : (x.f0.tmod 10 == 8) = true := beq_iff_eq.2 h8
          have hact : actS st x = st := by unfold actS; rw [if_neg h4, if_neg h5, if_neg h6, if_neg h7, if_pos (Or.inl h8)]
          rw [← hact] at hA
          have HA5 := Aside0.mk hA
          clear hA hB hok HA HB hact h4 h5 h6 h7 h8
          go_wp2_with fail
          go_roundw
          case rel => exact ⟨k + 1, actS st x, by first | rfl | rw [ek], by omega, HFA, HLA, HA5, HB4⟩
          case measure => first | (simp [intOf]; omega) | (rw [ek]; simp [intOf]; omega)
        have e8 : (x.f0.tmod 10 == 8) = false := beq_eq_false_iff_ne.2 h8
        by_cases h9 : x.f0.tmod 10 = 9
        · have e9 : (x.f0.tmod 10 == 9) = true := beq_iff_eq.2 h9
          have hact : actS st x = st := by unfold actS; rw [if_neg h4, if_neg h5, if_neg h6, if_neg h7, if_pos (Or.inr h9)]
          rw [← hact] at hA
          have HA5 := Aside0.mk hA
          clear hA hB hok HA HB hact h4 h5 h6 h7 h8 h9
          go_wp2_with fail
          go_roundw
          case rel => exact ⟨k + 1, actS st x, by first | rfl | rw [ek], by omega, HFA, HLA, HA5, HB4⟩
          case measure => first | (simp [intOf]; omega) | (rw [ek]; simp [intOf]; omega)
        have e9 : (x.f0.tmod 10 == 9) = false := beq_eq_false_iff_ne.2 h9
        have hact : actS st x = (appendS st x.f1 x.f3).2 := by unfold actS; rw [if_neg h4, if_neg h5, if_neg h6, if_neg h7, if_neg (fun q => q.elim h8 h9)]
        have HM := Aside0.mk (append_calls hA hok (s := x.f1) (by omega) (c2 := c3) (Kd.C_below g3 (by exact (Below.refl _ wr).alloc (Nat.le_refl _) _)) (by omega))
        clear hA hB hok HA HB h4 h5 h6 h7 h8 h9
        go_wp2_with fail
        refine HM.out.mono ?_
        rintro e w5 ⟨rfl, hA, hB⟩
        rw [← hact] at hA
        have HA5 := Aside0.mk hA
        have HB5 := Aside0.mk (HB4.out.trans hB)
        clear hA hB HM hact HB4
        go_wp2_with fail
        go_roundw
        case rel => exact ⟨k + 1, actS st x, by first | rfl | rw [ek], by omega, HFA, HLA, HA5, HB5⟩
        case measure => first | (simp [intOf]; omega) | (rw [ek]; simp [intOf]; omega)
      · have d1 : decide ((k : Int) < (l0.length : Int)) = false := decide_eq_false (by omega)
        have HF : Aside0 (Fine st 100) := ⟨HF.out.more (by omega)⟩
        have HNM := Aside0.mk (names_calls HA.out (HF.out.ok (by omega)))
        have hnl : (namesL st).length = st.L.length := by unfold namesL; rw [List.length_map]
        have hn64 : st.L.length ≤ 64 := HF.out.n
        go_wp2_with fail
        refine HNM.out.mono ?_
        rintro e w3 ⟨v, rfl, hR, hb⟩
        obtain ⟨An, cn, rfl, -, -⟩ := Kd.R_reads hR
        have HA3 : Aside0 (Has W.heap.size w3 (stoT p st :: rowT kH 23 (.slice none 0 0) [] :: rowT kI 3 (.slice none 0 0) [] :: rowS (.slice An (namesL st).length cn) (namesL st) :: [])) := ⟨(((HA.out.row hb hR).row (Below.refl _ _) (Kd.R_nil kI 3 _ _ _)).row (Below.refl _ _) (Kd.R_nil kH 23 _ _ _)).perm (List.perm_append_comm (l₁ := [_, _, _]) (l₂ := [_]))⟩
        have HB3 := Aside0.mk (HB.out.trans (hb.mono HA.out.size))
        clear hR hb HNM HA HB
        generalize hns : namesL st = ns at HA3 hnl
        have HNS := Aside0.mk hns
        clear hns
        rw [hnl] at HA3 ⊢
        go_wp2_with fail
        go_loopw [11, 9, 10] (fun i u s wr => ∃ (k : Nat) (hs : List Hd) (Rs : List Th), i = .int .i64 k ∧ k ≤ st.L.length ∧ Aside0 (WasOk (fB st.L) hs Rs k) ∧ Aside0 (Has W.heap.size wr (stoT p st :: rowT kH 23 u hs :: rowT kI 3 s ((fS st.L).take k) :: rowS (.slice An st.L.length cn) ns :: Rs)) ∧ Aside0 (Below W.heap.size W wr)) (fun i _ _ _ => st.L.length - (intOf i).toNat)
        case atStart => exact ⟨0, [], [], rfl, by omega, ⟨was_none _ _⟩, HA3, HB3⟩
        case round =>
          clear HA3 HB3
          obtain ⟨k, hs, Rs, rfl, hk, HWS, HA, HB⟩ := hrel
          by_cases hlt : k < st.L.length
          · have d1 : decide ((k : Int) < (st.L.length : Int)) = true := decide_eq_true (by omega)
            have d2 : decide (0 ≤ (k : Int)) = true := decide_eq_true (by omega)
            have ek : wrap64 ((k : Int) + 1) = ((k + 1 : Nat) : Int) := wrap_nat (by omega)
            obtain ⟨_, _, ev, -, hCn⟩ := HA.out.reads (d := Kd.string) (e := 9) (v := .slice An st.L.length cn) (xs := ns) (by simp)
            obtain ⟨rfl, -, rfl⟩ : An = _ ∧ _ ∧ cn = _ := by injection ev with e1 e2 e3; exact ⟨e1, e2, e3⟩
            obtain ⟨adn, rfl, hcell⟩ := at_S hCn k (by omega)
            have hnk : ns[k]'(by omega) = (st.L[k]).f0 := by
              have := HNS.out
              subst this
              simp [namesL]
            obtain ⟨ht1, ht2⟩ := told_at HL.out HF.out.rise hlt hnk
            have hfb : fB st.L k = (st.L[k]).f1 := fB_at hlt
            have hss : (fS st.L).take (k + 1) = (fS st.L).take k ++ [(st.L[k]).f2] := by
              rw [List.take_succ_eq_append_getElem (by unfold fS; rw [List.length_map]; exact hlt)]
              simp [fS]
            have hsz : (ns[k]'(by omega)).size ≤ 32 := by rw [hnk]; exact (HF.out.safe _ (List.getElem_mem hlt)).2.2
            generalize hnks : ns[k]'(by omega) = s at hcell hnk ht1 ht2 hsz
            generalize st.L[k] = x at hnk ht2 hfb hss
            have HRD := Aside0.mk (read_calls HA.out HF.out.rise (HF.out.ok (by omega)) (s := s) (by omega))
            unfold ReadPost at HRD
            rw [ht1, ht2] at HRD
            have HSZ : Aside0 (s.size ≤ 9223372036854775807) := ⟨by omega⟩
            have HT : Aside0 (toldE st s = 0 ∧ toldX st s = x) := ⟨ht1, ht2⟩
            have HFB : Aside0 (fB st.L k = x.f1 ∧ (fS st.L).take (k + 1) = (fS st.L).take k ++ [x.f2]) := ⟨hfb, hss⟩
            clear ev hCn HA hnk hsz ht1 ht2 hfb hss
            have HNK := Aside0.mk hnks
            clear hnks
            go_wp2_with fail
            refine HRD.out.mono ?_
            rintro e w4 ⟨v, rfl, hA, hB⟩
            obtain ⟨Av, cv, rfl, -, -⟩ := hA.reads (d := kB) (e := 5) (v := v) (xs := x.f1) (by simp)
            obtain ⟨_, _, ev, -, hCn⟩ := hA.reads (d := Kd.string) (e := 9) (v := .slice (some adn) st.L.length cn) (xs := ns) (by simp)
            obtain ⟨rfl, -, rfl⟩ : some adn = _ ∧ _ ∧ cn = _ := by injection ev with e1 e2 e3; exact ⟨e1, e2, e3⟩
            obtain ⟨ad2, e2, hcell2⟩ := at_S hCn k (by omega)
            cases e2
            have hnk2 : ns[k]'(by omega) = s := HNK.out
            rw [hnk2] at hcell2
            have HSY := Aside0.mk (synced_calls hA HF.out.rise (HF.out.ok (by omega)) (s := s) HSZ.out)
            rw [HT.out.1, HT.out.2] at HSY
            have HB4 := Aside0.mk (HB.out.trans hB)
            clear hA hB HRD hCn hnk2 HB hcell ev
            go_wp2_with fail
            refine HSY.out.mono ?_
            rintro e w5 ⟨rfl, hA, hB⟩
            have HA5 := Aside0.mk hA
            have HB5 := Aside0.mk (HB4.out.trans hB)
            clear hA hB HSY HB4 hcell2
            go_wp2_with (first | (refine app_rows kH (HA5.out.third.alloc (.cells #[.slice Av x.f1.length cv] 23)) rfl _ _ 22 (.slice none 0 0) 24 rfl Try.underlying22 inf23 rfl (by decide) (by decide) (some ⟨w5.heap.size, 0, none⟩) 1 rfl rfl (lit_H w5 (Av, x.f1.length, cv)) (fun x cs hx => hx) (by rw [HWS.out.1]; show (k + 1) * 24 ≤ 140737488355328; omega) ?_; rintro v7 w7 hA7 hB7; have HA7 := Aside0.mk (hA7.perm ((List.perm_append_comm (l₁ := [_, _, _]) (l₂ := [_])).append_right _)); have HB7 := Aside0.mk ((HB5.out.alloc HA5.out.size (.cells #[.slice Av x.f1.length cv] 23)).trans hB7); clear hA7 hB7) | (refine app_rows kI (HA7.out.alloc (.cells #[.int .i64 x.f2] 3)) rfl _ _ 43 (.int .i64 0) 8 rfl Try.underlying43 inf3 rfl (by decide) (by decide) (some ⟨w7.heap.size, 0, none⟩) 1 rfl rfl (lit_I w7 [x.f2] (show 1 ≤ 9223372036854775807 by omega)) (fun x cs hx => hx) (by rw [List.length_take]; show (min k _ + 1) * 8 ≤ 140737488355328; omega) ?_; rintro v8 w8 hA8 hB8; have HA8 := Aside0.mk (hA8.perm (List.Perm.append (List.reverse_perm [_, _, _]).symm (List.Perm.swap _ _ _))); have HB8 := Aside0.mk ((HB7.out.alloc HA7.out.size (.cells #[.int .i64 x.f2] 3)).trans hB8); clear hA8 hB8))
            go_roundw
            case rel => exact ⟨k + 1, _, _, by first | rfl | rw [ek], by omega, ⟨by have := HWS.out.push (Rs' := rowB (.slice Av x.f1.length cv) x.f1 :: Rs) (fun T hT => List.mem_cons_of_mem _ hT) (A := Av) (c := cv) (by rw [HFB.out.1]; exact List.mem_cons_self ..); rw [HFB.out.1] at this; exact this⟩, ⟨by rw [HFB.out.2]; exact HA8.out⟩, HB8⟩
            case measure => first | (simp [intOf]; omega) | (rw [ek]; simp [intOf]; omega)
          · have d1 : decide ((k : Int) < (st.L.length : Int)) = false := decide_eq_false (by omega)
            obtain rfl : k = st.L.length := by omega
            have hfl : (fS st.L).length = st.L.length := by unfold fS; rw [List.length_map]
            rw [List.take_of_length_le (by rw [hfl]; exact Nat.le_refl _)] at HA
            obtain ⟨Aw, cw, rfl, -, -⟩ := HA.out.reads (d := kH) (e := 23) (v := u9) (xs := hs) (by simp)
            obtain ⟨As, cs, rfl, -, -⟩ := HA.out.reads (d := kI) (e := 3) (v := u10) (xs := fS st.L) (by simp)
            rw [HWS.out.1] at HA ⊢
            rw [hfl] at HA ⊢
            have HA9 : Aside0 (Has W.heap.size wr (stoT p (tS st l1 0) :: rowT kH 23 (.slice Aw st.L.length cw) hs :: rowT kI 3 (.slice As st.L.length cs) (fS st.L) :: rowS (.slice An st.L.length cn) ns :: Rs)) := ⟨HA.out⟩
            have HW9 : Aside0 (WasOk (fB (tS st l1 0).L) hs Rs st.L.length) := ⟨HWS.out⟩
            have HB9 := HB
            clear HA HWS HB hk hlt
            go_wp2_with fail
            go_loopw [16] (fun i wr => ∃ (t : Nat) (hs : List Hd) (Rs : List Th), i = .int .i64 t ∧ t ≤ 2 ∧ Aside0 (WasOk (fB (tS st l1 t).L) hs Rs st.L.length) ∧ Aside0 (Has W.heap.size wr (stoT p (tS st l1 t) :: rowT kH 23 (.slice Aw st.L.length cw) hs :: rowT kI 3 (.slice As st.L.length cs) (fS st.L) :: rowS (.slice An st.L.length cn) ns :: Rs)) ∧ Aside0 (Below W.heap.size W wr)) (fun i _ => 2 - (intOf i).toNat)
            case atStart => exact ⟨0, hs, Rs, rfl, by omega, HW9, HA9, HB9⟩
            case round =>
              clear HA9 HW9 HB9
              obtain ⟨t, hs, Rs, rfl, ht, HWS, HA, HB⟩ := hrel
              by_cases hlt2 : t < 2
              · have d3 : decide ((t : Int) < 2) = true := decide_eq_true (by omega)
                have et : wrap64 ((t : Int) + 1) = ((t + 1 : Nat) : Int) := wrap_nat (by omega)
                have HFT : Aside0 (Fine (tS st l1 t) 100) := ⟨tS_fine HF.out l1 t⟩
                have HF1 : Aside0 (Fine (crashS st l1) 100) := ⟨fine_crash HF.out l1⟩
                have HCR := Aside0.mk (crash_calls HA.out (HFT.out.ok (by omega)) HFT.out.rise HFT.out.safe (keep := l1) (Ak := A1) (ck := c1) (fun w' _ hb => Kd.C_below HK.out (HB.out.trans hb)))
                rw [tS_crash HF.out.safe] at HCR
                go_wp2_with fail
                refine HCR.out.mono ?_
                rintro e w4 ⟨rfl, hA, hB⟩
                have HA4 := Aside0.mk hA
                have HNM := Aside0.mk (names_calls hA (HF1.out.ok (by omega)))
                rw [names_same, HNS.out] at HNM
                have HB4 := Aside0.mk (HB.out.trans hB)
                clear hA hB HCR HA HB
                go_wp2_with fail
                refine HNM.out.mono ?_
                rintro e w5 ⟨v, rfl, hR, hb⟩
                obtain ⟨A2, c2, rfl, -, -⟩ := Kd.R_reads hR
                have HA5 := Aside0.mk (HA4.out.row hb hR).swap
                have HB5 := Aside0.mk (HB4.out.trans (hb.mono HA4.out.size))
                clear hR hb HNM HA4 HB4
                rw [hnl] at HA5 ⊢
                have HW5 : Aside0 (WasOk (mixF (crashS st l1).L (tS st l1 t).L 0) hs Rs st.L.length) := ⟨HWS.out.as fun j hj => by unfold mixF; rw [if_neg (Nat.not_lt_zero _)]⟩
                clear HWS
                go_wp2_with fail
                go_loopw [18] (fun i wr => ∃ (j : Nat) (hs : List Hd) (Rs : List Th), i = .int .i64 j ∧ j ≤ st.L.length ∧ Aside0 (WasOk (mixF (crashS st l1).L (tS st l1 t).L j) hs Rs st.L.length) ∧ Aside0 (Has W.heap.size wr (stoT p (crashS st l1) :: rowS (.slice A2 st.L.length c2) ns :: rowT kH 23 (.slice Aw st.L.length cw) hs :: rowT kI 3 (.slice As st.L.length cs) (fS st.L) :: rowS (.slice An st.L.length cn) ns :: Rs)) ∧ Aside0 (Below W.heap.size W wr)) (fun i _ => st.L.length - (intOf i).toNat)
                case atStart => exact ⟨0, hs, Rs, rfl, by omega, HW5, HA5, HB5⟩
                case round =>
                  clear HA5 HW5 HB5
                  obtain ⟨j, hs, Rs, rfl, hj, HWS, HA, HB⟩ := hrel
                  by_cases hlt3 : j < st.L.length
                  · have d4 : decide ((j : Int) < (st.L.length : Int)) = true := decide_eq_true (by omega)
                    have d5 : decide (0 ≤ (j : Int)) = true := decide_eq_true (by omega)
                    have ej : wrap64 ((j : Int) + 1) = ((j + 1 : Nat) : Int) := wrap_nat (by omega)
                    have hjn : j < ns.length := by rw [hnl]; exact hlt3
                    have hj1 : j < (crashS st l1).L.length := by show j < (crashF l1 0 st.L).length; rw [crash_length]; exact hlt3
                    obtain ⟨tn, ta, tf, tb, tt⟩ := turn_at HF.out.safe t hlt3 hj1
                    have hnj : ns[j]'hjn = (st.L[j]).f0 := by
                      have := HNS.out
                      subst this
                      simp [namesL]
                    obtain ⟨ht1, ht2⟩ := told_at (show (crashS st l1).left = -1 from rfl) HF1.out.rise hj1 (hnj.trans tn.symm)
                    obtain ⟨_, _, ev, -, hCn⟩ := HA.out.reads (d := Kd.string) (e := 9) (v := .slice A2 st.L.length c2) (xs := ns) (by simp)
                    obtain ⟨rfl, -, rfl⟩ : A2 = _ ∧ _ ∧ c2 = _ := by injection ev with e1 e2 e3; exact ⟨e1, e2, e3⟩
                    obtain ⟨ad2, rfl, hcell⟩ := at_S hCn j (by omega)
                    have hsz : (ns[j]'hjn).size ≤ 32 := by rw [hnj]; exact (HF.out.safe _ (List.getElem_mem hlt3)).2.2
                    have hfew : ((crashS st l1).L[j]).f1.length ≤ 1048576 := HF1.out.few _ (List.getElem_mem hj1)
                    have hfew2 : (fB (tS st l1 t).L j).length ≤ 1048576 := by
                      have hjt : j < (tS st l1 t).L.length := by
                        unfold tS
                        split
                        · exact hlt3
                        · exact hj1
                      rw [fB_at hjt]
                      exact HFT.out.few _ (List.getElem_mem hjt)
                    have hfx : fB (crashS st l1).L j = ((crashS st l1).L[j]).f1 := fB_at hj1
                    obtain ⟨A0w, c0w, hat, hin⟩ := HWS.out.2 j hlt3
                    have hmix : mixF (crashS st l1).L (tS st l1 t).L j j = fB (tS st l1 t).L j := by unfold mixF; rw [if_neg (Nat.lt_irrefl j)]
                    rw [hmix] at hat hin
                    have hsj : (fS st.L).getD j 0 = (st.L[j]).f2 := by unfold fS; rw [List.getD_eq_getElem?_getD, List.getElem?_map, List.getElem?_eq_getElem hlt3]; rfl
                    have HMX : Aside0 (mixF (crashS st l1).L (tS st l1 t).L (j + 1) j = ((crashS st l1).L[j]).f1 ∧ ∀ i, i ≠ j → mixF (crashS st l1).L (tS st l1 t).L (j + 1) i = mixF (crashS st l1).L (tS st l1 t).L j i) := ⟨by
                      refine ⟨?_, fun i hi => ?_⟩
                      · unfold mixF
                        rw [if_pos (Nat.lt_succ_self j), hfx]
                      · unfold mixF
                        by_cases q : i < j
                        · rw [if_pos q, if_pos (by omega)]
                        · rw [if_neg q, if_neg (by omega)]⟩
                    generalize hnks : ns[j]'hjn = s at hcell hnj ht1 ht2 hsz
                    generalize (crashS st l1).L[j] = x1 at tn ta tf tb tt ht2 hfew hfx HMX
                    generalize (st.L[j]).f2 = y0 at tf hsj
                    generalize fB (tS st l1 t).L j = zs at tb tt hat hin hfew2
                    have HSZ : Aside0 (s.size ≤ 9223372036854775807) := ⟨by omega⟩
                    have HT : Aside0 (toldE (crashS st l1) s = 0 ∧ toldX (crashS st l1) s = x1) := ⟨ht1, ht2⟩
                    have HTT : Aside0 (x1.f2 = (x1.f1.length : Int) ∧ y0 ≤ (x1.f1.length : Int) ∧ x1.f1 = zs.take x1.f1.length ∧ (t ≠ 0 → zs = x1.f1) ∧ zs.length ≤ 100000000 ∧ (fS st.L).getD j 0 = y0) := ⟨ta, tf, tb, tt, by omega, hsj⟩
                    have HAT : Aside0 (hs[j]? = some (A0w, zs.length, c0w)) := ⟨hat⟩
                    have HIN : Aside0 (rowB (.slice A0w zs.length c0w) zs ∈ Rs) := ⟨hin⟩
                    have HNK := Aside0.mk hnks
                    have HRD := Aside0.mk (read_calls HA.out HF1.out.rise (HF1.out.ok (by omega)) (s := s) HSZ.out)
                    unfold ReadPost at HRD
                    rw [ht1, ht2] at HRD
                    clear ev hCn HA hnj hsz ht1 ht2 tn ta tf tb tt hfx hfew hfew2 hat hin hsj hmix hnks hj1
                    go_wp2_with fail
                    refine HRD.out.mono ?_
                    rintro e w6 ⟨v, rfl, hA, hB⟩
                    obtain ⟨Av, cv, rfl, -, -⟩ := hA.reads (d := kB) (e := 5) (v := v) (xs := x1.f1) (by simp)
                    obtain ⟨_, _, ev, -, hCn⟩ := hA.reads (d := Kd.string) (e := 9) (v := .slice (some ad2) st.L.length c2) (xs := ns) (by simp)
                    obtain ⟨rfl, -, rfl⟩ : some ad2 = _ ∧ _ ∧ c2 = _ := by injection ev with e1 e2 e3; exact ⟨e1, e2, e3⟩
                    obtain ⟨_, e2, hcell2⟩ := at_S hCn j (by omega)
                    cases e2
                    rw [HNK.out] at hcell2
                    have HSY := Aside0.mk (synced_calls hA HF1.out.rise (HF1.out.ok (by omega)) (s := s) HSZ.out)
                    rw [HT.out.1, HT.out.2, HTT.out.1] at HSY
                    have HB6 := Aside0.mk (HB.out.trans hB)
                    clear hA hB HRD hCn ev HB hcell
                    go_wp2_with fail
                    refine HSY.out.mono ?_
                    rintro e w7 ⟨rfl, hA, hB⟩
                    have HA7 := Aside0.mk hA
                    have HB7 := Aside0.mk (HB6.out.trans hB)
                    clear hA hB HSY HB6 hcell2
                    obtain ⟨_, _, ev, -, hCn⟩ := HA7.out.reads (d := Kd.string) (e := 9) (v := .slice (some ad2) st.L.length c2) (xs := ns) (by simp)
                    obtain ⟨rfl, -, rfl⟩ : some ad2 = _ ∧ _ ∧ c2 = _ := by injection ev with e1 e2 e3; exact ⟨e1, e2, e3⟩
                    obtain ⟨_, e2, k1⟩ := at_S hCn j (by omega)
                    cases e2
                    rw [HNK.out] at k1
                    clear ev hCn
                    obtain ⟨_, _, ev, -, hCn⟩ := HA7.out.reads (d := Kd.string) (e := 9) (v := .slice An st.L.length cn) (xs := ns) (by simp)
                    obtain ⟨rfl, -, rfl⟩ : An = _ ∧ _ ∧ cn = _ := by injection ev with e1 e2 e3; exact ⟨e1, e2, e3⟩
                    obtain ⟨adn, rfl, k2⟩ := at_S hCn j (by omega)
                    rw [HNK.out] at k2
                    clear ev hCn
                    obtain ⟨_, _, ev, -, hCn⟩ := HA7.out.reads (d := kI) (e := 3) (v := .slice As st.L.length cs) (xs := fS st.L) (by simp)
                    obtain ⟨rfl, -, rfl⟩ : As = _ ∧ _ ∧ cs = _ := by injection ev with e1 e2 e3; exact ⟨e1, e2, e3⟩
                    obtain ⟨ads, rfl, k3⟩ := at_I hCn j (by omega)
                    rw [HTT.out.2.2.2.2.2] at k3
                    have k3' : w7.cell? (ads.add j) = some (.int .i64 y0) := k3
                    clear ev hCn k3
                    obtain ⟨_, _, ev, -, hCn⟩ := HA7.out.reads (d := kH) (e := 23) (v := .slice Aw st.L.length cw) (xs := hs) (by simp)
                    obtain ⟨rfl, -, rfl⟩ : Aw = _ ∧ _ ∧ cw = _ := by injection ev with e1 e2 e3; exact ⟨e1, e2, e3⟩
                    obtain ⟨adw, rfl, k4⟩ := at_H hCn j HAT.out
                    have k4' : w7.cell? (adw.add j) = some (.slice A0w zs.length c0w) := k4
                    clear ev hCn k4
                    obtain ⟨_, _, ev, hb1, hCb⟩ := HA7.out.reads (d := kB) (e := 5) (v := .slice Av x1.f1.length cv) (xs := x1.f1) (by simp)
                    obtain ⟨rfl, -, rfl⟩ : Av = _ ∧ _ ∧ cv = _ := by injection ev with e1 e2 e3; exact ⟨e1, e2, e3⟩
                    clear ev
                    obtain ⟨_, _, ev, hb0, hC0⟩ := HA7.out.reads (d := kB) (e := 5) (v := .slice A0w zs.length c0w) (xs := zs) (by simp [HIN.out])
                    obtain ⟨rfl, -, rfl⟩ : A0w = _ ∧ _ ∧ c0w = _ := by injection ev with e1 e2 e3; exact ⟨e1, e2, e3⟩
                    have HBG := Aside0.mk (begins_calls (Kd.C_drew hC0) hb0 (Kd.C_drew hCb) (c1 := cv) HTT.out.2.2.1 HTT.out.2.2.2.2.1)
                    clear ev hC0 hCb
                    have d6 : decide ((x1.f1.length : Int) < y0) = false := decide_eq_false (by have := HTT.out.2.1; omega)
                    have d7 : ¬ (x1.f1.length : Int) < y0 := by have := HTT.out.2.1; omega
                    go_wp2_with fail
                    refine start_ (n := 41) (S := fun w' => w'.cell? (ad2.add j) = some (.string s) ∧ w'.cell? (adn.add j) = some (.string s) ∧ w'.cell? (ads.add j) = some (.int .i64 y0) ∧ w'.cell? (adw.add j) = some (.slice A0w zs.length c0w)) (ds := []) #[false, false, false, false, false, false, false, false, false, false, false, false, false, false, false, false, false, false, false, false, false, false, false, false, false, false, false, false, false, false, false, false, false, false, false, false, false, false, false, false, false] (by kernel_rfl) rfl rfl ⟨k1, k2, k3', k4'⟩ (fun hHeld => ?_)
                    refine pure_ (i := 0) (N := some 155) (v := ?_) (a' := ?_) #[true, false, false, false, false, false, false, false, false, false, false, false, false, false, false, false, false, false, false, false, false, false, false, false, false, false, false, false, false, false, false, false, false, false, false, false, false, false, false, false, false] rfl rfl (by kernel_rfl) (fun _ _ _ h => h) (Or.inl ⟨by rfl, ?_⟩) ?_ ?_
                    rotate_left
                    · intro w'
                      go_simp
                      with_reducible rfl
                    rotate_left
                    · simp only [Act.put, List.setIfInBounds_toArray, List.set_cons_zero, List.set_cons_succ, i64_w, i32_w]
                      rfl
                    refine pure_ (i := 1) (N := some 156) (v := ?_) (a' := ?_) #[true, true, false, false, false, false, false, false, false, false, false, false, false, false, false, false, false, false, false, false, false, false, false, false, false, false, false, false, false, false, false, false, false, false, false, false, false, false, false, false, false] rfl rfl (by kernel_rfl) (fun _ _ _ h => h) (Or.inl ⟨by rfl, ?_⟩) ?_ ?_
                    rotate_left
                    · intro w'
                      go_simp
                      with_reducible rfl
                    rotate_left
                    · simp only [Act.put, List.setIfInBounds_toArray, List.set_cons_zero, List.set_cons_succ, i64_w, i32_w]
                      rfl
                    refine pure_ (i := 2) (N := some 157) (v := ?_) (a' := ?_) #[true, true, true, false, false, false, false, false, false, false, false, false, false, false, false, false, false, false, false, false, false, false, false, false, false, false, false, false, false, false, false, false, false, false, false, false, false, false, false, false, false] rfl rfl (by kernel_rfl) (fun _ _ _ h => h) (Or.inl ⟨by rfl, ?_⟩) ?_ ?_
                    rotate_left
                    · intro w'
                      go_simp
                      with_reducible rfl
                    rotate_left
                    · simp only [Act.put, List.setIfInBounds_toArray, List.set_cons_zero, List.set_cons_succ, i64_w, i32_w]
                      rfl
                    refine pure_ (i := 4) (N := some 159) (v := ?_) (a' := ?_) #[true, true, true, false, true, false, false, false, false, false, false, false, false, false, false, false, false, false, false, false, false, false, false, false, false, false, false, false, false, false, false, false, false, false, false, false, false, false, false, false, false] rfl rfl (by kernel_rfl) (fun _ _ _ h => h) (Or.inl ⟨by rfl, ?_⟩) ?_ ?_
                    rotate_left
                    · intro w'
                      go_simp
                      with_reducible rfl
                    rotate_left
                    · simp only [Act.put, List.setIfInBounds_toArray, List.set_cons_zero, List.set_cons_succ, i64_w, i32_w]
                      rfl
                    refine pure_ (i := 5) (N := some 160) (v := ?_) (a' := ?_) #[true, true, true, false, true, true, false, false, false, false, false, false, false, false, false, false, false, false, false, false, false, false, false, false, false, false, false, false, false, false, false, false, false, false, false, false, false, false, false, false, false] rfl rfl (by kernel_rfl) (fun _ _ _ h => h) (Or.inl ⟨by rfl, ?_⟩) ?_ ?_
                    rotate_left
                    · intro w'
                      go_simp
                      with_reducible rfl
                    rotate_left
                    · simp only [Act.put, List.setIfInBounds_toArray, List.set_cons_zero, List.set_cons_succ, i64_w, i32_w]
                      rfl
                    refine pure_ (i := 6) (N := some 161) (v := ?_) (a' := ?_) #[true, true, true, false, true, true, true, false, false, false, false, false, false, false, false, false, false, false, false, false, false, false, false, false, false, false, false, false, false, false, false, false, false, false, false, false, false, false, false, false, false] rfl rfl (by kernel_rfl) (fun _ _ _ h => h) (Or.inl ⟨by rfl, ?_⟩) ?_ ?_
                    rotate_left
                    · intro w'
                      go_simp
                      with_reducible rfl
                    rotate_left
                    · simp only [Act.put, List.setIfInBounds_toArray, List.set_cons_zero, List.set_cons_succ, i64_w, i32_w]
                      rfl
                    refine take_ (i := 3) (N := some 158) (v := ?_) (a' := ?_) #[true, true, true, true, true, true, true, false, false, false, false, false, false, false, false, false, false, false, false, false, false, false, false, false, false, false, false, false, false, false, false, false, false, false, false, false, false, false, false, false, false] rfl rfl (by kernel_rfl) (fun _ _ _ h => h) (Or.inl ⟨by rfl, ?_⟩) hHeld ?_ ?_
                    rotate_left
                    · rintro w' ⟨s0, s1, s2, s3⟩
                      go_simp
                      with_reducible rfl
                    rotate_left
                    · simp only [Act.put, List.setIfInBounds_toArray, List.set_cons_zero, List.set_cons_succ, i64_w, i32_w]
                      rfl
                    refine take_ (i := 7) (N := some 162) (v := ?_) (a' := ?_) #[true, true, true, true, true, true, true, true, false, false, false, false, false, false, false, false, false, false, false, false, false, false, false, false, false, false, false, false, false, false, false, false, false, false, false, false, false, false, false, false, false] rfl rfl (by kernel_rfl) (fun _ _ _ h => h) (Or.inl ⟨by rfl, ?_⟩) hHeld ?_ ?_
                    rotate_left
                    · rintro w' ⟨s0, s1, s2, s3⟩
                      go_simp
                      with_reducible rfl
                    rotate_left
                    · simp only [Act.put, List.setIfInBounds_toArray, List.set_cons_zero, List.set_cons_succ, i64_w, i32_w]
                      rfl
                    refine pure_ (i := 8) (N := some 163) (v := ?_) (a' := ?_) #[true, true, true, true, true, true, true, true, true, false, false, false, false, false, false, false, false, false, false, false, false, false, false, false, false, false, false, false, false, false, false, false, false, false, false, false, false, false, false, false, false] rfl rfl (by kernel_rfl) (fun _ _ _ h => h) (Or.inl ⟨by rfl, ?_⟩) ?_ ?_
                    rotate_left
                    · intro w'
                      go_simp
                      with_reducible rfl
                    rotate_left
                    · simp only [Act.put, List.setIfInBounds_toArray, List.set_cons_zero, List.set_cons_succ, i64_w, i32_w]
                      rfl
                    refine pure_ (i := 9) (N := some 164) (v := ?_) (a' := ?_) #[true, true, true, true, true, true, true, true, true, true, false, false, false, false, false, false, false, false, false, false, false, false, false, false, false, false, false, false, false, false, false, false, false, false, false, false, false, false, false, false, false] rfl rfl (by kernel_rfl) (fun _ _ _ h => h) (Or.inl ⟨by rfl, ?_⟩) ?_ ?_
                    rotate_left
                    · intro w'
                      go_simp
                      with_reducible rfl
                    rotate_left
                    · simp only [Act.put, List.setIfInBounds_toArray, List.set_cons_zero, List.set_cons_succ, i64_w, i32_w]
                      rfl
                    refine pure_ (i := 10) (N := some 165) (v := ?_) (a' := ?_) #[true, true, true, true, true, true, true, true, true, true, true, false, false, false, false, false, false, false, false, false, false, false, false, false, false, false, false, false, false, false, false, false, false, false, false, false, false, false, false, false, false] rfl rfl (by kernel_rfl) (fun _ _ _ h => h) (Or.inl ⟨by rfl, ?_⟩) ?_ ?_
                    rotate_left
                    · intro w'
                      go_simp
                      with_reducible rfl
                    rotate_left
                    · simp only [Act.put, List.setIfInBounds_toArray, List.set_cons_zero, List.set_cons_succ, i64_w, i32_w]
                      rfl
                    refine pure_ (i := 11) (N := some 166) (v := ?_) (a' := ?_) #[true, true, true, true, true, true, true, true, true, true, true, true, false, false, false, false, false, false, false, false, false, false, false, false, false, false, false, false, false, false, false, false, false, false, false, false, false, false, false, false, false] rfl rfl (by kernel_rfl) (fun _ _ _ h => h) (Or.inl ⟨by rfl, ?_⟩) ?_ ?_
                    rotate_left
                    · intro w'
                      go_simp
                      with_reducible rfl
                    rotate_left
                    · simp only [Act.put, List.setIfInBounds_toArray, List.set_cons_zero, List.set_cons_succ, i64_w, i32_w]
                      rfl
                    refine pure_ (i := 12) (N := some 167) (v := ?_) (a' := ?_) #[true, true, true, true, true, true, true, true, true, true, true, true, true, false, false, false, false, false, false, false, false, false, false, false, false, false, false, false, false, false, false, false, false, false, false, false, false, false, false, false, false] rfl rfl (by kernel_rfl) (fun _ _ _ h => h) (Or.inl ⟨by rfl, ?_⟩) ?_ ?_
                    rotate_left
                    · intro w'
                      go_simp
                      with_reducible rfl
                    rotate_left
                    · simp only [Act.put, List.setIfInBounds_toArray, List.set_cons_zero, List.set_cons_succ, i64_w, i32_w]
                      rfl
                    refine pure_ (i := 13) (N := some 168) (v := ?_) (a' := ?_) #[true, true, true, true, true, true, true, true, true, true, true, true, true, true, false, false, false, false, false, false, false, false, false, false, false, false, false, false, false, false, false, false, false, false, false, false, false, false, false, false, false] rfl rfl (by kernel_rfl) (fun _ _ _ h => h) (Or.inl ⟨by rfl, ?_⟩) ?_ ?_
                    rotate_left
                    · intro w'
                      go_simp
                      with_reducible rfl
                    rotate_left
                    · simp only [Act.put, List.setIfInBounds_toArray, List.set_cons_zero, List.set_cons_succ, i64_w, i32_w]
                      rfl
                    refine pure_ (i := 14) (N := some 169) (v := ?_) (a' := ?_) #[true, true, true, true, true, true, true, true, true, true, true, true, true, true, true, false, false, false, false, false, false, false, false, false, false, false, false, false, false, false, false, false, false, false, false, false, false, false, false, false, false] rfl rfl (by kernel_rfl) (fun _ _ _ h => h) (Or.inl ⟨by rfl, ?_⟩) ?_ ?_
                    rotate_left
                    · intro w'
                      go_simp
                      with_reducible rfl
                    rotate_left
                    · simp only [Act.put, List.setIfInBounds_toArray, List.set_cons_zero, List.set_cons_succ, i64_w, i32_w]
                      rfl
                    refine pure_ (i := 15) (N := some 170) (v := ?_) (a' := ?_) #[true, true, true, true, true, true, true, true, true, true, true, true, true, true, true, true, false, false, false, false, false, false, false, false, false, false, false, false, false, false, false, false, false, false, false, false, false, false, false, false, false] rfl rfl (by kernel_rfl) (fun _ _ _ h => h) (Or.inl ⟨by rfl, ?_⟩) ?_ ?_
                    rotate_left
                    · intro w'
                      go_simp
                      with_reducible rfl
                    rotate_left
                    · simp only [Act.put, List.setIfInBounds_toArray, List.set_cons_zero, List.set_cons_succ, i64_w, i32_w]
                      rfl
                    refine pure_ (i := 16) (N := some 171) (v := ?_) (a' := ?_) #[true, true, true, true, true, true, true, true, true, true, true, true, true, true, true, true, true, false, false, false, false, false, false, false, false, false, false, false, false, false, false, false, false, false, false, false, false, false, false, false, false] rfl rfl (by kernel_rfl) (fun _ _ _ h => h) (Or.inl ⟨by rfl, ?_⟩) ?_ ?_
                    rotate_left
                    · intro w'
                      go_simp
                      with_reducible rfl
                    rotate_left
                    · simp only [Act.put, List.setIfInBounds_toArray, List.set_cons_zero, List.set_cons_succ, i64_w, i32_w]
                      rfl
                    refine pure_ (i := 17) (N := some 172) (v := ?_) (a' := ?_) #[true, true, true, true, true, true, true, true, true, true, true, true, true, true, true, true, true, true, false, false, false, false, false, false, false, false, false, false, false, false, false, false, false, false, false, false, false, false, false, false, false] rfl rfl (by kernel_rfl) (fun _ _ _ h => h) (Or.inl ⟨by rfl, ?_⟩) ?_ ?_
                    rotate_left
                    · intro w'
                      go_simp
                      with_reducible rfl
                    rotate_left
                    · simp only [Act.put, List.setIfInBounds_toArray, List.set_cons_zero, List.set_cons_succ, i64_w, i32_w]
                      rfl
                    refine pure_ (i := 18) (N := some 173) (v := ?_) (a' := ?_) #[true, true, true, true, true, true, true, true, true, true, true, true, true, true, true, true, true, true, true, false, false, false, false, false, false, false, false, false, false, false, false, false, false, false, false, false, false, false, false, false, false] rfl rfl (by kernel_rfl) (fun _ _ _ h => h) (Or.inl ⟨by rfl, ?_⟩) ?_ ?_
                    rotate_left
                    · intro w'
                      go_simp
                      with_reducible rfl
                    rotate_left
                    · simp only [Act.put, List.setIfInBounds_toArray, List.set_cons_zero, List.set_cons_succ, i64_w, i32_w]
                      rfl
                    refine pure_ (i := 19) (N := some 174) (v := ?_) (a' := ?_) #[true, true, true, true, true, true, true, true, true, true, true, true, true, true, true, true, true, true, true, true, false, false, false, false, false, false, false, false, false, false, false, false, false, false, false, false, false, false, false, false, false] rfl rfl (by kernel_rfl) (fun _ _ _ h => h) (Or.inl ⟨by rfl, ?_⟩) ?_ ?_
                    rotate_left
                    · intro w'
                      go_simp
                      with_reducible rfl
                    rotate_left
                    · simp only [Act.put, List.setIfInBounds_toArray, List.set_cons_zero, List.set_cons_succ, i64_w, i32_w]
                      rfl
                    refine pure_ (i := 20) (N := some 175) (v := ?_) (a' := ?_) #[true, true, true, true, true, true, true, true, true, true, true, true, true, true, true, true, true, true, true, true, true, false, false, false, false, false, false, false, false, false, false, false, false, false, false, false, false, false, false, false, false] rfl rfl (by kernel_rfl) (fun _ _ _ h => h) (Or.inl ⟨by rfl, ?_⟩) ?_ ?_
                    rotate_left
                    · intro w'
                      go_simp
                      with_reducible rfl
                    rotate_left
                    · simp only [Act.put, List.setIfInBounds_toArray, List.set_cons_zero, List.set_cons_succ, i64_w, i32_w]
                      rfl
                    refine pure_ (i := 21) (N := some 176) (v := ?_) (a' := ?_) #[true, true, true, true, true, true, true, true, true, true, true, true, true, true, true, true, true, true, true, true, true, true, false, false, false, false, false, false, false, false, false, false, false, false, false, false, false, false, false, false, false] rfl rfl (by kernel_rfl) (fun _ _ _ h => h) (Or.inl ⟨by rfl, ?_⟩) ?_ ?_
                    rotate_left
                    · intro w'
                      go_simp
                      with_reducible rfl
                    rotate_left
                    · simp only [Act.put, List.setIfInBounds_toArray, List.set_cons_zero, List.set_cons_succ, i64_w, i32_w]
                      rfl
                    refine pure_ (i := 22) (N := some 177) (v := ?_) (a' := ?_) #[true, true, true, true, true, true, true, true, true, true, true, true, true, true, true, true, true, true, true, true, true, true, true, false, false, false, false, false, false, false, false, false, false, false, false, false, false, false, false, false, false] rfl rfl (by kernel_rfl) (fun _ _ _ h => h) (Or.inl ⟨by rfl, ?_⟩) ?_ ?_
                    rotate_left
                    · intro w'
                      go_simp
                      with_reducible rfl
                    rotate_left
                    · simp only [Act.put, List.setIfInBounds_toArray, List.set_cons_zero, List.set_cons_succ, i64_w, i32_w]
                      rfl
                    refine pure_ (i := 23) (N := some 178) (v := ?_) (a' := ?_) #[true, true, true, true, true, true, true, true, true, true, true, true, true, true, true, true, true, true, true, true, true, true, true, true, false, false, false, false, false, false, false, false, false, false, false, false, false, false, false, false, false] rfl rfl (by kernel_rfl) (fun _ _ _ h => h) (Or.inl ⟨by rfl, ?_⟩) ?_ ?_
                    rotate_left
                    · intro w'
                      go_simp
                      with_reducible rfl
                    rotate_left
                    · simp only [Act.put, List.setIfInBounds_toArray, List.set_cons_zero, List.set_cons_succ, i64_w, i32_w]
                      rfl
                    refine pure_ (i := 24) (N := some 179) (v := ?_) (a' := ?_) #[true, true, true, true, true, true, true, true, true, true, true, true, true, true, true, true, true, true, true, true, true, true, true, true, true, false, false, false, false, false, false, false, false, false, false, false, false, false, false, false, false] rfl rfl (by kernel_rfl) (fun _ _ _ h => h) (Or.inl ⟨by rfl, ?_⟩) ?_ ?_
                    rotate_left
                    · intro w'
                      go_simp
                      with_reducible rfl
                    rotate_left
                    · simp only [Act.put, List.setIfInBounds_toArray, List.set_cons_zero, List.set_cons_succ, i64_w, i32_w]
                      rfl
                    refine pure_ (i := 25) (N := some 180) (v := ?_) (a' := ?_) #[true, true, true, true, true, true, true, true, true, true, true, true, true, true, true, true, true, true, true, true, true, true, true, true, true, true, false, false, false, false, false, false, false, false, false, false, false, false, false, false, false] rfl rfl (by kernel_rfl) (fun _ _ _ h => h) (Or.inl ⟨by rfl, ?_⟩) ?_ ?_
                    rotate_left
                    · intro w'
                      go_simp
                      with_reducible rfl
                    rotate_left
                    · simp only [Act.put, List.setIfInBounds_toArray, List.set_cons_zero, List.set_cons_succ, i64_w, i32_w]
                      rfl
                    refine pure_ (i := 26) (N := some 181) (v := ?_) (a' := ?_) #[true, true, true, true, true, true, true, true, true, true, true, true, true, true, true, true, true, true, true, true, true, true, true, true, true, true, true, false, false, false, false, false, false, false, false, false, false, false, false, false, false] rfl rfl (by kernel_rfl) (fun _ _ _ h => h) (Or.inl ⟨by rfl, ?_⟩) ?_ ?_
                    rotate_left
                    · intro w'
                      go_simp
                      with_reducible rfl
                    rotate_left
                    · simp only [Act.put, List.setIfInBounds_toArray, List.set_cons_zero, List.set_cons_succ, i64_w, i32_w]
                      rfl
                    refine pure_ (i := 27) (N := some 182) (v := ?_) (a' := ?_) #[true, true, true, true, true, true, true, true, true, true, true, true, true, true, true, true, true, true, true, true, true, true, true, true, true, true, true, true, false, false, false, false, false, false, false, false, false, false, false, false, false] rfl rfl (by kernel_rfl) (fun _ _ _ h => h) (Or.inl ⟨by rfl, ?_⟩) ?_ ?_
                    rotate_left
                    · intro w'
                      go_simp
                      with_reducible rfl
                    rotate_left
                    · simp only [Act.put, List.setIfInBounds_toArray, List.set_cons_zero, List.set_cons_succ, i64_w, i32_w]
                      rfl
                    refine pure_ (i := 28) (N := some 183) (v := ?_) (a' := ?_) #[true, true, true, true, true, true, true, true, true, true, true, true, true, true, true, true, true, true, true, true, true, true, true, true, true, true, true, true, true, false, false, false, false, false, false, false, false, false, false, false, false] rfl rfl (by kernel_rfl) (fun _ _ _ h => h) (Or.inl ⟨by rfl, ?_⟩) ?_ ?_
                    rotate_left
                    · intro w'
                      go_simp
                      with_reducible rfl
                    rotate_left
                    · simp only [Act.put, List.setIfInBounds_toArray, List.set_cons_zero, List.set_cons_succ, i64_w, i32_w]
                      rfl
                    refine take_ (i := 29) (N := some 184) (v := ?_) (a' := ?_) #[true, true, true, true, true, true, true, true, true, true, true, true, true, true, true, true, true, true, true, true, true, true, true, true, true, true, true, true, true, true, false, false, false, false, false, false, false, false, false, false, false] rfl rfl (by kernel_rfl) (fun _ _ _ h => h) (Or.inl ⟨by rfl, ?_⟩) hHeld ?_ ?_
                    rotate_left
                    · rintro w' ⟨s0, s1, s2, s3⟩
                      go_simp
                      with_reducible rfl
                    rotate_left
                    · simp only [Act.put, List.setIfInBounds_toArray, List.set_cons_zero, List.set_cons_succ, i64_w, i32_w]
                      rfl
                    refine pure_ (i := 30) (N := some 185) (v := ?_) (a' := ?_) #[true, true, true, true, true, true, true, true, true, true, true, true, true, true, true, true, true, true, true, true, true, true, true, true, true, true, true, true, true, true, true, false, false, false, false, false, false, false, false, false, false] rfl rfl (by kernel_rfl) (fun _ _ _ h => h) (Or.inl ⟨by rfl, ?_⟩) ?_ ?_
                    rotate_left
                    · intro w'
                      go_simp
                      with_reducible rfl
                    rotate_left
                    · simp only [Act.put, List.setIfInBounds_toArray, List.set_cons_zero, List.set_cons_succ, i64_w, i32_w]
                      rfl
                    refine pure_ (i := 31) (N := some 186) (v := ?_) (a' := ?_) #[true, true, true, true, true, true, true, true, true, true, true, true, true, true, true, true, true, true, true, true, true, true, true, true, true, true, true, true, true, true, true, true, false, false, false, false, false, false, false, false, false] rfl rfl (by kernel_rfl) (fun _ _ _ h => h) (Or.inl ⟨by rfl, ?_⟩) ?_ ?_
                    rotate_left
                    · intro w'
                      go_simp
                      with_reducible rfl
                    rotate_left
                    · simp only [Act.put, List.setIfInBounds_toArray, List.set_cons_zero, List.set_cons_succ, i64_w, i32_w]
                      rfl
                    refine pure_ (i := 32) (N := some 187) (v := ?_) (a' := ?_) #[true, true, true, true, true, true, true, true, true, true, true, true, true, true, true, true, true, true, true, true, true, true, true, true, true, true, true, true, true, true, true, true, true, false, false, false, false, false, false, false, false] rfl rfl (by kernel_rfl) (fun _ _ _ h => h) (Or.inl ⟨by rfl, ?_⟩) ?_ ?_
                    rotate_left
                    · intro w'
                      go_simp
                      with_reducible rfl
                    rotate_left
                    · simp only [Act.put, List.setIfInBounds_toArray, List.set_cons_zero, List.set_cons_succ, i64_w, i32_w]
                      rfl
                    refine pure_ (i := 33) (N := some 188) (v := ?_) (a' := ?_) #[true, true, true, true, true, true, true, true, true, true, true, true, true, true, true, true, true, true, true, true, true, true, true, true, true, true, true, true, true, true, true, true, true, true, false, false, false, false, false, false, false] rfl rfl (by kernel_rfl) (fun _ _ _ h => h) (Or.inl ⟨by rfl, ?_⟩) ?_ ?_
                    rotate_left
                    · intro w'
                      go_simp
                      with_reducible rfl
                    rotate_left
                    · simp only [Act.put, List.setIfInBounds_toArray, List.set_cons_zero, List.set_cons_succ, i64_w, i32_w]
                      rfl
                    refine pure_ (i := 34) (N := some 189) (v := ?_) (a' := ?_) #[true, true, true, true, true, true, true, true, true, true, true, true, true, true, true, true, true, true, true, true, true, true, true, true, true, true, true, true, true, true, true, true, true, true, true, false, false, false, false, false, false] rfl rfl (by kernel_rfl) (fun _ _ _ h => h) (Or.inl ⟨by rfl, ?_⟩) ?_ ?_
                    rotate_left
                    · intro w'
                      go_simp
                      with_reducible rfl
                    rotate_left
                    · simp only [Act.put, List.setIfInBounds_toArray, List.set_cons_zero, List.set_cons_succ, i64_w, i32_w]
                      rfl
                    refine pure_ (i := 35) (N := some 190) (v := ?_) (a' := ?_) #[true, true, true, true, true, true, true, true, true, true, true, true, true, true, true, true, true, true, true, true, true, true, true, true, true, true, true, true, true, true, true, true, true, true, true, true, false, false, false, false, false] rfl rfl (by kernel_rfl) (fun _ _ _ h => h) (Or.inl ⟨by rfl, ?_⟩) ?_ ?_
                    rotate_left
                    · intro w'
                      go_simp
                      with_reducible rfl
                    rotate_left
                    · simp only [Act.put, List.setIfInBounds_toArray, List.set_cons_zero, List.set_cons_succ, i64_w, i32_w]
                      rfl
                    refine pure_ (i := 37) (N := some 192) (v := ?_) (a' := ?_) #[true, true, true, true, true, true, true, true, true, true, true, true, true, true, true, true, true, true, true, true, true, true, true, true, true, true, true, true, true, true, true, true, true, true, true, true, false, true, false, false, false] rfl rfl (by kernel_rfl) (fun _ _ _ h => h) (Or.inl ⟨by rfl, ?_⟩) ?_ ?_
                    rotate_left
                    · intro w'
                      go_simp
                      with_reducible rfl
                    rotate_left
                    · simp only [Act.put, List.setIfInBounds_toArray, List.set_cons_zero, List.set_cons_succ, i64_w, i32_w]
                      rfl
                    refine take_ (i := 36) (N := some 191) (v := ?_) (a' := ?_) #[true, true, true, true, true, true, true, true, true, true, true, true, true, true, true, true, true, true, true, true, true, true, true, true, true, true, true, true, true, true, true, true, true, true, true, true, true, true, false, false, false] rfl rfl (by kernel_rfl) (fun _ _ _ h => h) (Or.inl ⟨by rfl, ?_⟩) hHeld ?_ ?_
                    rotate_left
                    · rintro w' ⟨s0, s1, s2, s3⟩
                      go_simp
                      with_reducible rfl
                    rotate_left
                    · simp only [Act.put, List.setIfInBounds_toArray, List.set_cons_zero, List.set_cons_succ, i64_w, i32_w]
                      rfl
                    refine one_ (i := 38) (N := some 193) #[true, true, true, true, true, true, true, true, true, true, true, true, true, true, true, true, true, true, true, true, true, true, true, true, true, true, true, true, true, true, true, true, true, true, true, true, true, true, true, false, false] rfl rfl (by kernel_rfl) (by decide) (fun K hK => ?_)
                    refine goes_ Try.func24 (by kernel_rfl) rfl #[.slice A0w zs.length c0w, .slice Av x1.f1.length cv] (by rfl) rfl rfl (by simp only [List.map_toArray, List.map_cons, List.map_nil]; rfl) ?_
                    with_reducible refine (HBG.out).mono ?_
                    rintro e w8 ⟨rfl, rfl⟩
                    refine ⟨_, rfl, ?_⟩
                    refine hK.out _ _ ⟨k1, k2, k3', k4'⟩ (fun hHeld => ?_)
                    clear hK K
                    refine norm_ (a' := ?_) ?_ ?_
                    rotate_left
                    · show Act.put _ (some 193) _ = _
                      simp only [Act.put, List.setIfInBounds_toArray, List.set_cons_zero, List.set_cons_succ, i64_w, i32_w]
                      rfl
                    refine pure_ (i := 39) (N := some 194) (v := ?_) (a' := ?_) #[true, true, true, true, true, true, true, true, true, true, true, true, true, true, true, true, true, true, true, true, true, true, true, true, true, true, true, true, true, true, true, true, true, true, true, true, true, true, true, true, false] rfl rfl (by kernel_rfl) (fun _ _ _ h => h) (Or.inl ⟨by rfl, ?_⟩) ?_ ?_
                    rotate_left
                    · intro w'
                      go_simp
                      with_reducible rfl
                    rotate_left
                    · simp only [Act.put, List.setIfInBounds_toArray, List.set_cons_zero, List.set_cons_succ, i64_w, i32_w]
                      rfl
                    refine pure_ (i := 40) (N := some 195) (v := ?_) (a' := ?_) #[true, true, true, true, true, true, true, true, true, true, true, true, true, true, true, true, true, true, true, true, true, true, true, true, true, true, true, true, true, true, true, true, true, true, true, true, true, true, true, true, true] rfl rfl (by kernel_rfl) (fun _ _ _ h => h) (Or.inl ⟨by rfl, ?_⟩) ?_ ?_
                    rotate_left
                    · intro w'
                      go_simp
                      with_reducible rfl
                    rotate_left
                    · simp only [Act.put, List.setIfInBounds_toArray, List.set_cons_zero, List.set_cons_succ, i64_w, i32_w]
                      rfl
                    refine done_ (by kernel_rfl) ?_

                    have HA8 := Aside0.mk HA7.out.drew.drew
                    have HB8 := Aside0.mk ((HB7.out.trans (below_drew (Below.refl _ _))).trans (below_drew (Below.refl _ _)))
                    have k5 : w7.drew.drew.cell? (adw.add j) = some (.slice A0w zs.length c0w) := k4'
                    clear k1 k2 k3' k4' d6 d7 HA7 HB7 HBG hb1 hb0
                    generalize w7.drew.drew = w8 at HA8 HB8 k5 ⊢
                    obtain ⟨hA9, hB9, hfz⟩ := row_putH (HA8.out.perm ((List.perm_append_comm (l₁ := [_, _, _]) (l₂ := [_])).append_right _)) j (by rw [HWS.out.1]; exact hlt3) (Av, x1.f1.length, cv)
                    have HA9 := Aside0.mk (hA9.perm (perm6 _ _ _ _ _ _ _))
                    have HB9 := Aside0.mk (HB8.out.trans hB9)
                    have HW9 : Aside0 (WasOk (mixF (crashS st l1).L (tS st l1 t).L (j + 1)) (hs.set j (Av, x1.f1.length, cv)) (rowB (.slice Av x1.f1.length cv) x1.f1 :: Rs) st.L.length) := ⟨by
                      have := (HWS.out.more (Rs' := rowB (.slice Av x1.f1.length cv) x1.f1 :: Rs) (fun T hT => List.mem_cons_of_mem _ hT)).set (F' := mixF (crashS st l1).L (tS st l1 t).L (j + 1)) hlt3 HMX.out.2 (A := Av) (c := cv) (by rw [HMX.out.1]; exact List.mem_cons_self ..)
                      rw [HMX.out.1] at this
                      exact this⟩
                    clear hA9 hB9 HA8 HB8 HWS HMX HIN HAT
                    by_cases ht0 : t = 0
                    · have d8 : decide ((t : Int) > 0) = false := decide_eq_false (by omega)
                      have d9 : ¬ 0 < t := by omega
                      go_wp2_with fail
                      go_roundw
                      case rel => exact ⟨j + 1, _, _, by first | rfl | rw [ej], by omega, HW9, HA9, HB9⟩
                      case measure => first | (simp [intOf]; omega) | (rw [ej]; simp [intOf]; omega)
                    · have d8 : decide ((t : Int) > 0) = true := decide_eq_true (by omega)
                      have d9 : 0 < t := by omega
                      have hz := HTT.out.2.2.2.1 ht0
                      rw [hz] at k5
                      clear hz
                      go_wp2_with fail
                      go_roundw
                      case rel => exact ⟨j + 1, _, _, by first | rfl | rw [ej], by omega, HW9, HA9, HB9⟩
                      case measure => first | (simp [intOf]; omega) | (rw [ej]; simp [intOf]; omega)
                  · have d4 : decide ((j : Int) < (st.L.length : Int)) = false := decide_eq_false (by omega)
                    obtain rfl : j = st.L.length := by omega
                    have HW6 : Aside0 (WasOk (fB (tS st l1 (t + 1)).L) hs Rs st.L.length) := ⟨HWS.out.as fun i hi => by unfold mixF; rw [if_pos hi, tS_next]⟩
                    have HA6 : Aside0 (Has W.heap.size wr (stoT p (tS st l1 (t + 1)) :: rowT kH 23 (.slice Aw st.L.length cw) hs :: rowT kI 3 (.slice As st.L.length cs) (fS st.L) :: rowS (.slice An st.L.length cn) ns :: Rs)) := ⟨by rw [tS_next]; exact HA.out.swap.tail⟩
                    clear HWS HA
                    go_wp2_with fail
                    go_roundw
                    case rel => exact ⟨t + 1, hs, Rs, by first | rfl | rw [et], by omega, HW6, HA6, HB⟩
                    case measure => first | (simp [intOf]; omega) | (rw [et]; simp [intOf]; omega)
              · have d3 : decide ((t : Int) < 2) = false := decide_eq_false (by omega)
                go_wp2_with fail
                refine (awake_calls _).mono ?_
                rintro e w6 ⟨rfl, hB⟩
                have HB6 := Aside0.mk (HB.out.trans (hB.mono HB.out.size))
                clear hB HB HA
                go_wp2_with fail
                go_ret
                exact ⟨rfl, HB6.out⟩
  · go_wp2_with fail
    refine (awake_calls w1).mono ?_
    rintro e w6 ⟨rfl, hB⟩
    have HB6 := Aside0.mk (HB1.out.trans (hB.mono HB1.out.size))
    clear hB
    go_wp2_with fail
    go_ret
    exact ⟨rfl, HB6.out⟩
end Go.Proofs.Ytibnakpefjjoiaa.Fs
