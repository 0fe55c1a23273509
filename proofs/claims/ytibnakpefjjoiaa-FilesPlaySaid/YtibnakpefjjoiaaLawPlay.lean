/- Whatever is done to files, each call answers what the document says: walked. -/
import Derived.Test.YtibnakpefjjoiaaM4
import Derived.Test.YtibnakpefjjoiaaOpens
namespace Go.Proofs.Ytibnakpefjjoiaa.Fs
open Go.RowKit Go.Proofs.YtibnakpefjjoiaaW.PrintWords Go.Proofs.YtibnakpefjjoiaaW.PrintLast Go.Proofs.YtibnakpefjjoiaaW.PrintMore Go.Proofs.Ytibnakpefjjoiaa.Q Go.Proofs.Ytibnakpefjjoiaa.Own
set_option linter.unusedVariables false
set_option linter.unusedSimpArgs false
attribute [local go_sem ↓] Go.wp_at_zero Go.wp_at_succ

theorem rd_at2 (l : List SA) {k : Nat} (hk : k < l.length) : rd_T46 l (k : Int) = l[k] := by
  unfold rd_T46
  rw [Int.toNat_natCast, List.getD_eq_getElem?_getD, List.getElem?_eq_getElem hk]
  rfl
theorem wf_bounds {x : Int} (h : (Lit.int .i64 x).wf = true) : -9223372036854775808 ≤ x ∧ x ≤ 9223372036854775807 := by
  have e1 : IntKind.i64.min = -9223372036854775808 := rfl
  have e2 : IntKind.i64.max = 9223372036854775807 := rfl
  simpa [Lit.wf, e1, e2] using h
theorem good_z {x : SA} (h : good46 x) : x.f4 ≤ 9223372036854775807 ∧ x.f5.length * 8 ≤ 140737488355328 := by
  obtain ⟨-, -, -, -, h4, -, h5, -⟩ := h
  have := wf_bounds h4
  rw [show Try.prog.bytesOf 3 = 8 from by kernel_rfl] at h5
  refine ⟨?_, by omega⟩
  exact this.2
theorem does_calls {B : Nat} {w : World} {p q : Nat} {v : Value} {st : Stt} {fs : List FH} {Ns : List Th} {k : Nat} (h : Has B w (stoT p st :: refB q v st.left st.acts :: rowF v fs :: Ns)) (hf : FsOk st.L fs Ns) (hg : Fine st k) (hk : k < 1000) {x : SA} (hx : SmallA x) (h5 : x.f5.length * 8 ≤ 140737488355328) {A3 A5 : Option Addr} {c3 c5 : Nat} (hK3 : ∀ w', Below B w w' → Kd.C kB w' A3 x.f3.length x.f3) (hK5 : ∀ w', Below B w w' → Kd.C kI w' A5 x.f5.length x.f5) :
    Calls Try.prog 27 #[ptr p, ptr q, .agg #[.int .u8 x.f0, .string x.f1, .string x.f2, .slice A3 x.f3.length c3, .int .i64 x.f4, .slice A5 x.f5.length c5]] w (DoesPost B w p q (actT st x)) := by
  obtain ⟨z1, z2, z3⟩ := hx
  unfold actT
  by_cases h4 : x.f0.tmod 10 = 4
  · rw [if_pos h4]
    exact does_sync h hf hg hk z1 z2 h4
  by_cases h5' : x.f0.tmod 10 = 5
  · rw [if_neg h4, if_pos h5']
    exact does_trunc h hf hg hk z1 z2 h5'
  by_cases h6 : x.f0.tmod 10 = 6
  · rw [if_neg h4, if_neg h5', if_pos h6]
    exact does_rename h hf hg hk z1 z2 h6
  by_cases h7 : x.f0.tmod 10 = 7
  · rw [if_neg h4, if_neg h5', if_neg h6, if_pos h7]
    exact does_remove h hf hg hk z1 z2 h7
  by_cases h8 : x.f0.tmod 10 = 8
  · rw [if_neg h4, if_neg h5', if_neg h6, if_neg h7, if_pos h8]
    exact does_power h hf hg hk z1 z2 h8
  by_cases h9 : x.f0.tmod 10 = 9
  · rw [if_neg h4, if_neg h5', if_neg h6, if_neg h7, if_neg h8, if_pos h9]
    exact does_crash h hf hg hk z1 z2 h5 hK5 h9
  · rw [if_neg h4, if_neg h5', if_neg h6, if_neg h7, if_neg h8, if_neg h9]
    exact does_append h hf hg hk z1 z3 hK3 (fun j q1 q2 => by
      rcases (show j = 4 ∨ j = 5 ∨ j = 6 ∨ j = 7 ∨ j = 8 ∨ j = 9 by omega) with rfl | rfl | rfl | rfl | rfl | rfl <;> assumption)
set_option maxHeartbeats 8000000 in
set_option maxRecDepth 100000 in
theorem play_law (A0 : Option Addr) (c0 : Nat) (l0 : List SA) (a1 : ByteArray) (W : World) (hr0 : Kd.C kA W A0 l0.length l0) (hc0 : l0.length ≤ c0) (hm0 : l0.length ≤ 9223372036854775807) (y0 : l0.length * 96 ≤ 140737488351232) (hg0 : ∀ x ∈ l0, good46 x) (w1 : a1.size ≤ 140737488351232) :
    Calls Try.prog 7 #[.slice A0 l0.length c0, .string a1] W fun e w' => e = .returned (.bool true) ∧ Below W.heap.size W w' := by
  have HC := Aside0.mk hr0
  have hu46 := Try.underlying46
  obtain ⟨r, hr, hrf⟩ := great_ev l0
  have HG := Aside0.mk (tocsinlaw03_Great.calls (l0.length + 1) A0 c0 l0 r W hr0 hc0 hr)
  have HRF := Aside0.mk hrf
  have HGZ : Aside0 (∀ x ∈ l0, x.f4 ≤ 9223372036854775807 ∧ x.f5.length * 8 ≤ 140737488355328) := ⟨fun x hx => good_z (hg0 x hx)⟩
  clear hr0 hc0 hm0 hg0 hr hrf y0
  go_enter Try.func7, Try.ntmps7
  go_wp2_with fail
  refine HG.out.mono ?_
  rintro e w1 ⟨rfl, ⟨nd, rfl⟩⟩
  have HA1 := Aside0.mk ((Has.nil W).drewN nd)
  have HB1 : Aside0 (Below W.heap.size W (W.drewN nd)) := ⟨pw_below_drewN (Below.refl _ _) _⟩
  clear HG
  generalize W.drewN nd = w1 at HA1 HB1 ⊢
  cases r
  · obtain ⟨hl, hsm⟩ := HRF.out rfl
    have HSM := Aside0.mk hsm
    clear hsm HRF
    by_cases hnm : 1000 < a1.size
    · have d1 : decide ((a1.size : Int) > 1000) = true := decide_eq_true (by omega)
      go_wp2_with fail
      go_ret
      exact ⟨rfl, HB1.out⟩
    · have d1 : decide ((a1.size : Int) > 1000) = false := decide_eq_false (by omega)
      have hn9 : a1.size ≤ 9223372036854775807 := by omega
      have HN9 := Aside0.mk hn9
      clear hn9
      go_wp2_with fail
      refine (new_calls HA1.out).mono ?_
      rintro e w2 ⟨p, rfl, hA, hB⟩
      have HNR := Aside0.mk (rnew_calls hA)
      have HB2 := Aside0.mk (HB1.out.trans hB)
      clear hA hB HA1 HB1
      go_wp2_with fail
      refine HNR.out.mono ?_
      rintro e w3 ⟨q, rfl, hA, hB⟩
      have hA : Has W.heap.size w3 (refB q (.slice none 0 0) (-1) 0 :: rowF (.slice none 0 0) [] :: stoT p ⟨-1, 0, []⟩ :: []) := hA
      have HAL := Aside0.mk (alike_calls (hA.perm (List.perm_append_comm (l₁ := [_, _]) (l₂ := [_]))) (fs_none []) fine_new (by omega))
      have HB3 := Aside0.mk (HB2.out.trans hB)
      clear hA hB HNR HB2
      go_wp2_with fail
      refine HAL.out.mono ?_
      rintro e w4 ⟨rfl, hBO, hB⟩
      have HBO := Aside0.mk hBO
      have HB4 := Aside0.mk (HB3.out.trans hB)
      clear hBO hB HAL HB3
      go_wp2_with fail
      go_loopw [7] (fun i wr => ∃ (k : Nat) (st : Stt), i = .int .i64 k ∧ k ≤ l0.length ∧ Aside0 (Fine st k) ∧ Aside0 (Both W.heap.size wr p q st) ∧ Aside0 (Below W.heap.size W wr)) (fun i _ => l0.length - (intOf i).toNat)
      case atStart => exact ⟨0, ⟨-1, 0, []⟩, rfl, by omega, ⟨fine_new⟩, HBO, HB4⟩
      case round =>
        clear HBO HB4
        obtain ⟨k, st, rfl, hk, HF, HBO, HB⟩ := hrel
        by_cases hlt : k < l0.length
        · have d2 : decide ((k : Int) < (l0.length : Int)) = true := decide_eq_true (by omega)
          have d3 : decide (0 ≤ (k : Int)) = true := decide_eq_true (by omega)
          have ek : wrap64 ((k : Int) + 1) = ((k + 1 : Nat) : Int) := wrap_nat (by omega)
          obtain ⟨ad, A3, c3, A5, c5, rfl, q0, q1, q2, q3, q4, q5, l3, g3, l5, g5⟩ := at_T46 HC.out (k : Int) (by omega) (by omega)
          rw [rd_at2 l0 hlt] at q0 q1 q2 q3 q4 q5 l3 g3 l5 g5
          rw [Int.toNat_natCast] at q0 q1 q2 q3 q4 q5
          have q0 := pw_cell_below HB.out q0
          have q1 := pw_cell_below HB.out q1
          have q2 := pw_cell_below HB.out q2
          have q3 := pw_cell_below HB.out q3
          have q4 := pw_cell_below HB.out q4
          have q5 := pw_cell_below HB.out q5
          have hx : SmallA l0[k] := HSM.out _ (List.getElem_mem hlt)
          obtain ⟨hz4, hz5⟩ := HGZ.out _ (List.getElem_mem hlt)
          have g3' : ∀ w', Below W.heap.size wr w' → Kd.C kB w' A3 (l0[k]).f3.length (l0[k]).f3 := fun w' hb => Kd.C_below g3 (HB.out.trans hb)
          have g5' : ∀ w', Below W.heap.size wr w' → Kd.C kI w' A5 (l0[k]).f5.length (l0[k]).f5 := fun w' hb => Kd.C_below g5 (HB.out.trans hb)
          generalize l0[k] = x at q0 q1 q2 q3 q4 q5 g3' g5' hx hz4 hz5
          obtain ⟨v, fs, Ns, hA, hf⟩ := HBO.out
          have HDO := Aside0.mk (does_calls (c3 := c3) (c5 := c5) hA hf HF.out (by omega) hx hz5 g3' g5')
          have HFA := Aside0.mk (fine_actT HF.out x hz4)
          clear hA hf g3' g5' hx hz4 hz5 l3 g3 l5 g5 HBO HF
          go_wp2_with fail
          refine HDO.out.mono ?_
          rintro e w5 ⟨rfl, ⟨v5, fs5, Ns5, hA5, hf5⟩, hB5⟩
          have HAL := Aside0.mk (alike_calls hA5 hf5 HFA.out (by omega))
          have HB5 := Aside0.mk (HB.out.trans hB5)
          clear hA5 hf5 hB5 HDO HB q0 q1 q2 q3 q4 q5
          go_wp2_with fail
          refine HAL.out.mono ?_
          rintro e w6 ⟨rfl, hBO, hB6⟩
          have HBO := Aside0.mk hBO
          have HB6 := Aside0.mk (HB5.out.trans hB6)
          clear hBO hB6 HAL HB5
          go_wp2_with fail
          go_roundw
          case rel => exact ⟨k + 1, actT st x, by first | rfl | rw [ek], by omega, HFA, HBO, HB6⟩
          case measure => first | (simp [intOf]; omega) | (rw [ek]; simp [intOf]; omega)
        · have d2 : decide ((k : Int) < (l0.length : Int)) = false := decide_eq_false (by omega)
          obtain ⟨v, fs, Ns, hA, hf⟩ := HBO.out
          have hok : OkS st := HF.out.ok (by omega)
          have HOK := Aside0.mk hok
          have HGT := Aside0.mk (rget_calls hA (q := q) (v := v) (by simp) (by simp) hf (by have := HF.out.n; omega) a1)
          have HA := Aside0.mk hA
          clear hA hf HBO hok
          go_wp2_with fail
          refine HGT.out.mono ?_
          rintro e w4 ⟨A4, c4, rfl, -, hb⟩
          have hwx : ∃ x, toldX st a1 = x := ⟨_, rfl⟩
          obtain ⟨x, hwx⟩ := hwx
          have hwe : ∃ r, toldE st a1 = r := ⟨_, rfl⟩
          obtain ⟨r, hwe⟩ := hwe
          have HRD := Aside0.mk (read_calls ((HA.out.below hb).alloc (.cells #[.string x.f0, .slice A4 x.f1.length c4, .int .i64 x.f2] 56)) HF.out.rise HOK.out HN9.out)
          unfold ReadPost at HRD
          have HSZC : Aside0 (∀ (w : World) (Ts : List Th), Has W.heap.size w (stoT p st :: Ts) → Calls Try.prog 29 #[ptr p, .string a1] w fun e w' => e = .returned (.tuple #[.int .i64 (x.f1.length : Int), .int .i64 r]) ∧ Has W.heap.size w' (stoT p st :: Ts) ∧ Below W.heap.size w w') := ⟨fun w Ts h => by
            have := size_calls h HF.out.rise HOK.out HN9.out
            rw [hwx, hwe] at this
            exact this⟩
          have HSYC : Aside0 (∀ (w : World) (Ts : List Th), Has W.heap.size w (stoT p st :: Ts) → Calls Try.prog 23 #[ptr p, .string a1] w fun e w' => e = .returned (.tuple #[.int .i64 x.f2, .int .i64 r]) ∧ Has W.heap.size w' (stoT p st :: Ts) ∧ Below W.heap.size w w') := ⟨fun w Ts h => by
            have := synced_calls h HF.out.rise HOK.out HN9.out
            rw [hwx, hwe] at this
            exact this⟩
          have HB4 := Aside0.mk ((HB.out.trans (hb.mono HA.out.size)).alloc (HA.out.below hb).size (.cells #[.string x.f0, .slice A4 x.f1.length c4, .int .i64 x.f2] 56))
          rw [hwx, hwe] at HRD ⊢
          clear hwx hwe hb HGT HA HB
          go_wp2_with fail
          refine HRD.out.mono ?_
          rintro e w5 ⟨v5, rfl, hA5, hB5⟩
          have HSZ := Aside0.mk (HSZC.out _ _ hA5)
          have HB5 := Aside0.mk (HB4.out.trans hB5)
          clear hA5 hB5 HRD HB4 HSZC
          go_wp2_with fail
          refine HSZ.out.mono ?_
          rintro e w6 ⟨rfl, hA6, hB6⟩
          have HSY := Aside0.mk (HSYC.out _ _ hA6)
          have HB6 := Aside0.mk (HB5.out.trans hB6)
          clear hA6 hB6 HSZ HB5 HSYC
          go_wp2_with fail
          refine HSY.out.mono ?_
          rintro e w7 ⟨rfl, hA7, hB7⟩
          have HB7 := Aside0.mk (HB6.out.trans hB7)
          clear hA7 hB7 HSY HB6
          go_wp2_with fail
          go_ret
          exact ⟨rfl, HB7.out⟩
  · go_wp2_with fail
    go_ret
    exact ⟨rfl, HB1.out⟩
end Go.Proofs.Ytibnakpefjjoiaa.Fs
