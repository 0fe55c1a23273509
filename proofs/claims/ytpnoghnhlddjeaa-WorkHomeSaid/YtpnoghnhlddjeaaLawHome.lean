/- A worker's turn, told by the earliest tasks: walked. -/
import Derived.Test.YtpnoghnhlddjeaaWorkP
namespace Go.Proofs.Ytpnoghnhlddjeaa.Wk
open Go.RowKit Go.Proofs.YtpnoghnhlddjeaaW.PrintWords Go.Proofs.YtpnoghnhlddjeaaW.PrintLast Go.Proofs.YtpnoghnhlddjeaaW.PrintMore Go.Proofs.Ytpnoghnhlddjeaa.Q Go.Proofs.Ytpnoghnhlddjeaa.Own Go.Proofs.Ytpnoghnhlddjeaa.Hp
set_option linter.unusedVariables false
set_option linter.unusedSimpArgs false
attribute [local go_sem ↓] Go.wp_at_zero Go.wp_at_succ

set_option maxHeartbeats 8000000 in
set_option maxRecDepth 100000 in
theorem home_law (a0 : Int) (A1 : Option Addr) (c1 : Nat) (l1 : List S31) (a2 a3 : Int) (W : World) (hr1 : Kd.C k31 W A1 l1.length l1) (hc1 : l1.length ≤ c1) (w0 : (Lit.int .i64 a0).wf = true) (hm1 : l1.length ≤ 9223372036854775807) (y1 : l1.length * 16 ≤ 140737488351232) (hg1 : ∀ x ∈ l1, good31 x) (w2 : (Lit.int .i64 a2).wf = true) (w3 : (Lit.int .i64 a3).wf = true) :
    Calls Try.prog 3 #[.int .i64 a0, .slice A1 l1.length c1, .int .i64 a2, .int .i64 a3] W fun e w' => e = .returned (.bool true) ∧ Below W.heap.size W w' := by
  have hu := Try.underlying31
  have HG : Aside0 (∀ x ∈ l1, GoodT x) := ⟨fun x hx => good_T (hg1 x hx)⟩
  have HC := Aside0.mk hr1
  clear hr1 hg1 y1 hc1
  by_cases h30 : (l1.length : Int) > 30
  · have d1 : decide ((l1.length : Int) > 30) = true := decide_eq_true h30
    go_enter Try.func3, Try.ntmps3
    go_wp2
    go_ret
    exact ⟨rfl, Below.refl _ _⟩
  have d1 : decide ((l1.length : Int) > 30) = false := decide_eq_false h30
  have hl : l1.length ≤ 30 := by omega
  clear h30
  have dz := wrap_z a0
  have dzp := beq_eq_false_iff_ne.1 dz
  go_enter Try.func3, Try.ntmps3
  go_wp2_with fail
  clear d1 dz dzp
  obtain ⟨n, hn1, hn4, en⟩ := wrap_n a0
  generalize wrap64 (1 + wrap64 ((IntKind.u64.wrap a0).tmod 4)) = ni at en ⊢
  subst en
  obtain ⟨j, hj, ej⟩ := wrap_j a2 n hn1 hn4
  generalize wrap64 ((IntKind.u64.wrap a2).tmod (IntKind.u64.wrap (n : Int))) = ji at ej ⊢
  subst ej
  refine (new_good n hn1 hn4 (Has.nil W)).mono ?_
  rintro e w1 ⟨p, v, ps, rfl, hps, hA, hB⟩
  have HA0 := Aside0.mk hA
  have HB0 := Aside0.mk hB
  have HPS := Aside0.mk hps
  clear hA hB hps w0 w2 w3
  go_wp2_with fail
  go_loopw [11] (fun i wr => ∃ (k : Nat) (hs : List (List S31)), i = .int .i64 k ∧ k ≤ l1.length ∧ Aside0 (HomeS hs ∧ hs.length = n ∧ hs.flatten.length ≤ k) ∧ Aside0 (Has W.heap.size wr (workL p v ps hs ++ [])) ∧ Aside0 (Below W.heap.size W wr)) (fun i _ => l1.length - (intOf i).toNat)
  case atStart => exact ⟨0, List.replicate n [], rfl, by omega, ⟨home_start hn1 hn4, List.length_replicate, by rw [flat_one]; exact Nat.le_refl _⟩, HA0, HB0⟩
  case round =>
    clear HA0 HB0
    obtain ⟨k, hs, rfl, hk, HH, HA, HB⟩ := hrel
    by_cases hlt : k < l1.length
    · obtain ⟨ad, rfl, hi2, hi3⟩ := at_T31 HC.out (k : Int) (by omega) (by omega)
      replace hi2 := pw_cell_below HB.out hi2
      replace hi3 := pw_cell_below HB.out hi3
      rw [Int.toNat_natCast] at hi2 hi3
      have d1 : decide ((k : Int) < (l1.length : Int)) = true := decide_eq_true (by omega)
      have d2 : decide (0 ≤ (k : Int)) = true := decide_eq_true (by omega)
      have hxg : GoodT (rd_T31 l1 (k : Int)) := HG.out _ (by rw [rd_nat l1 hlt]; exact List.getElem_mem hlt)
      generalize rd_T31 l1 (k : Int) = x at hi2 hi3 hxg
      have HP := Aside0.mk (put_calls HA.out (HPS.out.trans HH.out.2.1.symm) (by rw [HPS.out]; omega) x hxg (fun s hs' => by have := mem_flat hs'; have := HH.out.2.2; omega))
      have HH2 : Aside0 (HomeS (putS hs x) ∧ (putS hs x).length = n ∧ (putS hs x).flatten.length ≤ k + 1) := ⟨home_put HH.out.1 hxg (by have := HH.out.2.2; omega), (putS_length hs x).trans HH.out.2.1, by have := put_len hs x; have := HH.out.2.2; omega⟩
      clear hxg
      go_wp2_with fail
      refine HP.out.mono ?_
      rintro e w3 ⟨rfl, hA, hB⟩
      have HA3 := Aside0.mk hA
      have HB3 := Aside0.mk (HB.out.trans hB)
      clear hA hB hi2 hi3 HP HA HB
      go_wp2_with fail
      go_roundw
      case rel => exact ⟨k + 1, _, rfl, by omega, HH2, HA3, HB3⟩
      case measure => simp [intOf]; omega
    · have d1 : decide ((k : Int) < (l1.length : Int)) = false := decide_eq_false (by omega)
      have hfl : hs.flatten.length ≤ 30 := by have := HH.out.2.2; omega
      obtain ⟨hH, hhl, -⟩ := HH.out
      have HHS := Aside0.mk hH
      have HL : Aside0 (ps.length = hs.length) := ⟨HPS.out.trans hhl.symm⟩
      obtain ⟨hg1, hg2⟩ := all_good hH (by omega)
      have HAG := Aside0.mk hg2.length_eq
      have HER := Aside0.mk (fun (w : World) (A : Option Addr) (c i : Nat) (hC : Kd.C k31 w A (sortL hs.flatten).length (sortL hs.flatten)) (hc : (sortL hs.flatten).length ≤ c) => earliest_calls hH (by omega) hC hc i)
      rw [hhl] at HER
      have HAL := Aside0.mk (wall_calls HA.out HL.out (by omega))
      clear hg1 hg2 HH hH
      generalize sortL hs.flatten = al at HAG HER HAL
      go_wp2_with fail
      refine HAL.out.mono ?_
      rintro e w3 ⟨va, rfl, hr, hb⟩
      have HA3 := Aside0.mk (tail_box (HA.out.row hb hr))
      have HB3 := Aside0.mk (HB.out.trans (hb.mono HA.out.size))
      obtain ⟨Aa, ca, rfl, -, -⟩ := Kd.R_reads hr
      clear hr hb HAL HA HB d1
      go_wp2_with fail
      go_loopw [14, 13] (fun i m wr => ∃ k : Nat, i = .int .i64 k ∧ m = .int .i64 (mostF hs k : Nat) ∧ 1 ≤ k ∧ k ≤ n ∧ Aside0 (wr = w3)) (fun i _ _ => n - (intOf i).toNat)
      case atStart => exact ⟨1, rfl, rfl, by omega, hn1, ⟨rfl⟩⟩
      case round =>
        obtain ⟨q, rfl, rfl, hq1, hqn, ⟨rfl⟩⟩ := hrel
        by_cases hlt2 : q < n
        · have d1 : decide ((q : Int) < (n : Int)) = true := decide_eq_true (by omega)
          have hmq := mostF_lt hs q
          have HC1 := Aside0.mk (count_in HA3.out HL.out q (by rw [HPS.out]; exact hlt2))
          have HC2 := Aside0.mk (count_in HA3.out HL.out (mostF hs q) (by rw [HPS.out]; omega))
          by_cases hg : (hs.getD q []).length > (hs.getD (mostF hs q) []).length
          · have HM : Aside0 (mostF hs (q + 1) = q) := ⟨by
              show (if q = 0 then 0 else if (hs.getD q []).length > (hs.getD (mostF hs q) []).length then q else mostF hs q) = q
              rw [if_neg (by omega), if_pos hg]⟩
            have d2 : decide (((hs.getD q []).length : Int) > ((hs.getD (mostF hs q) []).length : Int)) = true := decide_eq_true (by omega)
            have d3 : (hs.getD (mostF hs q) []).length < (hs.getD q []).length := hg
            clear hg
            generalize (hs.getD (mostF hs q) []).length = lm at HC2 d2 d3
            generalize (hs.getD q []).length = lq at HC1 d2 d3
            go_wp2_with fail
            refine HC1.out.mono ?_
            rintro e w4 ⟨rfl, rfl⟩
            go_wp2_with fail
            refine HC2.out.mono ?_
            rintro e w4 ⟨rfl, rfl⟩
            go_wp2_with fail
            go_roundw
            case rel => exact ⟨q + 1, rfl, by rw [HM.out], by omega, by omega, ⟨trivial⟩⟩
            case measure => simp [intOf]; omega
          · have HM : Aside0 (mostF hs (q + 1) = mostF hs q) := ⟨by
              show (if q = 0 then 0 else if (hs.getD q []).length > (hs.getD (mostF hs q) []).length then q else mostF hs q) = mostF hs q
              rw [if_neg (by omega), if_neg hg]⟩
            have d2 : decide (((hs.getD q []).length : Int) > ((hs.getD (mostF hs q) []).length : Int)) = false := decide_eq_false (by omega)
            have d3 : ¬ (hs.getD (mostF hs q) []).length < (hs.getD q []).length := hg
            clear hg
            generalize (hs.getD (mostF hs q) []).length = lm at HC2 d2 d3
            generalize (hs.getD q []).length = lq at HC1 d2 d3
            go_wp2_with fail
            refine HC1.out.mono ?_
            rintro e w4 ⟨rfl, rfl⟩
            go_wp2_with fail
            refine HC2.out.mono ?_
            rintro e w4 ⟨rfl, rfl⟩
            go_wp2_with fail
            go_roundw
            case rel => exact ⟨q + 1, rfl, by rw [HM.out], by omega, by omega, ⟨trivial⟩⟩
            case measure => simp [intOf]; omega
        · have d1 : decide ((q : Int) < (n : Int)) = false := decide_eq_false (by omega)
          obtain rfl : q = n := by omega
          have hjl : j < hs.length := by omega
          have hml : mostF hs hs.length = mostF hs q := by rw [hhl]
          clear d1
          have HTC := Aside0.mk (fun (w : World) (Ts : List Th) (h : Has W.heap.size w (workL p v ps hs ++ Ts)) => turn_calls h HL.out (j : Int) a3)
          generalize hmq : mostF hs q = m at hml ⊢
          have hmlt : m < hs.length := by have := mostF_lt hs q; omega
          go_wp2_with fail
          have HA4 := Aside0.mk (tail_box (HA3.out.box #[.int .u32 0, .int .i64 0] 31))
          have HB4 := Aside0.mk (HB3.out.alloc HA3.out.size (.cells #[.int .u32 0, .int .i64 0] 31))
          generalize wr.alloc (.cells #[.int .u32 0, .int .i64 0] 31) = w4 at HA4 HB4 ⊢
          generalize wr.heap.size = b15 at HA4 ⊢
          obtain ⟨A_, c_, ev_, hcc, hC4⟩ := HA4.out.reads (d := k31) (e := 31) (v := .slice Aa al.length ca) (xs := al) (by simp)
          cases ev_
          have HE4 := Aside0.mk (HER.out w4 Aa ca j hC4 hcc)
          clear hC4 HA3 HB3
          by_cases ho : turnOwn hs j a3 = true
          · skip
            obtain ⟨⟨x0, x1⟩, t, hst, hxa⟩ := take_true (show takeO (hs.getD j []) a3 = true from ho)
            have hxa' : x1 ≤ a3 := hxa
            have HTQ : Aside0 (turnR hs (j : Int) a3 = ⟨⟨x0, x1⟩, false, true, hs.set j t⟩) := ⟨turnR_own hjl hst hxa⟩
            have d9 : decide (x1 ≤ a3) = true := decide_eq_true hxa'
            have HFL : Aside0 ((hs.set j t).flatten.length + 1 = al.length) := ⟨by have := flat_len hs j hjl t; rw [hst, List.length_cons] at this; rw [HAG.out]; omega⟩
            clear hxa ho
            rw [hst, show headP (⟨x0, x1⟩ :: t) = .tuple #[.agg #[.int .u32 x0, .int .i64 x1], .bool true] from rfl] at HE4
            refine HE4.out.mono ?_
            rintro e w5 ⟨rfl, hb5⟩
            have HA6 := Aside0.mk (tail_box ((HA4.out.below hb5).box #[.int .u32 x0, .int .i64 x1] 31))
            have HB6 := Aside0.mk ((HB4.out.trans (hb5.mono HA4.out.size)).alloc (HA4.out.below hb5).size (.cells #[.int .u32 x0, .int .i64 x1] 31))
            have HCC := Aside0.mk hcc
            clear hb5 HE4 HA4 HB4 hcc
            obtain ⟨pa, pb, -, -⟩ := Has.box_cell HA6.out (b := w5.heap.size) (cs := #[.int .u32 x0, .int .i64 x1]) (t := 31) (by simp)
            have pc0 : (w5.alloc (.cells #[.int .u32 x0, .int .i64 x1] 31)).cell? ⟨w5.heap.size, 0, none⟩ = some (.int .u32 x0) := pa 0
            have pc1 : (w5.alloc (.cells #[.int .u32 x0, .int .i64 x1] 31)).cell? ⟨w5.heap.size, 1, none⟩ = some (.int .i64 x1) := pa 1
            have pf0 := pb 0
            have pf1 := pb 1
            clear pa pb
            obtain ⟨qa, qb, -, -⟩ := Has.box_cell HA6.out (b := b15) (cs := #[.int .u32 0, .int .i64 0]) (t := 31) (by simp)
            have qc0 : (w5.alloc (.cells #[.int .u32 x0, .int .i64 x1] 31)).cell? ⟨b15, 0, none⟩ = some (.int .u32 0) := qa 0
            have qc1 : (w5.alloc (.cells #[.int .u32 x0, .int .i64 x1] 31)).cell? ⟨b15, 1, none⟩ = some (.int .i64 0) := qa 1
            have qf0 := qb 0
            have qf1 := qb 1
            clear qa qb
            go_wp2_with fail
            obtain ⟨s1, t1⟩ := (head_box (second HA6.out)).box_set 0 (.int .u32 x0)
            obtain ⟨s2, t2⟩ := s1.box_set 1 (.int .i64 x1)
            have HA9 : Aside0 (Has W.heap.size (((w5.alloc (.cells #[.int .u32 x0, .int .i64 x1] 31)).setCell ⟨b15, 0, none⟩ (.int .u32 x0)).setCell ⟨b15, 1, none⟩ (.int .i64 x1)) (workL p v ps hs ++ (boxT b15 #[.int .u32 x0, .int .i64 x1] 31 :: _))) := ⟨tail_box s2⟩
            have HB9 := Aside0.mk (HB6.out.trans (t1.trans t2))
            clear s1 s2 t1 t2
            generalize ((w5.alloc (.cells #[.int .u32 x0, .int .i64 x1] 31)).setCell ⟨b15, 0, none⟩ (.int .u32 x0)).setCell ⟨b15, 1, none⟩ (.int .i64 x1) = w9 at HA9 HB9 ⊢
            clear pc0 pc1 pf0 pf1 qc0 qc1 qf0 qf1 HA6 HB6 d9 hxa'
            refine (HTC.out _ _ HA9.out).mono ?_
            rintro e w10 ⟨rfl, hA, hB⟩
            rw [HTQ.out] at hA ⊢
            dsimp only [turnV, z31] at hA ⊢
            have HA11 := Aside0.mk (tail_box (hA.box #[.int .u32 x0, .int .i64 x1] 31))
            have HB11 := Aside0.mk ((HB9.out.trans hB).alloc hA.size (.cells #[.int .u32 x0, .int .i64 x1] 31))
            clear hA hB HA9 HB9 HTC HTQ
            obtain ⟨ya, yb, -, -⟩ := Has.box_cell HA11.out (b := b15) (cs := #[.int .u32 x0, .int .i64 x1]) (t := 31) (by simp)
            have yc0 : (w10.alloc (.cells #[.int .u32 x0, .int .i64 x1] 31)).cell? ⟨b15, 0, none⟩ = some (.int .u32 x0) := ya 0
            have yc1 : (w10.alloc (.cells #[.int .u32 x0, .int .i64 x1] 31)).cell? ⟨b15, 1, none⟩ = some (.int .i64 x1) := ya 1
            have yf0 := yb 0
            have yf1 := yb 1
            clear ya yb
            obtain ⟨ua, ub, -, -⟩ := Has.box_cell HA11.out (b := w10.heap.size) (cs := #[.int .u32 x0, .int .i64 x1]) (t := 31) (by simp)
            have uc0 : (w10.alloc (.cells #[.int .u32 x0, .int .i64 x1] 31)).cell? ⟨w10.heap.size, 0, none⟩ = some (.int .u32 x0) := ua 0
            have uc1 : (w10.alloc (.cells #[.int .u32 x0, .int .i64 x1] 31)).cell? ⟨w10.heap.size, 1, none⟩ = some (.int .i64 x1) := ua 1
            have uf0 := ub 0
            have uf1 := ub 1
            clear ua ub
            have HLQ : (hs.set j t).flatten.length + 1 = al.length := HFL.out
            have hal_ : True := trivial
            have hal : al.length ≤ 30 := by rw [HAG.out]; exact hfl
            have HLEN := Aside0.mk (wlen_calls HA11.out (by rw [List.length_set]; exact HL.out) (by omega))
            clear hal_
            generalize (hs.set j t).flatten.length = lx at HLQ HLEN
            have e1 : ((lx : Int) == wrap64 ((al.length : Int) - 1)) = true := by rw [beq_iff_eq]; unfold wrap64; omega
            have e2 : ((lx : Int) == (al.length : Int) - 1) = true := by rw [beq_iff_eq]; omega
            have e3 : 1 ≤ al.length := by omega
            clear HLQ
            go_wp2_with fail
            refine HLEN.out.mono ?_
            rintro e w12 ⟨rfl, hb12⟩
            have HB12 := Aside0.mk (HB11.out.trans (hb12.mono HA11.out.size))
            clear yc0 yc1 yf0 yf1 uc0 uc1 uf0 uf1 HLEN
            go_wp2_with fail
            refine (awake_calls _).mono ?_
            rintro e w13 ⟨rfl, hb13⟩
            go_wp2_with fail
            go_ret
            exact ⟨rfl, HB12.out.trans (hb13.mono HB12.out.size)⟩
          have ho' : turnOwn hs j a3 = false := by cases h : turnOwn hs j a3 with
            | true => exact absurd h ho
            | false => rfl
          clear ho
          by_cases hmj : m = j
          · skip
            have HTQ : Aside0 (turnR hs (j : Int) a3 = ⟨z31, false, false, hs⟩) := ⟨turnR_none hjl ho' (by unfold turnOther; rw [hml, hmj]; simp)⟩
            subst hmj
            rcases take_false (show takeO (hs.getD m []) a3 = false from ho') with hst | ⟨⟨x0, x1⟩, t, hst, hxa⟩
            · skip
              rw [hst, show headP [] = .tuple #[.agg #[.int .u32 0, .int .i64 0], .bool false] from rfl] at HE4
              refine HE4.out.mono ?_
              rintro e w5 ⟨rfl, hb5⟩
              have HA6 := Aside0.mk (tail_box ((HA4.out.below hb5).box #[.int .u32 0, .int .i64 0] 31))
              have HB6 := Aside0.mk ((HB4.out.trans (hb5.mono HA4.out.size)).alloc (HA4.out.below hb5).size (.cells #[.int .u32 0, .int .i64 0] 31))
              have HCC := Aside0.mk hcc
              clear hb5 HE4 HA4 HB4 hcc
              obtain ⟨pa, pb, -, -⟩ := Has.box_cell HA6.out (b := w5.heap.size) (cs := #[.int .u32 0, .int .i64 0]) (t := 31) (by simp)
              have pc0 : (w5.alloc (.cells #[.int .u32 0, .int .i64 0] 31)).cell? ⟨w5.heap.size, 0, none⟩ = some (.int .u32 0) := pa 0
              have pc1 : (w5.alloc (.cells #[.int .u32 0, .int .i64 0] 31)).cell? ⟨w5.heap.size, 1, none⟩ = some (.int .i64 0) := pa 1
              have pf0 := pb 0
              have pf1 := pb 1
              clear pa pb
              go_wp2_with fail
              clear pc0 pc1 pf0 pf1
              refine (HTC.out _ _ HA6.out).mono ?_
              rintro e w10 ⟨rfl, hA, hB⟩
              rw [HTQ.out] at hA ⊢
              dsimp only [turnV, z31] at hA ⊢
              have HA11 := Aside0.mk (tail_box (hA.box #[.int .u32 0, .int .i64 0] 31))
              have HB11 := Aside0.mk ((HB6.out.trans hB).alloc hA.size (.cells #[.int .u32 0, .int .i64 0] 31))
              clear hA hB HA6 HB6 HTC HTQ
              obtain ⟨ya, yb, -, -⟩ := Has.box_cell HA11.out (b := b15) (cs := #[.int .u32 0, .int .i64 0]) (t := 31) (by simp)
              have yc0 : (w10.alloc (.cells #[.int .u32 0, .int .i64 0] 31)).cell? ⟨b15, 0, none⟩ = some (.int .u32 0) := ya 0
              have yc1 : (w10.alloc (.cells #[.int .u32 0, .int .i64 0] 31)).cell? ⟨b15, 1, none⟩ = some (.int .i64 0) := ya 1
              have yf0 := yb 0
              have yf1 := yb 1
              clear ya yb
              obtain ⟨ua, ub, -, -⟩ := Has.box_cell HA11.out (b := w10.heap.size) (cs := #[.int .u32 0, .int .i64 0]) (t := 31) (by simp)
              have uc0 : (w10.alloc (.cells #[.int .u32 0, .int .i64 0] 31)).cell? ⟨w10.heap.size, 0, none⟩ = some (.int .u32 0) := ua 0
              have uc1 : (w10.alloc (.cells #[.int .u32 0, .int .i64 0] 31)).cell? ⟨w10.heap.size, 1, none⟩ = some (.int .i64 0) := ua 1
              have uf0 := ub 0
              have uf1 := ub 1
              clear ua ub
              go_wp2_with fail
              refine (awake_calls _).mono ?_
              rintro e w13 ⟨rfl, hb13⟩
              go_wp2_with fail
              go_ret
              exact ⟨rfl, HB11.out.trans (hb13.mono HB11.out.size)⟩
            · skip
              change ¬ x1 ≤ a3 at hxa
              have d9 : decide (x1 ≤ a3) = false := decide_eq_false (by omega)
              rw [hst, show headP (⟨x0, x1⟩ :: t) = .tuple #[.agg #[.int .u32 x0, .int .i64 x1], .bool true] from rfl] at HE4
              refine HE4.out.mono ?_
              rintro e w5 ⟨rfl, hb5⟩
              have HA6 := Aside0.mk (tail_box ((HA4.out.below hb5).box #[.int .u32 x0, .int .i64 x1] 31))
              have HB6 := Aside0.mk ((HB4.out.trans (hb5.mono HA4.out.size)).alloc (HA4.out.below hb5).size (.cells #[.int .u32 x0, .int .i64 x1] 31))
              have HCC := Aside0.mk hcc
              clear hb5 HE4 HA4 HB4 hcc
              obtain ⟨pa, pb, -, -⟩ := Has.box_cell HA6.out (b := w5.heap.size) (cs := #[.int .u32 x0, .int .i64 x1]) (t := 31) (by simp)
              have pc0 : (w5.alloc (.cells #[.int .u32 x0, .int .i64 x1] 31)).cell? ⟨w5.heap.size, 0, none⟩ = some (.int .u32 x0) := pa 0
              have pc1 : (w5.alloc (.cells #[.int .u32 x0, .int .i64 x1] 31)).cell? ⟨w5.heap.size, 1, none⟩ = some (.int .i64 x1) := pa 1
              have pf0 := pb 0
              have pf1 := pb 1
              clear pa pb
              go_wp2_with fail
              clear pc0 pc1 pf0 pf1
              refine (HTC.out _ _ HA6.out).mono ?_
              rintro e w10 ⟨rfl, hA, hB⟩
              rw [HTQ.out] at hA ⊢
              dsimp only [turnV, z31] at hA ⊢
              have HA11 := Aside0.mk (tail_box (hA.box #[.int .u32 0, .int .i64 0] 31))
              have HB11 := Aside0.mk ((HB6.out.trans hB).alloc hA.size (.cells #[.int .u32 0, .int .i64 0] 31))
              clear hA hB HA6 HB6 HTC HTQ
              obtain ⟨ya, yb, -, -⟩ := Has.box_cell HA11.out (b := b15) (cs := #[.int .u32 0, .int .i64 0]) (t := 31) (by simp)
              have yc0 : (w10.alloc (.cells #[.int .u32 0, .int .i64 0] 31)).cell? ⟨b15, 0, none⟩ = some (.int .u32 0) := ya 0
              have yc1 : (w10.alloc (.cells #[.int .u32 0, .int .i64 0] 31)).cell? ⟨b15, 1, none⟩ = some (.int .i64 0) := ya 1
              have yf0 := yb 0
              have yf1 := yb 1
              clear ya yb
              obtain ⟨ua, ub, -, -⟩ := Has.box_cell HA11.out (b := w10.heap.size) (cs := #[.int .u32 0, .int .i64 0]) (t := 31) (by simp)
              have uc0 : (w10.alloc (.cells #[.int .u32 0, .int .i64 0] 31)).cell? ⟨w10.heap.size, 0, none⟩ = some (.int .u32 0) := ua 0
              have uc1 : (w10.alloc (.cells #[.int .u32 0, .int .i64 0] 31)).cell? ⟨w10.heap.size, 1, none⟩ = some (.int .i64 0) := ua 1
              have uf0 := ub 0
              have uf1 := ub 1
              clear ua ub
              go_wp2_with fail
              refine (awake_calls _).mono ?_
              rintro e w13 ⟨rfl, hb13⟩
              go_wp2_with fail
              go_ret
              exact ⟨rfl, HB11.out.trans (hb13.mono HB11.out.size)⟩
          have g1 : ((m : Int) == (j : Int)) = false := beq_eq_false_iff_ne.2 (by omega)
          have g2 : ¬ (m : Int) = (j : Int) := by omega
          by_cases hot : takeO (hs.getD m []) a3 = true
          · skip
            obtain ⟨⟨y0, y1⟩, u, hsu, hya⟩ := take_true hot
            have HTQ : Aside0 (turnR hs (j : Int) a3 = ⟨⟨y0, y1⟩, true, true, hs.set m u⟩) := ⟨turnR_other hjl ho' hml hmj hsu hya⟩
            have HFL : Aside0 ((hs.set m u).flatten.length + 1 = al.length) := ⟨by have := flat_len hs m hmlt u; rw [hsu, List.length_cons] at this; rw [HAG.out]; omega⟩
            change y1 ≤ a3 at hya
            clear hot
            rcases take_false (show takeO (hs.getD j []) a3 = false from ho') with hst | ⟨⟨x0, x1⟩, t, hst, hxa⟩
            · skip
              rw [hst, show headP [] = .tuple #[.agg #[.int .u32 0, .int .i64 0], .bool false] from rfl] at HE4
              refine HE4.out.mono ?_
              rintro e w5 ⟨rfl, hb5⟩
              have HA6 := Aside0.mk (tail_box ((HA4.out.below hb5).box #[.int .u32 0, .int .i64 0] 31))
              have HB6 := Aside0.mk ((HB4.out.trans (hb5.mono HA4.out.size)).alloc (HA4.out.below hb5).size (.cells #[.int .u32 0, .int .i64 0] 31))
              have HCC := Aside0.mk hcc
              clear hb5 HE4 HA4 HB4 hcc
              obtain ⟨pa, pb, -, -⟩ := Has.box_cell HA6.out (b := w5.heap.size) (cs := #[.int .u32 0, .int .i64 0]) (t := 31) (by simp)
              have pc0 : (w5.alloc (.cells #[.int .u32 0, .int .i64 0] 31)).cell? ⟨w5.heap.size, 0, none⟩ = some (.int .u32 0) := pa 0
              have pc1 : (w5.alloc (.cells #[.int .u32 0, .int .i64 0] 31)).cell? ⟨w5.heap.size, 1, none⟩ = some (.int .i64 0) := pa 1
              have pf0 := pb 0
              have pf1 := pb 1
              clear pa pb
              go_wp2_with fail
              clear pc0 pc1 pf0 pf1
              generalize w5.alloc (.cells #[.int .u32 0, .int .i64 0] 31) = w6 at HA6 HB6 ⊢
              generalize w5.heap.size = b18 at HA6 ⊢
              obtain ⟨A_, c_, ev_, -, hC6⟩ := HA6.out.reads (d := k31) (e := 31) (v := .slice Aa al.length ca) (xs := al) (by simp)
              cases ev_
              have HE6 := Aside0.mk (HER.out w6 Aa ca m hC6 HCC.out)
              clear hC6
              rw [hsu, show headP (⟨y0, y1⟩ :: u) = .tuple #[.agg #[.int .u32 y0, .int .i64 y1], .bool true] from rfl] at HE6
              refine HE6.out.mono ?_
              rintro e w7 ⟨rfl, hb7⟩
              have HA8 := Aside0.mk (tail_box ((head_box (HA6.out.below hb7)).tail.box #[.int .u32 y0, .int .i64 y1] 31))
              have HB8 := Aside0.mk ((HB6.out.trans (hb7.mono HA6.out.size)).alloc (HA6.out.below hb7).size (.cells #[.int .u32 y0, .int .i64 y1] 31))
              clear hb7 HE6 HA6 HB6
              have e9 : decide (y1 ≤ a3) = true := decide_eq_true hya
              have hya' : y1 ≤ a3 := hya
              obtain ⟨pa, pb, -, -⟩ := Has.box_cell HA8.out (b := w7.heap.size) (cs := #[.int .u32 y0, .int .i64 y1]) (t := 31) (by simp)
              have pc0 : (w7.alloc (.cells #[.int .u32 y0, .int .i64 y1] 31)).cell? ⟨w7.heap.size, 0, none⟩ = some (.int .u32 y0) := pa 0
              have pc1 : (w7.alloc (.cells #[.int .u32 y0, .int .i64 y1] 31)).cell? ⟨w7.heap.size, 1, none⟩ = some (.int .i64 y1) := pa 1
              have pf0 := pb 0
              have pf1 := pb 1
              clear pa pb
              obtain ⟨qa, qb, -, -⟩ := Has.box_cell HA8.out (b := b15) (cs := #[.int .u32 0, .int .i64 0]) (t := 31) (by simp)
              have qc0 : (w7.alloc (.cells #[.int .u32 y0, .int .i64 y1] 31)).cell? ⟨b15, 0, none⟩ = some (.int .u32 0) := qa 0
              have qc1 : (w7.alloc (.cells #[.int .u32 y0, .int .i64 y1] 31)).cell? ⟨b15, 1, none⟩ = some (.int .i64 0) := qa 1
              have qf0 := qb 0
              have qf1 := qb 1
              clear qa qb
              go_wp2_with fail
              obtain ⟨s1, t1⟩ := (head_box (second HA8.out)).box_set 0 (.int .u32 y0)
              obtain ⟨s2, t2⟩ := s1.box_set 1 (.int .i64 y1)
              have HA9 : Aside0 (Has W.heap.size (((w7.alloc (.cells #[.int .u32 y0, .int .i64 y1] 31)).setCell ⟨b15, 0, none⟩ (.int .u32 y0)).setCell ⟨b15, 1, none⟩ (.int .i64 y1)) (workL p v ps hs ++ (boxT b15 #[.int .u32 y0, .int .i64 y1] 31 :: _))) := ⟨tail_box s2⟩
              have HB9 := Aside0.mk (HB8.out.trans (t1.trans t2))
              clear s1 s2 t1 t2
              generalize ((w7.alloc (.cells #[.int .u32 y0, .int .i64 y1] 31)).setCell ⟨b15, 0, none⟩ (.int .u32 y0)).setCell ⟨b15, 1, none⟩ (.int .i64 y1) = w9 at HA9 HB9 ⊢
              clear pc0 pc1 pf0 pf1 qc0 qc1 qf0 qf1 HA8 HB8 e9 hya'
              refine (HTC.out _ _ HA9.out).mono ?_
              rintro e w10 ⟨rfl, hA, hB⟩
              rw [HTQ.out] at hA ⊢
              dsimp only [turnV, z31] at hA ⊢
              have HA11 := Aside0.mk (tail_box (hA.box #[.int .u32 y0, .int .i64 y1] 31))
              have HB11 := Aside0.mk ((HB9.out.trans hB).alloc hA.size (.cells #[.int .u32 y0, .int .i64 y1] 31))
              clear hA hB HA9 HB9 HTC HTQ
              obtain ⟨ya, yb, -, -⟩ := Has.box_cell HA11.out (b := b15) (cs := #[.int .u32 y0, .int .i64 y1]) (t := 31) (by simp)
              have yc0 : (w10.alloc (.cells #[.int .u32 y0, .int .i64 y1] 31)).cell? ⟨b15, 0, none⟩ = some (.int .u32 y0) := ya 0
              have yc1 : (w10.alloc (.cells #[.int .u32 y0, .int .i64 y1] 31)).cell? ⟨b15, 1, none⟩ = some (.int .i64 y1) := ya 1
              have yf0 := yb 0
              have yf1 := yb 1
              clear ya yb
              obtain ⟨ua, ub, -, -⟩ := Has.box_cell HA11.out (b := w10.heap.size) (cs := #[.int .u32 y0, .int .i64 y1]) (t := 31) (by simp)
              have uc0 : (w10.alloc (.cells #[.int .u32 y0, .int .i64 y1] 31)).cell? ⟨w10.heap.size, 0, none⟩ = some (.int .u32 y0) := ua 0
              have uc1 : (w10.alloc (.cells #[.int .u32 y0, .int .i64 y1] 31)).cell? ⟨w10.heap.size, 1, none⟩ = some (.int .i64 y1) := ua 1
              have uf0 := ub 0
              have uf1 := ub 1
              clear ua ub
              have HLQ : (hs.set m u).flatten.length + 1 = al.length := HFL.out
              have hal_ : True := trivial
              have hal : al.length ≤ 30 := by rw [HAG.out]; exact hfl
              have HLEN := Aside0.mk (wlen_calls HA11.out (by rw [List.length_set]; exact HL.out) (by omega))
              clear hal_
              generalize (hs.set m u).flatten.length = lx at HLQ HLEN
              have e1 : ((lx : Int) == wrap64 ((al.length : Int) - 1)) = true := by rw [beq_iff_eq]; unfold wrap64; omega
              have e2 : ((lx : Int) == (al.length : Int) - 1) = true := by rw [beq_iff_eq]; omega
              have e3 : 1 ≤ al.length := by omega
              clear HLQ
              go_wp2_with fail
              refine HLEN.out.mono ?_
              rintro e w12 ⟨rfl, hb12⟩
              have HB12 := Aside0.mk (HB11.out.trans (hb12.mono HA11.out.size))
              clear yc0 yc1 yf0 yf1 uc0 uc1 uf0 uf1 HLEN
              go_wp2_with fail
              refine (awake_calls _).mono ?_
              rintro e w13 ⟨rfl, hb13⟩
              go_wp2_with fail
              go_ret
              exact ⟨rfl, HB12.out.trans (hb13.mono HB12.out.size)⟩
            · skip
              change ¬ x1 ≤ a3 at hxa
              have d9 : decide (x1 ≤ a3) = false := decide_eq_false (by omega)
              rw [hst, show headP (⟨x0, x1⟩ :: t) = .tuple #[.agg #[.int .u32 x0, .int .i64 x1], .bool true] from rfl] at HE4
              refine HE4.out.mono ?_
              rintro e w5 ⟨rfl, hb5⟩
              have HA6 := Aside0.mk (tail_box ((HA4.out.below hb5).box #[.int .u32 x0, .int .i64 x1] 31))
              have HB6 := Aside0.mk ((HB4.out.trans (hb5.mono HA4.out.size)).alloc (HA4.out.below hb5).size (.cells #[.int .u32 x0, .int .i64 x1] 31))
              have HCC := Aside0.mk hcc
              clear hb5 HE4 HA4 HB4 hcc
              obtain ⟨pa, pb, -, -⟩ := Has.box_cell HA6.out (b := w5.heap.size) (cs := #[.int .u32 x0, .int .i64 x1]) (t := 31) (by simp)
              have pc0 : (w5.alloc (.cells #[.int .u32 x0, .int .i64 x1] 31)).cell? ⟨w5.heap.size, 0, none⟩ = some (.int .u32 x0) := pa 0
              have pc1 : (w5.alloc (.cells #[.int .u32 x0, .int .i64 x1] 31)).cell? ⟨w5.heap.size, 1, none⟩ = some (.int .i64 x1) := pa 1
              have pf0 := pb 0
              have pf1 := pb 1
              clear pa pb
              go_wp2_with fail
              clear pc0 pc1 pf0 pf1 d9
              generalize w5.alloc (.cells #[.int .u32 x0, .int .i64 x1] 31) = w6 at HA6 HB6 ⊢
              generalize w5.heap.size = b18 at HA6 ⊢
              obtain ⟨A_, c_, ev_, -, hC6⟩ := HA6.out.reads (d := k31) (e := 31) (v := .slice Aa al.length ca) (xs := al) (by simp)
              cases ev_
              have HE6 := Aside0.mk (HER.out w6 Aa ca m hC6 HCC.out)
              clear hC6
              rw [hsu, show headP (⟨y0, y1⟩ :: u) = .tuple #[.agg #[.int .u32 y0, .int .i64 y1], .bool true] from rfl] at HE6
              refine HE6.out.mono ?_
              rintro e w7 ⟨rfl, hb7⟩
              have HA8 := Aside0.mk (tail_box ((head_box (HA6.out.below hb7)).tail.box #[.int .u32 y0, .int .i64 y1] 31))
              have HB8 := Aside0.mk ((HB6.out.trans (hb7.mono HA6.out.size)).alloc (HA6.out.below hb7).size (.cells #[.int .u32 y0, .int .i64 y1] 31))
              clear hb7 HE6 HA6 HB6
              have e9 : decide (y1 ≤ a3) = true := decide_eq_true hya
              have hya' : y1 ≤ a3 := hya
              obtain ⟨pa, pb, -, -⟩ := Has.box_cell HA8.out (b := w7.heap.size) (cs := #[.int .u32 y0, .int .i64 y1]) (t := 31) (by simp)
              have pc0 : (w7.alloc (.cells #[.int .u32 y0, .int .i64 y1] 31)).cell? ⟨w7.heap.size, 0, none⟩ = some (.int .u32 y0) := pa 0
              have pc1 : (w7.alloc (.cells #[.int .u32 y0, .int .i64 y1] 31)).cell? ⟨w7.heap.size, 1, none⟩ = some (.int .i64 y1) := pa 1
              have pf0 := pb 0
              have pf1 := pb 1
              clear pa pb
              obtain ⟨qa, qb, -, -⟩ := Has.box_cell HA8.out (b := b15) (cs := #[.int .u32 0, .int .i64 0]) (t := 31) (by simp)
              have qc0 : (w7.alloc (.cells #[.int .u32 y0, .int .i64 y1] 31)).cell? ⟨b15, 0, none⟩ = some (.int .u32 0) := qa 0
              have qc1 : (w7.alloc (.cells #[.int .u32 y0, .int .i64 y1] 31)).cell? ⟨b15, 1, none⟩ = some (.int .i64 0) := qa 1
              have qf0 := qb 0
              have qf1 := qb 1
              clear qa qb
              go_wp2_with fail
              obtain ⟨s1, t1⟩ := (head_box (second HA8.out)).box_set 0 (.int .u32 y0)
              obtain ⟨s2, t2⟩ := s1.box_set 1 (.int .i64 y1)
              have HA9 : Aside0 (Has W.heap.size (((w7.alloc (.cells #[.int .u32 y0, .int .i64 y1] 31)).setCell ⟨b15, 0, none⟩ (.int .u32 y0)).setCell ⟨b15, 1, none⟩ (.int .i64 y1)) (workL p v ps hs ++ (boxT b15 #[.int .u32 y0, .int .i64 y1] 31 :: _))) := ⟨tail_box s2⟩
              have HB9 := Aside0.mk (HB8.out.trans (t1.trans t2))
              clear s1 s2 t1 t2
              generalize ((w7.alloc (.cells #[.int .u32 y0, .int .i64 y1] 31)).setCell ⟨b15, 0, none⟩ (.int .u32 y0)).setCell ⟨b15, 1, none⟩ (.int .i64 y1) = w9 at HA9 HB9 ⊢
              clear pc0 pc1 pf0 pf1 qc0 qc1 qf0 qf1 HA8 HB8 e9 hya'
              refine (HTC.out _ _ HA9.out).mono ?_
              rintro e w10 ⟨rfl, hA, hB⟩
              rw [HTQ.out] at hA ⊢
              dsimp only [turnV, z31] at hA ⊢
              have HA11 := Aside0.mk (tail_box (hA.box #[.int .u32 y0, .int .i64 y1] 31))
              have HB11 := Aside0.mk ((HB9.out.trans hB).alloc hA.size (.cells #[.int .u32 y0, .int .i64 y1] 31))
              clear hA hB HA9 HB9 HTC HTQ
              obtain ⟨ya, yb, -, -⟩ := Has.box_cell HA11.out (b := b15) (cs := #[.int .u32 y0, .int .i64 y1]) (t := 31) (by simp)
              have yc0 : (w10.alloc (.cells #[.int .u32 y0, .int .i64 y1] 31)).cell? ⟨b15, 0, none⟩ = some (.int .u32 y0) := ya 0
              have yc1 : (w10.alloc (.cells #[.int .u32 y0, .int .i64 y1] 31)).cell? ⟨b15, 1, none⟩ = some (.int .i64 y1) := ya 1
              have yf0 := yb 0
              have yf1 := yb 1
              clear ya yb
              obtain ⟨ua, ub, -, -⟩ := Has.box_cell HA11.out (b := w10.heap.size) (cs := #[.int .u32 y0, .int .i64 y1]) (t := 31) (by simp)
              have uc0 : (w10.alloc (.cells #[.int .u32 y0, .int .i64 y1] 31)).cell? ⟨w10.heap.size, 0, none⟩ = some (.int .u32 y0) := ua 0
              have uc1 : (w10.alloc (.cells #[.int .u32 y0, .int .i64 y1] 31)).cell? ⟨w10.heap.size, 1, none⟩ = some (.int .i64 y1) := ua 1
              have uf0 := ub 0
              have uf1 := ub 1
              clear ua ub
              have HLQ : (hs.set m u).flatten.length + 1 = al.length := HFL.out
              have hal_ : True := trivial
              have hal : al.length ≤ 30 := by rw [HAG.out]; exact hfl
              have HLEN := Aside0.mk (wlen_calls HA11.out (by rw [List.length_set]; exact HL.out) (by omega))
              clear hal_
              generalize (hs.set m u).flatten.length = lx at HLQ HLEN
              have e1 : ((lx : Int) == wrap64 ((al.length : Int) - 1)) = true := by rw [beq_iff_eq]; unfold wrap64; omega
              have e2 : ((lx : Int) == (al.length : Int) - 1) = true := by rw [beq_iff_eq]; omega
              have e3 : 1 ≤ al.length := by omega
              clear HLQ
              go_wp2_with fail
              refine HLEN.out.mono ?_
              rintro e w12 ⟨rfl, hb12⟩
              have HB12 := Aside0.mk (HB11.out.trans (hb12.mono HA11.out.size))
              clear yc0 yc1 yf0 yf1 uc0 uc1 uf0 uf1 HLEN
              go_wp2_with fail
              refine (awake_calls _).mono ?_
              rintro e w13 ⟨rfl, hb13⟩
              go_wp2_with fail
              go_ret
              exact ⟨rfl, HB12.out.trans (hb13.mono HB12.out.size)⟩
          have hot' : takeO (hs.getD m []) a3 = false := by cases h : takeO (hs.getD m []) a3 with
            | true => exact absurd h hot
            | false => rfl
          have HTQ : Aside0 (turnR hs (j : Int) a3 = ⟨z31, false, false, hs⟩) := ⟨turnR_none hjl ho' (by unfold turnOther; rw [hml, hot']; simp)⟩
          clear hot
          rcases take_false hot' with hsu | ⟨⟨y0, y1⟩, u, hsu, hya⟩
          · skip
            rcases take_false (show takeO (hs.getD j []) a3 = false from ho') with hst | ⟨⟨x0, x1⟩, t, hst, hxa⟩
            · skip
              rw [hst, show headP [] = .tuple #[.agg #[.int .u32 0, .int .i64 0], .bool false] from rfl] at HE4
              refine HE4.out.mono ?_
              rintro e w5 ⟨rfl, hb5⟩
              have HA6 := Aside0.mk (tail_box ((HA4.out.below hb5).box #[.int .u32 0, .int .i64 0] 31))
              have HB6 := Aside0.mk ((HB4.out.trans (hb5.mono HA4.out.size)).alloc (HA4.out.below hb5).size (.cells #[.int .u32 0, .int .i64 0] 31))
              have HCC := Aside0.mk hcc
              clear hb5 HE4 HA4 HB4 hcc
              obtain ⟨pa, pb, -, -⟩ := Has.box_cell HA6.out (b := w5.heap.size) (cs := #[.int .u32 0, .int .i64 0]) (t := 31) (by simp)
              have pc0 : (w5.alloc (.cells #[.int .u32 0, .int .i64 0] 31)).cell? ⟨w5.heap.size, 0, none⟩ = some (.int .u32 0) := pa 0
              have pc1 : (w5.alloc (.cells #[.int .u32 0, .int .i64 0] 31)).cell? ⟨w5.heap.size, 1, none⟩ = some (.int .i64 0) := pa 1
              have pf0 := pb 0
              have pf1 := pb 1
              clear pa pb
              go_wp2_with fail
              clear pc0 pc1 pf0 pf1
              generalize w5.alloc (.cells #[.int .u32 0, .int .i64 0] 31) = w6 at HA6 HB6 ⊢
              generalize w5.heap.size = b18 at HA6 ⊢
              obtain ⟨A_, c_, ev_, -, hC6⟩ := HA6.out.reads (d := k31) (e := 31) (v := .slice Aa al.length ca) (xs := al) (by simp)
              cases ev_
              have HE6 := Aside0.mk (HER.out w6 Aa ca m hC6 HCC.out)
              clear hC6
              rw [hsu, show headP [] = .tuple #[.agg #[.int .u32 0, .int .i64 0], .bool false] from rfl] at HE6
              refine HE6.out.mono ?_
              rintro e w7 ⟨rfl, hb7⟩
              have HA8 := Aside0.mk (tail_box ((head_box (HA6.out.below hb7)).tail.box #[.int .u32 0, .int .i64 0] 31))
              have HB8 := Aside0.mk ((HB6.out.trans (hb7.mono HA6.out.size)).alloc (HA6.out.below hb7).size (.cells #[.int .u32 0, .int .i64 0] 31))
              clear hb7 HE6 HA6 HB6
              obtain ⟨pa, pb, -, -⟩ := Has.box_cell HA8.out (b := w7.heap.size) (cs := #[.int .u32 0, .int .i64 0]) (t := 31) (by simp)
              have pc0 : (w7.alloc (.cells #[.int .u32 0, .int .i64 0] 31)).cell? ⟨w7.heap.size, 0, none⟩ = some (.int .u32 0) := pa 0
              have pc1 : (w7.alloc (.cells #[.int .u32 0, .int .i64 0] 31)).cell? ⟨w7.heap.size, 1, none⟩ = some (.int .i64 0) := pa 1
              have pf0 := pb 0
              have pf1 := pb 1
              clear pa pb
              go_wp2_with fail
              clear pc0 pc1 pf0 pf1
              refine (HTC.out _ _ HA8.out).mono ?_
              rintro e w10 ⟨rfl, hA, hB⟩
              rw [HTQ.out] at hA ⊢
              dsimp only [turnV, z31] at hA ⊢
              have HA11 := Aside0.mk (tail_box (hA.box #[.int .u32 0, .int .i64 0] 31))
              have HB11 := Aside0.mk ((HB8.out.trans hB).alloc hA.size (.cells #[.int .u32 0, .int .i64 0] 31))
              clear hA hB HA8 HB8 HTC HTQ
              obtain ⟨ya, yb, -, -⟩ := Has.box_cell HA11.out (b := b15) (cs := #[.int .u32 0, .int .i64 0]) (t := 31) (by simp)
              have yc0 : (w10.alloc (.cells #[.int .u32 0, .int .i64 0] 31)).cell? ⟨b15, 0, none⟩ = some (.int .u32 0) := ya 0
              have yc1 : (w10.alloc (.cells #[.int .u32 0, .int .i64 0] 31)).cell? ⟨b15, 1, none⟩ = some (.int .i64 0) := ya 1
              have yf0 := yb 0
              have yf1 := yb 1
              clear ya yb
              obtain ⟨ua, ub, -, -⟩ := Has.box_cell HA11.out (b := w10.heap.size) (cs := #[.int .u32 0, .int .i64 0]) (t := 31) (by simp)
              have uc0 : (w10.alloc (.cells #[.int .u32 0, .int .i64 0] 31)).cell? ⟨w10.heap.size, 0, none⟩ = some (.int .u32 0) := ua 0
              have uc1 : (w10.alloc (.cells #[.int .u32 0, .int .i64 0] 31)).cell? ⟨w10.heap.size, 1, none⟩ = some (.int .i64 0) := ua 1
              have uf0 := ub 0
              have uf1 := ub 1
              clear ua ub
              go_wp2_with fail
              refine (awake_calls _).mono ?_
              rintro e w13 ⟨rfl, hb13⟩
              go_wp2_with fail
              go_ret
              exact ⟨rfl, HB11.out.trans (hb13.mono HB11.out.size)⟩
            · skip
              change ¬ x1 ≤ a3 at hxa
              have d9 : decide (x1 ≤ a3) = false := decide_eq_false (by omega)
              rw [hst, show headP (⟨x0, x1⟩ :: t) = .tuple #[.agg #[.int .u32 x0, .int .i64 x1], .bool true] from rfl] at HE4
              refine HE4.out.mono ?_
              rintro e w5 ⟨rfl, hb5⟩
              have HA6 := Aside0.mk (tail_box ((HA4.out.below hb5).box #[.int .u32 x0, .int .i64 x1] 31))
              have HB6 := Aside0.mk ((HB4.out.trans (hb5.mono HA4.out.size)).alloc (HA4.out.below hb5).size (.cells #[.int .u32 x0, .int .i64 x1] 31))
              have HCC := Aside0.mk hcc
              clear hb5 HE4 HA4 HB4 hcc
              obtain ⟨pa, pb, -, -⟩ := Has.box_cell HA6.out (b := w5.heap.size) (cs := #[.int .u32 x0, .int .i64 x1]) (t := 31) (by simp)
              have pc0 : (w5.alloc (.cells #[.int .u32 x0, .int .i64 x1] 31)).cell? ⟨w5.heap.size, 0, none⟩ = some (.int .u32 x0) := pa 0
              have pc1 : (w5.alloc (.cells #[.int .u32 x0, .int .i64 x1] 31)).cell? ⟨w5.heap.size, 1, none⟩ = some (.int .i64 x1) := pa 1
              have pf0 := pb 0
              have pf1 := pb 1
              clear pa pb
              go_wp2_with fail
              clear pc0 pc1 pf0 pf1 d9
              generalize w5.alloc (.cells #[.int .u32 x0, .int .i64 x1] 31) = w6 at HA6 HB6 ⊢
              generalize w5.heap.size = b18 at HA6 ⊢
              obtain ⟨A_, c_, ev_, -, hC6⟩ := HA6.out.reads (d := k31) (e := 31) (v := .slice Aa al.length ca) (xs := al) (by simp)
              cases ev_
              have HE6 := Aside0.mk (HER.out w6 Aa ca m hC6 HCC.out)
              clear hC6
              rw [hsu, show headP [] = .tuple #[.agg #[.int .u32 0, .int .i64 0], .bool false] from rfl] at HE6
              refine HE6.out.mono ?_
              rintro e w7 ⟨rfl, hb7⟩
              have HA8 := Aside0.mk (tail_box ((head_box (HA6.out.below hb7)).tail.box #[.int .u32 0, .int .i64 0] 31))
              have HB8 := Aside0.mk ((HB6.out.trans (hb7.mono HA6.out.size)).alloc (HA6.out.below hb7).size (.cells #[.int .u32 0, .int .i64 0] 31))
              clear hb7 HE6 HA6 HB6
              obtain ⟨pa, pb, -, -⟩ := Has.box_cell HA8.out (b := w7.heap.size) (cs := #[.int .u32 0, .int .i64 0]) (t := 31) (by simp)
              have pc0 : (w7.alloc (.cells #[.int .u32 0, .int .i64 0] 31)).cell? ⟨w7.heap.size, 0, none⟩ = some (.int .u32 0) := pa 0
              have pc1 : (w7.alloc (.cells #[.int .u32 0, .int .i64 0] 31)).cell? ⟨w7.heap.size, 1, none⟩ = some (.int .i64 0) := pa 1
              have pf0 := pb 0
              have pf1 := pb 1
              clear pa pb
              go_wp2_with fail
              clear pc0 pc1 pf0 pf1
              refine (HTC.out _ _ HA8.out).mono ?_
              rintro e w10 ⟨rfl, hA, hB⟩
              rw [HTQ.out] at hA ⊢
              dsimp only [turnV, z31] at hA ⊢
              have HA11 := Aside0.mk (tail_box (hA.box #[.int .u32 0, .int .i64 0] 31))
              have HB11 := Aside0.mk ((HB8.out.trans hB).alloc hA.size (.cells #[.int .u32 0, .int .i64 0] 31))
              clear hA hB HA8 HB8 HTC HTQ
              obtain ⟨ya, yb, -, -⟩ := Has.box_cell HA11.out (b := b15) (cs := #[.int .u32 0, .int .i64 0]) (t := 31) (by simp)
              have yc0 : (w10.alloc (.cells #[.int .u32 0, .int .i64 0] 31)).cell? ⟨b15, 0, none⟩ = some (.int .u32 0) := ya 0
              have yc1 : (w10.alloc (.cells #[.int .u32 0, .int .i64 0] 31)).cell? ⟨b15, 1, none⟩ = some (.int .i64 0) := ya 1
              have yf0 := yb 0
              have yf1 := yb 1
              clear ya yb
              obtain ⟨ua, ub, -, -⟩ := Has.box_cell HA11.out (b := w10.heap.size) (cs := #[.int .u32 0, .int .i64 0]) (t := 31) (by simp)
              have uc0 : (w10.alloc (.cells #[.int .u32 0, .int .i64 0] 31)).cell? ⟨w10.heap.size, 0, none⟩ = some (.int .u32 0) := ua 0
              have uc1 : (w10.alloc (.cells #[.int .u32 0, .int .i64 0] 31)).cell? ⟨w10.heap.size, 1, none⟩ = some (.int .i64 0) := ua 1
              have uf0 := ub 0
              have uf1 := ub 1
              clear ua ub
              go_wp2_with fail
              refine (awake_calls _).mono ?_
              rintro e w13 ⟨rfl, hb13⟩
              go_wp2_with fail
              go_ret
              exact ⟨rfl, HB11.out.trans (hb13.mono HB11.out.size)⟩
          · skip
            change ¬ y1 ≤ a3 at hya
            rcases take_false (show takeO (hs.getD j []) a3 = false from ho') with hst | ⟨⟨x0, x1⟩, t, hst, hxa⟩
            · skip
              rw [hst, show headP [] = .tuple #[.agg #[.int .u32 0, .int .i64 0], .bool false] from rfl] at HE4
              refine HE4.out.mono ?_
              rintro e w5 ⟨rfl, hb5⟩
              have HA6 := Aside0.mk (tail_box ((HA4.out.below hb5).box #[.int .u32 0, .int .i64 0] 31))
              have HB6 := Aside0.mk ((HB4.out.trans (hb5.mono HA4.out.size)).alloc (HA4.out.below hb5).size (.cells #[.int .u32 0, .int .i64 0] 31))
              have HCC := Aside0.mk hcc
              clear hb5 HE4 HA4 HB4 hcc
              obtain ⟨pa, pb, -, -⟩ := Has.box_cell HA6.out (b := w5.heap.size) (cs := #[.int .u32 0, .int .i64 0]) (t := 31) (by simp)
              have pc0 : (w5.alloc (.cells #[.int .u32 0, .int .i64 0] 31)).cell? ⟨w5.heap.size, 0, none⟩ = some (.int .u32 0) := pa 0
              have pc1 : (w5.alloc (.cells #[.int .u32 0, .int .i64 0] 31)).cell? ⟨w5.heap.size, 1, none⟩ = some (.int .i64 0) := pa 1
              have pf0 := pb 0
              have pf1 := pb 1
              clear pa pb
              go_wp2_with fail
              clear pc0 pc1 pf0 pf1
              generalize w5.alloc (.cells #[.int .u32 0, .int .i64 0] 31) = w6 at HA6 HB6 ⊢
              generalize w5.heap.size = b18 at HA6 ⊢
              obtain ⟨A_, c_, ev_, -, hC6⟩ := HA6.out.reads (d := k31) (e := 31) (v := .slice Aa al.length ca) (xs := al) (by simp)
              cases ev_
              have HE6 := Aside0.mk (HER.out w6 Aa ca m hC6 HCC.out)
              clear hC6
              rw [hsu, show headP (⟨y0, y1⟩ :: u) = .tuple #[.agg #[.int .u32 y0, .int .i64 y1], .bool true] from rfl] at HE6
              refine HE6.out.mono ?_
              rintro e w7 ⟨rfl, hb7⟩
              have HA8 := Aside0.mk (tail_box ((head_box (HA6.out.below hb7)).tail.box #[.int .u32 y0, .int .i64 y1] 31))
              have HB8 := Aside0.mk ((HB6.out.trans (hb7.mono HA6.out.size)).alloc (HA6.out.below hb7).size (.cells #[.int .u32 y0, .int .i64 y1] 31))
              clear hb7 HE6 HA6 HB6
              have e9 : decide (y1 ≤ a3) = false := decide_eq_false (by omega)
              obtain ⟨pa, pb, -, -⟩ := Has.box_cell HA8.out (b := w7.heap.size) (cs := #[.int .u32 y0, .int .i64 y1]) (t := 31) (by simp)
              have pc0 : (w7.alloc (.cells #[.int .u32 y0, .int .i64 y1] 31)).cell? ⟨w7.heap.size, 0, none⟩ = some (.int .u32 y0) := pa 0
              have pc1 : (w7.alloc (.cells #[.int .u32 y0, .int .i64 y1] 31)).cell? ⟨w7.heap.size, 1, none⟩ = some (.int .i64 y1) := pa 1
              have pf0 := pb 0
              have pf1 := pb 1
              clear pa pb
              go_wp2_with fail
              clear pc0 pc1 pf0 pf1 e9
              refine (HTC.out _ _ HA8.out).mono ?_
              rintro e w10 ⟨rfl, hA, hB⟩
              rw [HTQ.out] at hA ⊢
              dsimp only [turnV, z31] at hA ⊢
              have HA11 := Aside0.mk (tail_box (hA.box #[.int .u32 0, .int .i64 0] 31))
              have HB11 := Aside0.mk ((HB8.out.trans hB).alloc hA.size (.cells #[.int .u32 0, .int .i64 0] 31))
              clear hA hB HA8 HB8 HTC HTQ
              obtain ⟨ya, yb, -, -⟩ := Has.box_cell HA11.out (b := b15) (cs := #[.int .u32 0, .int .i64 0]) (t := 31) (by simp)
              have yc0 : (w10.alloc (.cells #[.int .u32 0, .int .i64 0] 31)).cell? ⟨b15, 0, none⟩ = some (.int .u32 0) := ya 0
              have yc1 : (w10.alloc (.cells #[.int .u32 0, .int .i64 0] 31)).cell? ⟨b15, 1, none⟩ = some (.int .i64 0) := ya 1
              have yf0 := yb 0
              have yf1 := yb 1
              clear ya yb
              obtain ⟨ua, ub, -, -⟩ := Has.box_cell HA11.out (b := w10.heap.size) (cs := #[.int .u32 0, .int .i64 0]) (t := 31) (by simp)
              have uc0 : (w10.alloc (.cells #[.int .u32 0, .int .i64 0] 31)).cell? ⟨w10.heap.size, 0, none⟩ = some (.int .u32 0) := ua 0
              have uc1 : (w10.alloc (.cells #[.int .u32 0, .int .i64 0] 31)).cell? ⟨w10.heap.size, 1, none⟩ = some (.int .i64 0) := ua 1
              have uf0 := ub 0
              have uf1 := ub 1
              clear ua ub
              go_wp2_with fail
              refine (awake_calls _).mono ?_
              rintro e w13 ⟨rfl, hb13⟩
              go_wp2_with fail
              go_ret
              exact ⟨rfl, HB11.out.trans (hb13.mono HB11.out.size)⟩
            · skip
              change ¬ x1 ≤ a3 at hxa
              have d9 : decide (x1 ≤ a3) = false := decide_eq_false (by omega)
              rw [hst, show headP (⟨x0, x1⟩ :: t) = .tuple #[.agg #[.int .u32 x0, .int .i64 x1], .bool true] from rfl] at HE4
              refine HE4.out.mono ?_
              rintro e w5 ⟨rfl, hb5⟩
              have HA6 := Aside0.mk (tail_box ((HA4.out.below hb5).box #[.int .u32 x0, .int .i64 x1] 31))
              have HB6 := Aside0.mk ((HB4.out.trans (hb5.mono HA4.out.size)).alloc (HA4.out.below hb5).size (.cells #[.int .u32 x0, .int .i64 x1] 31))
              have HCC := Aside0.mk hcc
              clear hb5 HE4 HA4 HB4 hcc
              obtain ⟨pa, pb, -, -⟩ := Has.box_cell HA6.out (b := w5.heap.size) (cs := #[.int .u32 x0, .int .i64 x1]) (t := 31) (by simp)
              have pc0 : (w5.alloc (.cells #[.int .u32 x0, .int .i64 x1] 31)).cell? ⟨w5.heap.size, 0, none⟩ = some (.int .u32 x0) := pa 0
              have pc1 : (w5.alloc (.cells #[.int .u32 x0, .int .i64 x1] 31)).cell? ⟨w5.heap.size, 1, none⟩ = some (.int .i64 x1) := pa 1
              have pf0 := pb 0
              have pf1 := pb 1
              clear pa pb
              go_wp2_with fail
              clear pc0 pc1 pf0 pf1 d9
              generalize w5.alloc (.cells #[.int .u32 x0, .int .i64 x1] 31) = w6 at HA6 HB6 ⊢
              generalize w5.heap.size = b18 at HA6 ⊢
              obtain ⟨A_, c_, ev_, -, hC6⟩ := HA6.out.reads (d := k31) (e := 31) (v := .slice Aa al.length ca) (xs := al) (by simp)
              cases ev_
              have HE6 := Aside0.mk (HER.out w6 Aa ca m hC6 HCC.out)
              clear hC6
              rw [hsu, show headP (⟨y0, y1⟩ :: u) = .tuple #[.agg #[.int .u32 y0, .int .i64 y1], .bool true] from rfl] at HE6
              refine HE6.out.mono ?_
              rintro e w7 ⟨rfl, hb7⟩
              have HA8 := Aside0.mk (tail_box ((head_box (HA6.out.below hb7)).tail.box #[.int .u32 y0, .int .i64 y1] 31))
              have HB8 := Aside0.mk ((HB6.out.trans (hb7.mono HA6.out.size)).alloc (HA6.out.below hb7).size (.cells #[.int .u32 y0, .int .i64 y1] 31))
              clear hb7 HE6 HA6 HB6
              have e9 : decide (y1 ≤ a3) = false := decide_eq_false (by omega)
              obtain ⟨pa, pb, -, -⟩ := Has.box_cell HA8.out (b := w7.heap.size) (cs := #[.int .u32 y0, .int .i64 y1]) (t := 31) (by simp)
              have pc0 : (w7.alloc (.cells #[.int .u32 y0, .int .i64 y1] 31)).cell? ⟨w7.heap.size, 0, none⟩ = some (.int .u32 y0) := pa 0
              have pc1 : (w7.alloc (.cells #[.int .u32 y0, .int .i64 y1] 31)).cell? ⟨w7.heap.size, 1, none⟩ = some (.int .i64 y1) := pa 1
              have pf0 := pb 0
              have pf1 := pb 1
              clear pa pb
              go_wp2_with fail
              clear pc0 pc1 pf0 pf1 e9
              refine (HTC.out _ _ HA8.out).mono ?_
              rintro e w10 ⟨rfl, hA, hB⟩
              rw [HTQ.out] at hA ⊢
              dsimp only [turnV, z31] at hA ⊢
              have HA11 := Aside0.mk (tail_box (hA.box #[.int .u32 0, .int .i64 0] 31))
              have HB11 := Aside0.mk ((HB8.out.trans hB).alloc hA.size (.cells #[.int .u32 0, .int .i64 0] 31))
              clear hA hB HA8 HB8 HTC HTQ
              obtain ⟨ya, yb, -, -⟩ := Has.box_cell HA11.out (b := b15) (cs := #[.int .u32 0, .int .i64 0]) (t := 31) (by simp)
              have yc0 : (w10.alloc (.cells #[.int .u32 0, .int .i64 0] 31)).cell? ⟨b15, 0, none⟩ = some (.int .u32 0) := ya 0
              have yc1 : (w10.alloc (.cells #[.int .u32 0, .int .i64 0] 31)).cell? ⟨b15, 1, none⟩ = some (.int .i64 0) := ya 1
              have yf0 := yb 0
              have yf1 := yb 1
              clear ya yb
              obtain ⟨ua, ub, -, -⟩ := Has.box_cell HA11.out (b := w10.heap.size) (cs := #[.int .u32 0, .int .i64 0]) (t := 31) (by simp)
              have uc0 : (w10.alloc (.cells #[.int .u32 0, .int .i64 0] 31)).cell? ⟨w10.heap.size, 0, none⟩ = some (.int .u32 0) := ua 0
              have uc1 : (w10.alloc (.cells #[.int .u32 0, .int .i64 0] 31)).cell? ⟨w10.heap.size, 1, none⟩ = some (.int .i64 0) := ua 1
              have uf0 := ub 0
              have uf1 := ub 1
              clear ua ub
              go_wp2_with fail
              refine (awake_calls _).mono ?_
              rintro e w13 ⟨rfl, hb13⟩
              go_wp2_with fail
              go_ret
              exact ⟨rfl, HB11.out.trans (hb13.mono HB11.out.size)⟩
end Go.Proofs.Ytpnoghnhlddjeaa.Wk
