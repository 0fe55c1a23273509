/- Each task once, when it is due, and soon: walked. -/
import Derived.Test.YtpnoghnhlddjeaaWorkP
namespace Go.Proofs.Ytpnoghnhlddjeaa.Wk
open Go.RowKit Go.Proofs.YtpnoghnhlddjeaaW.PrintWords Go.Proofs.YtpnoghnhlddjeaaW.PrintLast Go.Proofs.YtpnoghnhlddjeaaW.PrintMore Go.Proofs.Ytpnoghnhlddjeaa.Q Go.Proofs.Ytpnoghnhlddjeaa.Own Go.Proofs.Ytpnoghnhlddjeaa.Hp
set_option linter.unusedVariables false
set_option linter.unusedSimpArgs false
attribute [local go_sem ↓] Go.wp_at_zero Go.wp_at_succ

theorem row_grown {α : Type} {d : Kd α} {e : Nat} {B : Nat} {W w1 : World} {Ts : List Th} {ys : List α} {F : Nat → Prop} {v v1 : Value} (hFb : ∀ k, F k → B ≤ k ∧ k < W.heap.size)
    (put : ∀ (w' : World) (F' : Nat → Prop) (T' : Th), KeepF F W w' → T'.on w' F' → (∀ k, F' k → (F k ∨ W.heap.size ≤ k) ∧ k < w'.heap.size) → Has B w' (T' :: Ts) ∧ Below B W w')
    (hv : ∀ k, v.ownBlock = some k → F k) (hg : W.grownBy w1 v.ownBlock) (hr : d.R e w1 0 (fun k => F k ∨ W.heap.size ≤ k) v1 ys) : Has B w1 (rowT d e v1 ys :: Ts) ∧ Below B W w1 :=
  put w1 (fun k => (F k ∨ W.heap.size ≤ k) ∧ k < w1.heap.size) (rowT d e v1 ys) (KeepF.grown (KeepF.refl F W) hg fun k e => .inl (hv k e)) (Kd.R_mono (Kd.R_bound hr) fun k hk => ⟨hk.1, hk.2.2.1⟩) (fun k hk => hk)
theorem act_good {x : S46} (h : good46 x) : GoodT x.f1 := good_T h.2.1
abbrev rowK (u : Value) (th : List S31) : Th := rowT k31 31 u th
/-- What is kept from call to call: the tasks that are there are the workers'. -/
def OnceI (n : Nat) (hs : List (List S31)) (th : List S31) : Prop := HomeS hs ∧ hs.length = n ∧ th.Perm hs.flatten
abbrev actT (b : Nat) (kd r t k : Int) : Th := boxT b #[.int .u8 kd, .int .u32 r, .int .i64 t, .int .i64 k] 46
set_option maxHeartbeats 8000000 in
set_option maxRecDepth 100000 in
theorem once_law (a0 : Int) (A1 : Option Addr) (c1 : Nat) (l1 : List S46) (a2 : Int) (W : World) (hr1 : Kd.C k46 W A1 l1.length l1) (hc1 : l1.length ≤ c1) (w0 : (Lit.int .i64 a0).wf = true) (hm1 : l1.length ≤ 9223372036854775807) (y1 : l1.length * 32 ≤ 140737488351232) (hg1 : ∀ x ∈ l1, good46 x) (w2 : (Lit.int .i64 a2).wf = true) :
    Calls Try.prog 6 #[.int .i64 a0, .slice A1 l1.length c1, .int .i64 a2] W fun e w' => e = .returned (.bool true) ∧ Below W.heap.size W w' := by
  have hu := Try.underlying31
  have hu46 := Try.underlying46
  have HG : Aside0 (∀ x ∈ l1, GoodT x.f1) := ⟨fun x hx => act_good (hg1 x hx)⟩
  have HC := Aside0.mk hr1
  clear hr1 hg1 y1 hc1 w0 w2
  by_cases h200 : (l1.length : Int) > 200
  · have d1 : decide ((l1.length : Int) > 200) = true := decide_eq_true h200
    go_enter Try.func6, Try.ntmps6
    go_wp2_with fail
    refine (awake_calls _).mono ?_
    rintro e w1 ⟨rfl, hb⟩
    go_wp2_with fail
    go_ret
    exact ⟨rfl, hb⟩
  have d1 : decide ((l1.length : Int) > 200) = false := decide_eq_false h200
  have hl : l1.length ≤ 200 := by omega
  clear h200
  go_enter Try.func6, Try.ntmps6
  go_wp2_with fail
  clear d1
  obtain ⟨n, hn1, hn4, en⟩ := wrap_n a0
  generalize wrap64 (1 + wrap64 ((IntKind.u64.wrap a0).tmod 4)) = ni at en ⊢
  subst en
  refine (new_good n hn1 hn4 (Has.nil W)).mono ?_
  rintro e w1 ⟨p, v, ps, rfl, hps, hA, hB⟩
  have HA0 : Aside0 (Has W.heap.size w1 (workL p v ps (List.replicate n []) ++ [rowK (.slice none 0 0) []])) := ⟨tail_box (hA.row (Below.refl _ _) (Kd.R_nil _ _ _ _ _))⟩
  have HB0 := Aside0.mk hB
  have HPS := Aside0.mk hps
  clear hA hB hps
  go_wp2_with fail
  go_loopw [10, 9] (fun i o wr => ∃ (k : Nat) (hs : List (List S31)) (th : List S31) (u : Value), i = .int .i64 k ∧ u = o ∧ k ≤ l1.length ∧ Aside0 (OnceI n hs th) ∧ Aside0 (hs.flatten.length ≤ k) ∧ Aside0 (Has W.heap.size wr (workL p v ps hs ++ [rowK u th])) ∧ Aside0 (Below W.heap.size W wr)) (fun i _ _ => l1.length - (intOf i).toNat)
  case atStart => exact ⟨0, List.replicate n [], [], _, rfl, rfl, by omega, ⟨home_start hn1 hn4, List.length_replicate, by rw [flat_one]⟩, ⟨by rw [flat_one]; exact Nat.le_refl _⟩, HA0, HB0⟩
  case round =>
    clear HA0 HB0
    obtain ⟨k, hs, th, u, rfl, rfl, hk, HI, HF, HA, HB⟩ := hrel
    by_cases hlt : k < l1.length
    · obtain ⟨ad, rfl, hi2, hi3, hi4, hi5⟩ := at_T46 HC.out (k : Int) (by omega) (by omega)
      replace hi2 := pw_cell_below HB.out hi2
      replace hi3 := pw_cell_below HB.out hi3
      replace hi4 := pw_cell_below HB.out hi4
      replace hi5 := pw_cell_below HB.out hi5
      rw [Int.toNat_natCast] at hi2 hi3 hi4 hi5
      have d1 : decide ((k : Int) < (l1.length : Int)) = true := decide_eq_true (by omega)
      have d2 : decide (0 ≤ (k : Int)) = true := decide_eq_true (by omega)
      have hxg : GoodT (rd_T46 l1 (k : Int)).f1 := HG.out _ (by unfold rd_T46; rw [Int.toNat_natCast, List.getD_eq_getElem?_getD, List.getElem?_eq_getElem hlt]; exact List.getElem_mem hlt)
      generalize rd_T46 l1 (k : Int) = x at hi2 hi3 hi4 hi5 hxg
      obtain ⟨kd, ⟨r, t⟩, wk⟩ := x
      dsimp only at hi2 hi3 hi4 hi5
      have HXG := Aside0.mk hxg
      clear hxg
      have HA1 := Aside0.mk (tail_box (HA.out.box #[.int .u8 kd, .int .u32 r, .int .i64 t, .int .i64 wk] 46))
      have HB1 := Aside0.mk (HB.out.alloc HA.out.size (.cells #[.int .u8 kd, .int .u32 r, .int .i64 t, .int .i64 wk] 46))
      have HL : Aside0 (ps.length = hs.length) := ⟨HPS.out.trans HI.out.2.1.symm⟩
      have hthl : th.length ≤ 1000000 := by have := HI.out.2.2.length_eq; have := HF.out; omega
      obtain ⟨qa, -, -, -⟩ := Has.box_cell HA1.out (b := wr.heap.size) (cs := #[.int .u8 kd, .int .u32 r, .int .i64 t, .int .i64 wk]) (t := 46) (by simp)
      have q0 : (wr.alloc (.cells #[.int .u8 kd, .int .u32 r, .int .i64 t, .int .i64 wk] 46)).cell? ⟨wr.heap.size, 0, none⟩ = some (.int .u8 kd) := qa 0
      have q1 : (wr.alloc (.cells #[.int .u8 kd, .int .u32 r, .int .i64 t, .int .i64 wk] 46)).cell? ⟨wr.heap.size, 1, none⟩ = some (.int .u32 r) := qa 1
      have q2 : (wr.alloc (.cells #[.int .u8 kd, .int .u32 r, .int .i64 t, .int .i64 wk] 46)).cell? ⟨wr.heap.size, 2, none⟩ = some (.int .i64 t) := qa 2
      have q3 : (wr.alloc (.cells #[.int .u8 kd, .int .u32 r, .int .i64 t, .int .i64 wk] 46)).cell? ⟨wr.heap.size, 3, none⟩ = some (.int .i64 wk) := qa 3
      clear qa HA HB
      have hhp : 0 < hs.length := HI.out.1.pos
      have hU : Aside0 (Unlike th) := ⟨unlike_perm HI.out.2.2.symm (home_unlike HI.out.1)⟩
      have hhp : 0 < hs.length := HI.out.1.pos
      have hU : Aside0 (Unlike th) := ⟨unlike_perm HI.out.2.2.symm (home_unlike HI.out.1)⟩
      have hhp : 0 < hs.length := HI.out.1.pos
      have hU : Aside0 (Unlike th) := ⟨unlike_perm HI.out.2.2.symm (home_unlike HI.out.1)⟩
      have hhp : 0 < hs.length := HI.out.1.pos
      have hU : Aside0 (Unlike th) := ⟨unlike_perm HI.out.2.2.symm (home_unlike HI.out.1)⟩
      have hhp : 0 < hs.length := HI.out.1.pos
      have hU : Aside0 (Unlike th) := ⟨unlike_perm HI.out.2.2.symm (home_unlike HI.out.1)⟩
      have hhp : 0 < hs.length := HI.out.1.pos
      have hU : Aside0 (Unlike th) := ⟨unlike_perm HI.out.2.2.symm (home_unlike HI.out.1)⟩
      have hhp : 0 < hs.length := HI.out.1.pos
      have hU : Aside0 (Unlike th) := ⟨unlike_perm HI.out.2.2.symm (home_unlike HI.out.1)⟩
      have hhp : 0 < hs.length := HI.out.1.pos
      have hU : Aside0 (Unlike th) := ⟨unlike_perm HI.out.2.2.symm (home_unlike HI.out.1)⟩
      by_cases hk2 : kd.tmod 4 = 2
      · skip
        have e2 : (kd.tmod 4 == 2) = true := beq_iff_eq.2 hk2
        go_wp2_with fail
        generalize wr.alloc (.cells #[.int .u8 kd, .int .u32 r, .int .i64 t, .int .i64 wk] 46) = w3 at HA1 HB1 q0 q1 q2 q3 ⊢
        generalize wr.heap.size = b1 at HA1 q0 q1 q2 q3 ⊢
        clear hi2 hi3 hi4 hi5 e2 hk2
        have HHT : Aside0 (HomeS (turnR hs wk t).hs ∧ (turnR hs wk t).hs.length = n ∧ (turnR hs wk t).hs.flatten.length ≤ k + 1) := ⟨home_turn HI.out.1 wk t, (turnR_length hs wk t).trans HI.out.2.1, by have := turn_len hs wk t; have := HF.out; omega⟩
        have HTO := Aside0.mk (fun (h : (turnR hs wk t).ok = true) => turn_ok h hhp)
        have HTN := Aside0.mk (fun (h : (turnR hs wk t).ok = false) => turn_no h)
        have HTC := Aside0.mk (turn_calls HA1.out HL.out wk t)
        generalize turnR hs wk t = R at HHT HTO HTN HTC
        obtain ⟨⟨x0, x1⟩, st, ok, hs'⟩ := R
        dsimp only [turnV] at HHT HTO HTN HTC
        refine HTC.out.mono ?_
        rintro e w4 ⟨rfl, hA, hB⟩
        have HA5 := Aside0.mk (tail_box (hA.box #[.int .u32 x0, .int .i64 x1] 31))
        have HB5 := Aside0.mk ((HB1.out.trans hB).alloc hA.size (.cells #[.int .u32 x0, .int .i64 x1] 31))
        clear hA hB HTC HA1 HB1 q0 q1 q2 q3
        cases ok
        · skip
          obtain rfl : hs' = hs := HTN.out rfl
          go_wp2_with fail
          go_roundw
          case rel => exact ⟨k + 1, hs', th, u, rfl, rfl, by omega, HI, ⟨HHT.out.2.2⟩, ⟨(head_box (head_box HA5.out).tail).tail⟩, HB5⟩
          case measure => simp [intOf]; omega
        · skip
          obtain ⟨hpx, hxa⟩ := HTO.out rfl
          have hmem : (⟨x0, x1⟩ : S31) ∈ th := HI.out.2.2.mem_iff.2 (hpx.mem_iff.2 (List.mem_cons_self ..))
          have HI2 : Aside0 (OnceI n hs' (dropT th ⟨x0, x1⟩)) := ⟨HHT.out.1, HHT.out.2.1, by rw [dropT_eq hU.out hmem]; exact without_perm hU.out (HI.out.2.2.trans hpx)⟩
          obtain ⟨Au, cu, rfl, hcu, hCu⟩ := HA5.out.reads (d := k31) (e := 31) (v := u) (xs := th) (by simp)
          have HHAS := Aside0.mk (hasT_calls hCu hcu hthl ⟨x0, x1⟩)
          rw [hasT_true hmem] at HHAS
          clear hCu hpx hmem HTO HTN
          have d9 : decide (x1 > t) = false := decide_eq_false (by omega)
          have d8 : ¬ t < x1 := by omega
          obtain ⟨qa, -, -, -⟩ := Has.box_cell HA5.out (b := w4.heap.size) (cs := #[.int .u32 x0, .int .i64 x1]) (t := 31) (by simp)
          have pc0 : (w4.alloc (.cells #[.int .u32 x0, .int .i64 x1] 31)).cell? ⟨w4.heap.size, 0, none⟩ = some (.int .u32 x0) := qa 0
          have pc1 : (w4.alloc (.cells #[.int .u32 x0, .int .i64 x1] 31)).cell? ⟨w4.heap.size, 1, none⟩ = some (.int .i64 x1) := qa 1
          clear qa
          go_wp2_with fail
          refine HHAS.out.mono ?_
          rintro e w6 ⟨rfl, hb6⟩
          have HA7 := Aside0.mk (HA5.out.below hb6)
          have HB7 := Aside0.mk (HB5.out.trans (hb6.mono HA5.out.size))
          clear hb6 HHAS pc0 pc1 HA5 HB5
          generalize w4.heap.size = b3 at HA7 ⊢
          obtain ⟨qa, -, -, -⟩ := Has.box_cell HA7.out (b := b3) (cs := #[.int .u32 x0, .int .i64 x1]) (t := 31) (by simp)
          have pc0 : w6.cell? ⟨b3, 0, none⟩ = some (.int .u32 x0) := qa 0
          have pc1 : w6.cell? ⟨b3, 1, none⟩ = some (.int .i64 x1) := qa 1
          clear qa
          obtain ⟨qa, -, -, -⟩ := Has.box_cell HA7.out (b := b1) (cs := #[.int .u8 kd, .int .u32 r, .int .i64 t, .int .i64 wk]) (t := 46) (by simp)
          have q2 : w6.cell? ⟨b1, 2, none⟩ = some (.int .i64 t) := qa 2
          clear qa
          obtain ⟨A_, c_, ev_, -, hCu⟩ := HA7.out.reads (d := k31) (e := 31) (v := .slice Au th.length cu) (xs := th) (by simp)
          cases ev_
          have HDR := Aside0.mk (dropT_calls hCu hcu hthl ⟨x0, x1⟩)
          clear hCu hxa
          go_wp2_with fail
          refine HDR.out.mono ?_
          rintro e w8 ⟨v8, rfl, hr, hb⟩
          have HA9 := Aside0.mk (drop2 (drop2 (drop2 (tail_box (HA7.out.row hb hr)))))
          have HB9 := Aside0.mk (HB7.out.trans (hb.mono HA7.out.size))
          clear hr hb HDR pc0 pc1 q2 HA7 HB7 d9 d8
          go_wp2_with fail
          go_roundw
          case rel => exact ⟨k + 1, hs', _, v8, rfl, rfl, by omega, HI2, ⟨HHT.out.2.2⟩, HA9, HB9⟩
          case measure => simp [intOf]; omega
      by_cases hk3 : kd.tmod 4 = 3
      · skip
        have e2 : (kd.tmod 4 == 2) = false := beq_eq_false_iff_ne.2 hk2
        have e3 : (kd.tmod 4 == 3) = true := beq_iff_eq.2 hk3
        go_wp2_with fail
        generalize wr.alloc (.cells #[.int .u8 kd, .int .u32 r, .int .i64 t, .int .i64 wk] 46) = w3 at HA1 HB1 q0 q1 q2 q3 ⊢
        generalize wr.heap.size = b1 at HA1 q0 q1 q2 q3 ⊢
        clear hi2 hi3 hi4 hi5 e2 e3 hk2 hk3 q0 q2 q3
        have hj : homeOf r ps.length < hs.length := by rw [HL.out]; exact Nat.mod_lt _ hhp
        have HDC := Aside0.mk (drop_calls HA1.out HL.out (by have := HL.out; omega) r HXG.out.1 HXG.out.2)
        generalize homeOf r ps.length = j at hj HDC
        refine HDC.out.mono ?_
        rintro e w4 ⟨rfl, hA, hB⟩
        have HA4 := Aside0.mk hA
        have HB4 := Aside0.mk (HB1.out.trans hB)
        clear hA hB HDC HA1 HB1 q1
        cases hh : hasL (hs.getD j []) r
        · skip
          rw [drop_none hh] at HA4
          clear hh
          go_wp2_with fail
          go_roundw
          case rel => exact ⟨k + 1, hs, th, u, rfl, rfl, by omega, HI, ⟨by have := HF.out; omega⟩, ⟨(head_box HA4.out).tail⟩, HB4⟩
          case measure => simp [intOf]; omega
        · skip
          obtain ⟨y, hyr, hpy⟩ := drop_perm HI.out.1 hj hh
          have hpt : th.Perm (y :: (hs.set j (withoutL (hs.getD j []) r)).flatten) := HI.out.2.2.trans hpy
          have hht : Aside0 (hasL th r = true) := ⟨hasL_true.2 ⟨y, hpt.mem_iff.2 (List.mem_cons_self ..), hyr⟩⟩
          have HI2 : Aside0 (OnceI n (hs.set j (withoutL (hs.getD j []) r)) (withoutL th r)) := ⟨home_drop HI.out.1 j r, (List.length_set ..).trans HI.out.2.1, by rw [← hyr]; rw [← hyr] at hpt; exact without_perm hU.out hpt⟩
          have HF2 : Aside0 ((hs.set j (withoutL (hs.getD j []) r)).flatten.length ≤ k + 1) := ⟨by have := sub_len hs j (s := withoutL (hs.getD j []) r) List.filter_sublist; have := HF.out; omega⟩
          have hwl : (withoutL th r).length + 1 = th.length := without_len hU.out hht.out
          have HDT : Aside0 (∀ z ∈ th, z.f0 = r → dropT th z = withoutL th r) := ⟨fun z hz e => by rw [dropT_eq hU.out hz, e]⟩
          generalize hs.set j (withoutL (hs.getD j []) r) = hs2 at HA4 HI2 HF2
          clear hh hyr hpy hpt hj HI HF
          obtain ⟨Au, cu, rfl, hcu, -⟩ := HA4.out.reads (d := k31) (e := 31) (v := u) (xs := th) (by simp)
          have HCU := Aside0.mk hcu
          have HWL := Aside0.mk hwl
          have HTL := Aside0.mk hthl
          clear hcu hwl hthl d2
          go_wp2_with fail
          go_loopw [16, 9] (fun i o wr2 => ∃ q : Nat, i = .int .i64 q ∧ o = .slice Au th.length cu ∧ q ≤ th.length ∧ Aside0 (∀ m : Nat, m < q → (rd_T31 th (m : Int)).f0 ≠ r) ∧ Aside0 (Has W.heap.size wr2 (workL p v ps hs2 ++ [actT b1 kd r t wk, rowK (.slice Au th.length cu) th])) ∧ Aside0 (Below W.heap.size W wr2)) (fun i _ _ => th.length - (intOf i).toNat)
          case atStart => exact ⟨0, rfl, rfl, by omega, ⟨fun m h => absurd h (Nat.not_lt_zero _)⟩, HA4, HB4⟩
          case round =>
            clear HA4 HB4
            obtain ⟨q, rfl, rfl, hq, HN, HA, HB⟩ := hrel
            by_cases hqt : q < th.length
            · skip
              obtain ⟨A_, c_, ev_, -, hCu⟩ := HA.out.reads (d := k31) (e := 31) (v := .slice Au th.length cu) (xs := th) (by simp)
              cases ev_
              have HCR := Aside0.mk hCu
              obtain ⟨ae, rfl, g2, g3⟩ := at_T31 hCu (q : Int) (by omega) (by omega)
              rw [Int.toNat_natCast] at g2 g3
              have d4 : decide ((q : Int) < (th.length : Int)) = true := decide_eq_true (by omega)
              have d5 : (q : Int) < (th.length : Int) := by omega
              clear hCu
              obtain ⟨qa, -, -, -⟩ := Has.box_cell HA.out (b := b1) (cs := #[.int .u8 kd, .int .u32 r, .int .i64 t, .int .i64 wk]) (t := 46) (by simp)
              have q1 : wr.cell? ⟨b1, 1, none⟩ = some (.int .u32 r) := qa 1
              clear qa
              have hzm : rd_T31 th (q : Int) ∈ th := rd_mem hqt
              by_cases hz : (rd_T31 th (q : Int)).f0 = r
              · skip
                have hdt := HDT.out _ hzm hz
                clear hzm
                generalize rd_T31 th (q : Int) = z at g2 g3 hz hdt
                obtain ⟨z0, z1⟩ := z
                dsimp only at g2 g3 hz
                have e5 : (z0 == r) = true := beq_iff_eq.2 hz
                have HDR := Aside0.mk (fun (w : World) (hC : Kd.C k31 w (some ae) th.length th) => dropT_calls hC HCU.out HTL.out ⟨z0, z1⟩)
                rw [hdt] at HDR
                clear hdt hz
                go_wp2_with fail
                refine start_ (n := 9) (S := fun w' => w'.cell? (ae.add (q * 2)) = some (.int .u32 z0) ∧ w'.cell? ⟨b1, 1, none⟩ = some (.int .u32 r)) (ds := []) #[false, false, false, false, false, false, false, false, false] (by kernel_rfl) rfl rfl ⟨g2, q1⟩ (fun hHeld => ?_)
                refine pure_ (i := 0) (N := some 108) (v := ?_) (a' := ?_) #[true, false, false, false, false, false, false, false, false] rfl rfl (by kernel_rfl) (fun _ _ _ h => h) (Or.inl ⟨by rfl, ?_⟩) ?_ ?_
                rotate_left
                · intro w'
                  go_simp
                  with_reducible rfl
                rotate_left
                · simp only [Act.put, List.setIfInBounds_toArray, List.set_cons_zero, List.set_cons_succ, i64_w, i32_w]
                  rfl
                refine pure_ (i := 1) (N := some 109) (v := ?_) (a' := ?_) #[true, true, false, false, false, false, false, false, false] rfl rfl (by kernel_rfl) (fun _ _ _ h => h) (Or.inl ⟨by rfl, ?_⟩) ?_ ?_
                rotate_left
                · intro w'
                  go_simp
                  with_reducible rfl
                rotate_left
                · simp only [Act.put, List.setIfInBounds_toArray, List.set_cons_zero, List.set_cons_succ, i64_w, i32_w]
                  rfl
                refine pure_ (i := 2) (N := some 110) (v := ?_) (a' := ?_) #[true, true, true, false, false, false, false, false, false] rfl rfl (by kernel_rfl) (fun _ _ _ h => h) (Or.inl ⟨by rfl, ?_⟩) ?_ ?_
                rotate_left
                · intro w'
                  go_simp
                  with_reducible rfl
                rotate_left
                · simp only [Act.put, List.setIfInBounds_toArray, List.set_cons_zero, List.set_cons_succ, i64_w, i32_w]
                  rfl
                refine pure_ (i := 3) (N := some 111) (v := ?_) (a' := ?_) #[true, true, true, true, false, false, false, false, false] rfl rfl (by kernel_rfl) (fun _ _ _ h => h) (Or.inl ⟨by rfl, ?_⟩) ?_ ?_
                rotate_left
                · intro w'
                  go_simp
                  with_reducible rfl
                rotate_left
                · simp only [Act.put, List.setIfInBounds_toArray, List.set_cons_zero, List.set_cons_succ, i64_w, i32_w]
                  rfl
                refine pure_ (i := 5) (N := some 113) (v := ?_) (a' := ?_) #[true, true, true, true, false, true, false, false, false] rfl rfl (by kernel_rfl) (fun _ _ _ h => h) (Or.inl ⟨by rfl, ?_⟩) ?_ ?_
                rotate_left
                · intro w'
                  go_simp
                  with_reducible rfl
                rotate_left
                · simp only [Act.put, List.setIfInBounds_toArray, List.set_cons_zero, List.set_cons_succ, i64_w, i32_w]
                  rfl
                refine pure_ (i := 6) (N := some 114) (v := ?_) (a' := ?_) #[true, true, true, true, false, true, true, false, false] rfl rfl (by kernel_rfl) (fun _ _ _ h => h) (Or.inl ⟨by rfl, ?_⟩) ?_ ?_
                rotate_left
                · intro w'
                  go_simp
                  with_reducible rfl
                rotate_left
                · simp only [Act.put, List.setIfInBounds_toArray, List.set_cons_zero, List.set_cons_succ, i64_w, i32_w]
                  rfl
                refine take_ (i := 4) (N := some 112) (v := ?_) (a' := ?_) #[true, true, true, true, true, true, true, false, false] rfl rfl (by kernel_rfl) (fun _ _ _ h => h) (Or.inl ⟨by rfl, ?_⟩) hHeld ?_ ?_
                rotate_left
                · rintro w' ⟨s0, s1⟩
                  go_simp
                  with_reducible rfl
                rotate_left
                · simp only [Act.put, List.setIfInBounds_toArray, List.set_cons_zero, List.set_cons_succ, i64_w, i32_w]
                  rfl
                refine take_ (i := 7) (N := some 115) (v := ?_) (a' := ?_) #[true, true, true, true, true, true, true, true, false] rfl rfl (by kernel_rfl) (fun _ _ _ h => h) (Or.inl ⟨by rfl, ?_⟩) hHeld ?_ ?_
                rotate_left
                · rintro w' ⟨s0, s1⟩
                  go_simp
                  with_reducible rfl
                rotate_left
                · simp only [Act.put, List.setIfInBounds_toArray, List.set_cons_zero, List.set_cons_succ, i64_w, i32_w]
                  rfl
                refine pure_ (i := 8) (N := some 116) (v := ?_) (a' := ?_) #[true, true, true, true, true, true, true, true, true] rfl rfl (by kernel_rfl) (fun _ _ _ h => h) (Or.inl ⟨by rfl, ?_⟩) ?_ ?_
                rotate_left
                · intro w'
                  go_simp
                  with_reducible rfl
                rotate_left
                · simp only [Act.put, List.setIfInBounds_toArray, List.set_cons_zero, List.set_cons_succ, i64_w, i32_w]
                  rfl
                refine done_ (by kernel_rfl) ?_

                clear e5 q1
                have g2' : wr.drew.cell? (ae.add (q * 2)) = some (.int .u32 z0) := g2
                have g3' : wr.drew.cell? ⟨(ae.add (q * 2)).block, (ae.add (q * 2)).off + 1, none⟩ = some (.int .i64 z1) := g3
                clear g2 g3
                go_wp2_with fail
                refine (HDR.out _ (Kd.C_below HCR.out (below_drew (Below.refl _ wr)))).mono ?_
                rintro e w8 ⟨v8, rfl, hr, hb⟩
                have HA9 := Aside0.mk (drop2 (drop2 (tail_box (HA.out.drew.row hb hr))))
                have HB9 := Aside0.mk ((HB.out.trans (below_drew (Below.refl _ wr))).trans (hb.mono HA.out.size))
                obtain ⟨A8, c8, rfl, -, -⟩ := Kd.R_reads hr
                clear hr hb HDR g2' g3' HA HB d4 d5 HCR
                have hwl := HWL.out
                have htl := HTL.out
                generalize withoutL th r = th2 at HA9 HI2 hwl ⊢
                have e6 : ((th2.length : Int) == wrap64 ((th.length : Int) - 1)) = true := by rw [beq_iff_eq]; unfold wrap64; omega
                have e7 : ((th2.length : Int) == (th.length : Int) - 1) = true := by rw [beq_iff_eq]; omega
                have e8 : 1 ≤ th.length := by omega
                clear hwl
                go_wp2_with fail
                go_roundw
                case rel => exact ⟨k + 1, hs2, th2, _, rfl, rfl, by omega, HI2, HF2, HA9, HB9⟩
                case measure => simp [intOf]; omega
              · skip
                have HN2 : Aside0 (∀ m : Nat, m < q + 1 → (rd_T31 th (m : Int)).f0 ≠ r) := ⟨fun m h => by
                  rcases Nat.lt_succ_iff_lt_or_eq.1 h with h | rfl
                  · exact HN.out m h
                  · exact hz⟩
                clear hzm HN
                generalize rd_T31 th (q : Int) = z at g2 g3 hz
                obtain ⟨z0, z1⟩ := z
                dsimp only at g2 g3 hz
                have e5 : (z0 == r) = false := beq_eq_false_iff_ne.2 hz
                have htl := HTL.out
                clear hz
                go_wp2_with fail
                refine start_ (n := 9) (S := fun w' => w'.cell? (ae.add (q * 2)) = some (.int .u32 z0) ∧ w'.cell? ⟨b1, 1, none⟩ = some (.int .u32 r)) (ds := []) #[false, false, false, false, false, false, false, false, false] (by kernel_rfl) rfl rfl ⟨g2, q1⟩ (fun hHeld => ?_)
                refine pure_ (i := 0) (N := some 108) (v := ?_) (a' := ?_) #[true, false, false, false, false, false, false, false, false] rfl rfl (by kernel_rfl) (fun _ _ _ h => h) (Or.inl ⟨by rfl, ?_⟩) ?_ ?_
                rotate_left
                · intro w'
                  go_simp
                  with_reducible rfl
                rotate_left
                · simp only [Act.put, List.setIfInBounds_toArray, List.set_cons_zero, List.set_cons_succ, i64_w, i32_w]
                  rfl
                refine pure_ (i := 1) (N := some 109) (v := ?_) (a' := ?_) #[true, true, false, false, false, false, false, false, false] rfl rfl (by kernel_rfl) (fun _ _ _ h => h) (Or.inl ⟨by rfl, ?_⟩) ?_ ?_
                rotate_left
                · intro w'
                  go_simp
                  with_reducible rfl
                rotate_left
                · simp only [Act.put, List.setIfInBounds_toArray, List.set_cons_zero, List.set_cons_succ, i64_w, i32_w]
                  rfl
                refine pure_ (i := 2) (N := some 110) (v := ?_) (a' := ?_) #[true, true, true, false, false, false, false, false, false] rfl rfl (by kernel_rfl) (fun _ _ _ h => h) (Or.inl ⟨by rfl, ?_⟩) ?_ ?_
                rotate_left
                · intro w'
                  go_simp
                  with_reducible rfl
                rotate_left
                · simp only [Act.put, List.setIfInBounds_toArray, List.set_cons_zero, List.set_cons_succ, i64_w, i32_w]
                  rfl
                refine pure_ (i := 3) (N := some 111) (v := ?_) (a' := ?_) #[true, true, true, true, false, false, false, false, false] rfl rfl (by kernel_rfl) (fun _ _ _ h => h) (Or.inl ⟨by rfl, ?_⟩) ?_ ?_
                rotate_left
                · intro w'
                  go_simp
                  with_reducible rfl
                rotate_left
                · simp only [Act.put, List.setIfInBounds_toArray, List.set_cons_zero, List.set_cons_succ, i64_w, i32_w]
                  rfl
                refine pure_ (i := 5) (N := some 113) (v := ?_) (a' := ?_) #[true, true, true, true, false, true, false, false, false] rfl rfl (by kernel_rfl) (fun _ _ _ h => h) (Or.inl ⟨by rfl, ?_⟩) ?_ ?_
                rotate_left
                · intro w'
                  go_simp
                  with_reducible rfl
                rotate_left
                · simp only [Act.put, List.setIfInBounds_toArray, List.set_cons_zero, List.set_cons_succ, i64_w, i32_w]
                  rfl
                refine pure_ (i := 6) (N := some 114) (v := ?_) (a' := ?_) #[true, true, true, true, false, true, true, false, false] rfl rfl (by kernel_rfl) (fun _ _ _ h => h) (Or.inl ⟨by rfl, ?_⟩) ?_ ?_
                rotate_left
                · intro w'
                  go_simp
                  with_reducible rfl
                rotate_left
                · simp only [Act.put, List.setIfInBounds_toArray, List.set_cons_zero, List.set_cons_succ, i64_w, i32_w]
                  rfl
                refine take_ (i := 4) (N := some 112) (v := ?_) (a' := ?_) #[true, true, true, true, true, true, true, false, false] rfl rfl (by kernel_rfl) (fun _ _ _ h => h) (Or.inl ⟨by rfl, ?_⟩) hHeld ?_ ?_
                rotate_left
                · rintro w' ⟨s0, s1⟩
                  go_simp
                  with_reducible rfl
                rotate_left
                · simp only [Act.put, List.setIfInBounds_toArray, List.set_cons_zero, List.set_cons_succ, i64_w, i32_w]
                  rfl
                refine take_ (i := 7) (N := some 115) (v := ?_) (a' := ?_) #[true, true, true, true, true, true, true, true, false] rfl rfl (by kernel_rfl) (fun _ _ _ h => h) (Or.inl ⟨by rfl, ?_⟩) hHeld ?_ ?_
                rotate_left
                · rintro w' ⟨s0, s1⟩
                  go_simp
                  with_reducible rfl
                rotate_left
                · simp only [Act.put, List.setIfInBounds_toArray, List.set_cons_zero, List.set_cons_succ, i64_w, i32_w]
                  rfl
                refine pure_ (i := 8) (N := some 116) (v := ?_) (a' := ?_) #[true, true, true, true, true, true, true, true, true] rfl rfl (by kernel_rfl) (fun _ _ _ h => h) (Or.inl ⟨by rfl, ?_⟩) ?_ ?_
                rotate_left
                · intro w'
                  go_simp
                  with_reducible rfl
                rotate_left
                · simp only [Act.put, List.setIfInBounds_toArray, List.set_cons_zero, List.set_cons_succ, i64_w, i32_w]
                  rfl
                refine done_ (by kernel_rfl) ?_

                clear e5 q1 g2 g3
                go_wp2_with fail
                go_roundw
                case rel => exact ⟨q + 1, rfl, rfl, by omega, HN2, ⟨HA.out.drew⟩, ⟨HB.out.trans (below_drew (Below.refl _ wr))⟩⟩
                case measure => simp [intOf]; omega
            · skip
              exfalso
              obtain ⟨y, hy, hyr⟩ := hasL_true.1 hht.out
              obtain ⟨m, hm, rfl⟩ := List.getElem_of_mem hy
              refine HN.out m (by omega) ?_
              rw [rd_nat th hm]
              exact hyr
      · skip
        have e2 : (kd.tmod 4 == 2) = false := beq_eq_false_iff_ne.2 hk2
        have e3 : (kd.tmod 4 == 3) = false := beq_eq_false_iff_ne.2 hk3
        go_wp2_with fail
        generalize wr.alloc (.cells #[.int .u8 kd, .int .u32 r, .int .i64 t, .int .i64 wk] 46) = w3 at HA1 HB1 q0 q1 q2 q3 ⊢
        generalize wr.heap.size = b1 at HA1 q0 q1 q2 q3 ⊢
        clear hi2 hi3 hi4 hi5 e2 e3 hk2 hk3 q0 q1 q2 q3
        have HPC := Aside0.mk (put_calls HA1.out HL.out (by have := HL.out; omega) ⟨r, t⟩ HXG.out (fun s hs' => by have := mem_flat hs'; have := HF.out; omega))
        have HHS : Aside0 (HomeS (putS hs ⟨r, t⟩) ∧ (putS hs ⟨r, t⟩).length = n ∧ (putS hs ⟨r, t⟩).flatten.length ≤ k + 1) := ⟨home_put HI.out.1 HXG.out (by have := HF.out; omega), (putS_length hs _).trans HI.out.2.1, by have := put_len hs ⟨r, t⟩; have := HF.out; omega⟩
        refine HPC.out.mono ?_
        rintro e w4 ⟨rfl, hA, hB⟩
        have HA4 := Aside0.mk hA
        have HB4 := Aside0.mk (HB1.out.trans hB)
        clear hA hB HPC HA1 HB1
        by_cases he : putE hs ⟨r, t⟩ = 0
        · skip
          have HI2 : Aside0 (OnceI n (putS hs ⟨r, t⟩) (th ++ [⟨r, t⟩])) := ⟨HHS.out.1, HHS.out.2.1, (HI.out.2.2.append_right _).trans (put_perm hhp he).symm⟩
          rw [he]
          clear he
          obtain ⟨qa, -, -, -⟩ := Has.box_cell HA4.out (b := b1) (cs := #[.int .u8 kd, .int .u32 r, .int .i64 t, .int .i64 wk]) (t := 46) (by simp)
          have q1 : w4.cell? ⟨b1, 1, none⟩ = some (.int .u32 r) := qa 1
          have q2 : w4.cell? ⟨b1, 2, none⟩ = some (.int .i64 t) := qa 2
          clear qa
          obtain ⟨F, hr, hFb, put⟩ := (head_box (L := workL p v ps (putS hs ⟨r, t⟩) ++ [actT b1 kd r t wk]) (Ts := []) (by rw [List.append_assoc]; exact HA4.out)).head
          have HR := Aside0.mk (Kd.R_mono (ok' := fun k => F k ∨ w4.heap.size ≤ k) (show Kd.R k31 31 w4 0 F u th from hr) (fun k hk => .inl hk))
          have HV := Aside0.mk (show ∀ k, u.ownBlock = some k → F k from hr.1)
          have HFB := Aside0.mk hFb
          have PUT := Aside0.mk put
          have HTL := Aside0.mk hthl
          clear hr hFb put
          go_wp2_with (refine Kd.R_append k31 (w0 := w4) (W := w4) 0 rfl _ _ 22 31 (.agg #[.int .u32 0, .int .i64 0]) 16 rfl Try.underlying22 info31 rfl (by decide) (by decide) u th ⟨r, t⟩ [.int .u32 r, .int .i64 t] (fun k => F k ∨ w4.heap.size ≤ k) (fun _ => False) rfl rfl (k31_mkM _ _ _ _) (fun _ f => f.elim) (fun k hk => .inr hk) HR.out (Below.refl _ _) (Nat.zero_le _) (by have := HTL.out; omega) ?_; rintro v5 w5 hr5 - hg5 -; have HRG := Aside0.mk (row_grown HFB.out PUT.out HV.out hg5 hr5); clear hr5 hg5)
          have HA9 : Aside0 (Has W.heap.size w5 (workL p v ps (putS hs ⟨r, t⟩) ++ [rowK v5 (th ++ [⟨r, t⟩])])) := ⟨by
            have h := HRG.out.1
            rw [List.append_nil] at h
            exact drop2 (tail_box h)⟩
          have HB9 := Aside0.mk (HB4.out.trans HRG.out.2)
          go_wp2_with fail
          go_roundw
          case rel => exact ⟨k + 1, _, _, v5, rfl, rfl, by omega, HI2, ⟨HHS.out.2.2⟩, HA9, HB9⟩
          case measure => simp [intOf]; omega
        · skip
          rw [put_no he] at HA4
          have e4 : (putE hs ⟨r, t⟩ == 0) = false := beq_eq_false_iff_ne.2 he
          generalize putE hs ⟨r, t⟩ = pe at e4 he ⊢
          go_wp2_with fail
          go_roundw
          case rel => exact ⟨k + 1, hs, th, u, rfl, rfl, by omega, HI, ⟨by have := HF.out; omega⟩, ⟨(head_box HA4.out).tail⟩, HB4⟩
          case measure => simp [intOf]; omega
    · skip
      have d1 : decide ((k : Int) < (l1.length : Int)) = false := decide_eq_false (by omega)
      have hfl : hs.flatten.length ≤ 200 := by have := HF.out; omega
      obtain ⟨hH, hhl, hth⟩ := HI.out
      have HL : Aside0 (ps.length = hs.length) := ⟨HPS.out.trans hhl.symm⟩
      obtain ⟨hg1, hg2⟩ := all_good hH (by omega)
      have htl : th.length ≤ 200 := by rw [hth.length_eq]; exact hfl
      have hal : (sortL hs.flatten).length = th.length := by rw [hg2.length_eq, hth.length_eq]
      have HMA : Aside0 (∀ x ∈ sortL hs.flatten, hasT th x = true) := ⟨fun x hx => hasT_true (hth.mem_iff.2 (hg2.mem_iff.1 hx))⟩
      have HAL := Aside0.mk (wall_calls HA.out HL.out (by omega))
      have HDU : Aside0 (due a2 hs.flatten ≤ (sortL hs.flatten).length) := ⟨by have := due_le a2 hs.flatten; rw [hg2.length_eq]; exact this⟩
      have hfe : hs.flatten.length = th.length := hth.length_eq.symm
      clear hg1 hg2 hH hhl hth HF
      generalize sortL hs.flatten = al at hal HMA HAL HDU
      go_wp2_with fail
      refine HAL.out.mono ?_
      rintro e w3 ⟨va, rfl, hr, hb⟩
      have HA3 := Aside0.mk (tail_box (HA.out.row hb hr))
      have HB3 := Aside0.mk (HB.out.trans (hb.mono HA.out.size))
      obtain ⟨Aa, ca, rfl, hca, -⟩ := Kd.R_reads hr
      obtain ⟨Au, cu, rfl, hcu, -⟩ := HA3.out.reads (d := k31) (e := 31) (v := u) (xs := th) (by simp)
      have HLN := Aside0.mk (wlen_calls HA3.out HL.out (by omega))
      rw [hfe] at HLN
      clear hr hb HAL HA HB d1 hfe
      have HCU := Aside0.mk hcu
      clear hcu
      have e1 : ((al.length : Int) == (th.length : Int)) = true := by rw [beq_iff_eq]; omega
      have e2 : (al.length : Int) = (th.length : Int) := by omega
      have HALN := Aside0.mk hal
      clear hal
      go_wp2_with fail
      refine HLN.out.mono ?_
      rintro e w4 ⟨rfl, hb⟩
      have HA4 := Aside0.mk (HA3.out.below hb)
      have HB4 := Aside0.mk (HB3.out.trans (hb.mono HA3.out.size))
      clear hb HLN HA3 HB3
      go_wp2_with fail
      have HTL := Aside0.mk htl
      clear e1 e2
      go_loopw [18] (fun i wr5 => ∃ q : Nat, i = .int .i64 q ∧ q ≤ al.length ∧ Aside0 (Has W.heap.size wr5 (workL p v ps hs ++ [rowK (.slice Aa al.length ca) al, rowK (.slice Au th.length cu) th])) ∧ Aside0 (Below W.heap.size W wr5)) (fun i _ => al.length - (intOf i).toNat)
      case atStart => exact ⟨0, rfl, by omega, HA4, HB4⟩
      case round =>
        clear HA4 HB4
        obtain ⟨q, rfl, hq, HA, HB⟩ := hrel
        by_cases hqt : q < al.length
        · skip
          obtain ⟨A_, c_, ev_, -, hCa⟩ := HA.out.reads (d := k31) (e := 31) (v := .slice Aa al.length ca) (xs := al) (by simp)
          cases ev_
          obtain ⟨A_, c_, ev_, -, hCu⟩ := HA.out.reads (d := k31) (e := 31) (v := .slice Au th.length cu) (xs := th) (by simp)
          cases ev_
          obtain ⟨ae, rfl, g2, g3⟩ := at_T31 hCa (q : Int) (by omega) (by omega)
          rw [Int.toNat_natCast] at g2 g3
          have d4 : decide ((q : Int) < (al.length : Int)) = true := decide_eq_true (by omega)
          have d5 : (q : Int) < (al.length : Int) := by omega
          have hab : al.length ≤ 200 := by rw [HALN.out]; exact HTL.out
          have hhx := HMA.out _ (show rd_T31 al (q : Int) ∈ al from rd_mem hqt)
          have HHX := Aside0.mk (hasT_calls hCu HCU.out (by have := HTL.out; omega) (rd_T31 al (q : Int)))
          rw [hhx] at HHX
          clear hhx hCa hCu
          generalize rd_T31 al (q : Int) = z at g2 g3 HHX
          obtain ⟨z0, z1⟩ := z
          go_wp2_with fail
          refine HHX.out.mono ?_
          rintro e w5 ⟨rfl, hb⟩
          have HA5 := Aside0.mk (HA.out.below hb)
          have HB5 := Aside0.mk (HB.out.trans (hb.mono HA.out.size))
          clear hb HHX HA HB g2 g3
          go_wp2_with fail
          go_roundw
          case rel => exact ⟨q + 1, rfl, by omega, HA5, HB5⟩
          case measure => simp [intOf]; omega
        · skip
          have d4 : decide ((q : Int) < (al.length : Int)) = false := decide_eq_false (by omega)
          have HA0 : Aside0 (Has W.heap.size wr (workL p v ps hs ++ [rowK (.slice Au th.length cu) th])) := ⟨(head_box HA.out).tail⟩
          have HDU0 : Aside0 (due a2 hs.flatten + 0 ≤ al.length) := ⟨HDU.out⟩
          have HFF : Aside0 (hs.flatten.length ≤ 200) := ⟨hfl⟩
          have HALB : Aside0 (al.length ≤ 200) := ⟨by rw [HALN.out]; exact HTL.out⟩
          have halb := HALB.out
          clear HDU hfl HL HMA HCU HTL htl HALN
          go_wp2_with fail
          go_loopw [19, 9] (fun i o wr6 => ∃ (q : Nat) (hs : List (List S31)) (th : List S31) (u : Value), i = .int .i64 q ∧ u = o ∧ q ≤ al.length ∧ Aside0 (OnceI n hs th) ∧ Aside0 (hs.flatten.length ≤ 200) ∧ Aside0 (due a2 hs.flatten + q ≤ al.length ∨ due a2 hs.flatten = 0) ∧ Aside0 (Has W.heap.size wr6 (workL p v ps hs ++ [rowK u th])) ∧ Aside0 (Below W.heap.size W wr6)) (fun i _ _ => al.length - (intOf i).toNat)
          case atStart => exact ⟨0, hs, th, _, rfl, rfl, by omega, HI, HFF, ⟨.inl HDU0.out⟩, HA0, HB⟩
          case round =>
            clear HA0 HDU0 HFF HI HA HB
            obtain ⟨q, hs, th, u, rfl, rfl, hq, HI, HF, HD, HA, HB⟩ := hrel
            by_cases hqt : q < al.length
            · skip
              have d6 : decide ((q : Int) < (al.length : Int)) = true := decide_eq_true (by omega)
              have HAQ := Aside0.mk hqt
              go_wp2_with fail
              go_loopw [20, 9] (fun i o wr7 => ∃ (j : Nat) (hs2 : List (List S31)) (th2 : List S31) (u2 : Value), i = .int .i64 j ∧ u2 = o ∧ j ≤ n ∧ Aside0 (OnceI n hs2 th2) ∧ Aside0 (hs2.flatten.length ≤ 200) ∧ Aside0 (due a2 hs2.flatten + (q + 1) ≤ al.length ∨ due a2 hs2.flatten = 0 ∨ (due a2 hs2.flatten + q ≤ al.length ∧ ∀ m, m < j → ∀ x ∈ hs2.getD m [], a2 < x.f1)) ∧ Aside0 (Has W.heap.size wr7 (workL p v ps hs2 ++ [rowK u2 th2])) ∧ Aside0 (Below W.heap.size W wr7)) (fun i _ _ => n - (intOf i).toNat)
              case atStart => exact ⟨0, hs, th, u, rfl, rfl, by omega, HI, HF, ⟨by
                rcases HD.out with h | h
                · exact .inr (.inr ⟨h, fun m hm => absurd hm (Nat.not_lt_zero _)⟩)
                · exact .inr (.inl h)⟩, HA, HB⟩
              case round =>
                clear HI HF HD HA HB
                obtain ⟨j, hs2, th2, u2, rfl, rfl, hj, HI, HF, HD, HA, HB⟩ := hrel
                by_cases hjn : j < n
                · skip
                  have d7 : decide ((j : Int) < (n : Int)) = true := decide_eq_true (by omega)
                  have HL : Aside0 (ps.length = hs2.length) := ⟨HPS.out.trans HI.out.2.1.symm⟩
                  have hhp : 0 < hs2.length := HI.out.1.pos
                  have hj2 : j < hs2.length := by rw [HI.out.2.1]; exact hjn
                  have hU : Aside0 (Unlike th2) := ⟨unlike_perm HI.out.2.2.symm (home_unlike HI.out.1)⟩
                  have HHT : Aside0 (HomeS (turnR hs2 (j : Int) a2).hs ∧ (turnR hs2 (j : Int) a2).hs.length = n ∧ (turnR hs2 (j : Int) a2).hs.flatten.length ≤ 200) := ⟨home_turn HI.out.1 _ _, (turnR_length hs2 _ _).trans HI.out.2.1, by have := turn_len hs2 (j : Int) a2; have := HF.out; omega⟩
                  have hthl : th2.length ≤ 1000000 := by have := HI.out.2.2.length_eq; have := HF.out; omega
                  have HTO := Aside0.mk (fun (h : (turnR hs2 (j : Int) a2).ok = true) => turn_ok h hhp)
                  have HTN := Aside0.mk (fun (h : (turnR hs2 (j : Int) a2).ok = false) => And.intro (turn_no h) (fun x hx => Int.not_le.1 (good_due (HI.out.1.good j) (turn_not hj2 h) x hx)))
                  have HTC := Aside0.mk (turn_calls HA.out HL.out (j : Int) a2)
                  generalize turnR hs2 (j : Int) a2 = R at HHT HTO HTN HTC
                  obtain ⟨⟨x0, x1⟩, st, ok, hs'⟩ := R
                  dsimp only [turnV] at HHT HTO HTN HTC
                  go_wp2_with fail
                  refine HTC.out.mono ?_
                  rintro e w8 ⟨rfl, hA, hB⟩
                  have HA5 := Aside0.mk (tail_box (hA.box #[.int .u32 x0, .int .i64 x1] 31))
                  have HB5 := Aside0.mk ((HB.out.trans hB).alloc hA.size (.cells #[.int .u32 x0, .int .i64 x1] 31))
                  clear hA hB HTC HA HB
                  cases ok
                  · skip
                    obtain ⟨h1, h2⟩ := HTN.out rfl
                    obtain rfl : hs' = hs2 := h1
                    have HD2 : Aside0 (due a2 hs'.flatten + (q + 1) ≤ al.length ∨ due a2 hs'.flatten = 0 ∨ (due a2 hs'.flatten + q ≤ al.length ∧ ∀ m, m < j + 1 → ∀ x ∈ hs'.getD m [], a2 < x.f1)) := ⟨by
                      rcases HD.out with h | h | ⟨h, h'⟩
                      · exact .inl h
                      · exact .inr (.inl h)
                      · refine .inr (.inr ⟨h, fun m hm => ?_⟩)
                        rcases Nat.lt_succ_iff_lt_or_eq.1 hm with hm | rfl
                        · exact h' m hm
                        · exact h2⟩
                    clear h2 HTN HTO HD
                    go_wp2_with fail
                    go_roundw
                    case rel => exact ⟨j + 1, hs', th2, u2, rfl, rfl, by omega, HI, HF, HD2, ⟨(head_box HA5.out).tail⟩, HB5⟩
                    case measure => simp [intOf]; omega
                  · skip
                    obtain ⟨hpx, hxa⟩ := HTO.out rfl
                    have hmem : (⟨x0, x1⟩ : S31) ∈ th2 := HI.out.2.2.mem_iff.2 (hpx.mem_iff.2 (List.mem_cons_self ..))
                    have HI2 : Aside0 (OnceI n hs' (dropT th2 ⟨x0, x1⟩)) := ⟨HHT.out.1, HHT.out.2.1, by rw [dropT_eq hU.out hmem]; exact without_perm hU.out (HI.out.2.2.trans hpx)⟩
                    have HD2 : Aside0 (due a2 hs'.flatten + (q + 1) ≤ al.length ∨ due a2 hs'.flatten = 0 ∨ (due a2 hs'.flatten + q ≤ al.length ∧ ∀ m, m < j + 1 → ∀ x ∈ hs'.getD m [], a2 < x.f1)) := ⟨by
                      have hdt := due_take hpx hxa
                      refine .inl ?_
                      have := HAQ.out
                      rcases HD.out with h | h | ⟨h, -⟩ <;> omega⟩
                    obtain ⟨Au, cu, rfl, hcu, hCu⟩ := HA5.out.reads (d := k31) (e := 31) (v := u2) (xs := th2) (by simp)
                    have HHAS := Aside0.mk (hasT_calls hCu hcu hthl ⟨x0, x1⟩)
                    rw [hasT_true hmem] at HHAS
                    have hxa' : x1 ≤ a2 := hxa
                    clear hCu hpx hmem HTO HTN hxa HD
                    have d9 : decide (x1 > a2) = false := decide_eq_false (by omega)
                    have d8 : ¬ a2 < x1 := by omega
                    obtain ⟨qa, -, -, -⟩ := Has.box_cell HA5.out (b := w8.heap.size) (cs := #[.int .u32 x0, .int .i64 x1]) (t := 31) (by simp)
                    have pc0 : (w8.alloc (.cells #[.int .u32 x0, .int .i64 x1] 31)).cell? ⟨w8.heap.size, 0, none⟩ = some (.int .u32 x0) := qa 0
                    have pc1 : (w8.alloc (.cells #[.int .u32 x0, .int .i64 x1] 31)).cell? ⟨w8.heap.size, 1, none⟩ = some (.int .i64 x1) := qa 1
                    clear qa
                    go_wp2_with fail
                    refine HHAS.out.mono ?_
                    rintro e w6 ⟨rfl, hb6⟩
                    have HA7 := Aside0.mk (HA5.out.below hb6)
                    have HB7 := Aside0.mk (HB5.out.trans (hb6.mono HA5.out.size))
                    clear hb6 HHAS pc0 pc1 HA5 HB5
                    generalize w8.heap.size = b3 at HA7 ⊢
                    obtain ⟨qa, -, -, -⟩ := Has.box_cell HA7.out (b := b3) (cs := #[.int .u32 x0, .int .i64 x1]) (t := 31) (by simp)
                    have pc0 : w6.cell? ⟨b3, 0, none⟩ = some (.int .u32 x0) := qa 0
                    have pc1 : w6.cell? ⟨b3, 1, none⟩ = some (.int .i64 x1) := qa 1
                    clear qa
                    obtain ⟨A_, c_, ev_, -, hCu⟩ := HA7.out.reads (d := k31) (e := 31) (v := .slice Au th2.length cu) (xs := th2) (by simp)
                    cases ev_
                    have HDR := Aside0.mk (dropT_calls hCu hcu hthl ⟨x0, x1⟩)
                    clear hCu
                    go_wp2_with fail
                    refine HDR.out.mono ?_
                    rintro e w8 ⟨v8, rfl, hr, hb⟩
                    have HA9 := Aside0.mk (drop2 (drop2 (tail_box (HA7.out.row hb hr))))
                    have HB9 := Aside0.mk (HB7.out.trans (hb.mono HA7.out.size))
                    clear hr hb HDR pc0 pc1 HA7 HB7 d9 d8
                    go_wp2_with fail
                    go_roundw
                    case rel => exact ⟨j + 1, hs', _, v8, rfl, rfl, by omega, HI2, ⟨HHT.out.2.2⟩, HD2, HA9, HB9⟩
                    case measure => simp [intOf]; omega
                · skip
                  have d7 : decide ((j : Int) < (n : Int)) = false := decide_eq_false (by omega)
                  have HD2 : Aside0 (due a2 hs2.flatten + (q + 1) ≤ al.length ∨ due a2 hs2.flatten = 0) := ⟨by
                    rcases HD.out with h | h | ⟨-, h⟩
                    · exact .inl h
                    · exact .inr h
                    · exact .inr (none_due fun m hm x hx => Int.not_le.2 (h m (by rw [HI.out.2.1] at hm; omega) x hx))⟩
                  clear HD
                  have hqt := HAQ.out
                  have hab := HALB.out
                  go_wp2_with fail
                  go_roundw
                  case rel => exact ⟨q + 1, hs2, th2, u2, rfl, rfl, by omega, HI, HF, HD2, HA, HB⟩
                  case measure => simp [intOf]; omega
            · skip
              have d6 : decide ((q : Int) < (al.length : Int)) = false := decide_eq_false (by omega)
              have HDZ : Aside0 (∀ x ∈ th, a2 < x.f1) := ⟨by
                have h0 : due a2 hs.flatten = 0 := by
                  rcases HD.out with h | h
                  · omega
                  · exact h
                exact fun x hx => Int.not_le.1 (due_none h0 x (HI.out.2.2.mem_iff.1 hx))⟩
              obtain ⟨Au, cu, rfl, hcu, -⟩ := HA.out.reads (d := k31) (e := 31) (v := u) (xs := th) (by simp)
              have hfe : hs.flatten.length = th.length := HI.out.2.2.length_eq.symm
              have htl : th.length ≤ 200 := by rw [← hfe]; exact HF.out
              have HL : Aside0 (ps.length = hs.length) := ⟨HPS.out.trans HI.out.2.1.symm⟩
              have HFE := Aside0.mk hfe
              clear HD hfe hcu HF
              go_wp2_with fail
              go_loopw [24] (fun i wr8 => ∃ m : Nat, i = .int .i64 m ∧ m ≤ th.length ∧ Aside0 (Has W.heap.size wr8 (workL p v ps hs ++ [rowK (.slice Au th.length cu) th])) ∧ Aside0 (Below W.heap.size W wr8)) (fun i _ => th.length - (intOf i).toNat)
              case atStart => exact ⟨0, rfl, by omega, HA, HB⟩
              case round =>
                clear HA HB
                obtain ⟨m, rfl, hm, HA, HB⟩ := hrel
                by_cases hmt : m < th.length
                · skip
                  obtain ⟨A_, c_, ev_, -, hCu⟩ := HA.out.reads (d := k31) (e := 31) (v := .slice Au th.length cu) (xs := th) (by simp)
                  cases ev_
                  obtain ⟨ae, rfl, g2, g3⟩ := at_T31 hCu (m : Int) (by omega) (by omega)
                  rw [Int.toNat_natCast] at g2 g3
                  have d8 : decide ((m : Int) < (th.length : Int)) = true := decide_eq_true (by omega)
                  have d5 : (m : Int) < (th.length : Int) := by omega
                  have hdz := HDZ.out _ (show rd_T31 th (m : Int) ∈ th from rd_mem hmt)
                  clear hCu
                  generalize rd_T31 th (m : Int) = z at g2 g3 hdz
                  obtain ⟨z0, z1⟩ := z
                  dsimp only at g2 g3 hdz
                  have d9 : decide (z1 ≤ a2) = false := decide_eq_false (by omega)
                  go_wp2_with fail
                  go_roundw
                  case rel => exact ⟨m + 1, rfl, by omega, HA, HB⟩
                  case measure => simp [intOf]; omega
                · skip
                  have d8 : decide ((m : Int) < (th.length : Int)) = false := decide_eq_false (by omega)
                  have HLN := Aside0.mk (wlen_calls HA.out HL.out (by rw [HFE.out]; omega))
                  rw [HFE.out] at HLN
                  go_wp2_with fail
                  refine HLN.out.mono ?_
                  rintro e w9 ⟨rfl, hb⟩
                  have HB9 := Aside0.mk (HB.out.trans (hb.mono HA.out.size))
                  clear hb HLN HA HB
                  go_wp2_with fail
                  refine (awake_calls _).mono ?_
                  rintro e w10 ⟨rfl, hb⟩
                  go_wp2_with fail
                  go_ret
                  exact ⟨rfl, HB9.out.trans (hb.mono HB9.out.size)⟩
end Go.Proofs.Ytpnoghnhlddjeaa.Wk
