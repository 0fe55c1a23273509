/- Whatever is put, taken, dropped, each call tells what the document's workers tell: walked. -/
import Derived.Test.YtpnoghnhlddjeaaRefA
namespace Go.Proofs.Ytpnoghnhlddjeaa.Wk
open Go.RowKit Go.Proofs.YtpnoghnhlddjeaaW.PrintWords Go.Proofs.YtpnoghnhlddjeaaW.PrintLast Go.Proofs.YtpnoghnhlddjeaaW.PrintMore Go.Proofs.Ytpnoghnhlddjeaa.Q Go.Proofs.Ytpnoghnhlddjeaa.Own Go.Proofs.Ytpnoghnhlddjeaa.Hp
set_option linter.unusedVariables false
set_option linter.unusedSimpArgs false
attribute [local go_sem ↓] Go.wp_at_zero Go.wp_at_succ

theorem rput_calls {B : Nat} {w : World} {g n : Nat} {v : Value} {hs : List (List S31)} {Ts : List Th} (h : Has B w (refL g v n (sortL hs.flatten) ++ Ts)) (hH : HomeS hs) (hn : hs.length = n) (hm : hs.flatten.length < 1000000) (x : S31) (hx : GoodT x) :
    Calls Try.prog 19 #[ptr g, aggT x] w (RefPost B w g n (sortL (putS hs x).flatten) Ts (.int .i64 (putE hs x))) := by
  subst hn
  obtain ⟨h1, h2⟩ := all_good hH (by omega)
  by_cases hr : x.f1 < 0 ∨ x.f1 > 1099511627776
  · have e1 : putS hs x = hs := if_pos hr
    have e2 : putE hs x = 2 := if_pos hr
    rw [e1, e2]
    exact rput_bad h x hr
  · obtain ⟨e1, e2⟩ := rput_is hH hm hx hr
    rw [← e2, ← e1]
    exact rput_new h (by rw [h2.length_eq]; omega) x hx h1.good (fun q => hr (.inl q)) (fun q => hr (.inr q))
theorem rturn_calls {B : Nat} {w : World} {g n : Nat} {v : Value} {hs : List (List S31)} {Ts : List Th} (h : Has B w (refL g v n (sortL hs.flatten) ++ Ts)) (hH : HomeS hs) (hn : hs.length = n) (hm : hs.flatten.length ≤ 1000000) (i a : Int) :
    Calls Try.prog 16 #[ptr g, .int .i64 i, .int .i64 a] w (RefPost B w g n (sortL (turnR hs i a).hs.flatten) Ts (turnV (turnR hs i a).x (turnR hs i a).stolen (turnR hs i a).ok)) := by
  subst hn
  obtain ⟨h1, h2⟩ := all_good hH hm
  by_cases h0 : i < 0 ∨ (hs.length : Int) ≤ i
  · have e : turnR hs i a = ⟨z31, false, false, hs⟩ := by unfold turnR; rw [if_pos h0]
    rw [e]
    exact rturn_out h i a h0
  · have e : i = ((i.toNat : Nat) : Int) := by omega
    have hi : i.toNat < hs.length := by omega
    have hR := rturn_is hH hm i a
    have hc := rturn_in h hH.pos h1.good (by rw [h2.length_eq]; exact hm) i.toNat hi a hH.few
    rw [← e, hR] at hc
    exact hc
theorem row_addr {B : Nat} {w : World} {Ts : List Th} {v : Value} {l : List S31} (h : Has B w Ts) (hm : rowK v l ∈ Ts) (hp : 0 < l.length) : ∃ g c, v = .slice (some ⟨g, 0, none⟩) l.length c ∧ l.length ≤ c := by
  obtain ⟨F, hR, -⟩ := h.mem hm
  exact row_pos (show Kd.R k31 31 w 0 F v l from hR) hp
theorem rdrop_at {B : Nat} {w : World} {g n : Nat} {v : Value} {hs : List (List S31)} {Ts : List Th} (h : Has B w (refL g v n (sortL hs.flatten) ++ Ts)) (hH : HomeS hs) (hn : hs.length = n) (hm : hs.flatten.length ≤ 1000000) (r : Int) :
    Calls Try.prog 18 #[ptr g, .int .u32 r] w (RefPost B w g n (sortL (hs.set (homeOf r n) (withoutL (hs.getD (homeOf r n) []) r)).flatten) Ts (.bool (hasL (hs.getD (homeOf r n) []) r))) := by
  subst hn
  obtain ⟨h1, h2⟩ := all_good hH hm
  obtain ⟨e1, e2⟩ := rdrop_is hH hm r
  rw [← e1, ← e2]
  exact rdrop_calls h (by rw [h2.length_eq]; exact hm) r
theorem rcount_at {B : Nat} {w : World} {g n : Nat} {v : Value} {hs : List (List S31)} {Ts : List Th} (h : Has B w (refL g v n (sortL hs.flatten) ++ Ts)) (hH : HomeS hs) (hn : hs.length = n) (hm : hs.flatten.length ≤ 1000000) (i : Int) :
    Calls Try.prog 21 #[ptr g, .int .i64 i] w fun e w' => e = .returned (.int .i64 (countR hs i)) ∧ w = w' := by
  subst hn
  obtain ⟨h1, h2⟩ := all_good hH hm
  rw [← rcnt_is hH hm i]
  exact rcount_calls h hH.pos h1.good (by rw [h2.length_eq]; exact hm) i
def PlayI (n k : Nat) (hs : List (List S31)) : Prop := HomeS hs ∧ hs.length = n ∧ hs.flatten.length ≤ k
abbrev actT (b : Nat) (kd r t k : Int) : Th := boxT b #[.int .u8 kd, .int .u32 r, .int .i64 t, .int .i64 k] 46
theorem act_good {x : S46} (h : good46 x) : GoodT x.f1 := good_T h.2.1
set_option maxHeartbeats 8000000 in
set_option maxRecDepth 100000 in
theorem plays_law (a0 : Int) (A1 : Option Addr) (c1 : Nat) (l1 : List S46) (W : World) (hr1 : Kd.C k46 W A1 l1.length l1) (hc1 : l1.length ≤ c1) (w0 : (Lit.int .i64 a0).wf = true) (hm1 : l1.length ≤ 9223372036854775807) (y1 : l1.length * 32 ≤ 140737488351232) (hg1 : ∀ x ∈ l1, good46 x) :
    Calls Try.prog 4 #[.int .i64 a0, .slice A1 l1.length c1] W fun e w' => e = .returned (.bool true) ∧ Below W.heap.size W w' := by
  have hu := Try.underlying31
  have hu46 := Try.underlying46
  have HG : Aside0 (∀ x ∈ l1, GoodT x.f1) := ⟨fun x hx => act_good (hg1 x hx)⟩
  have HC := Aside0.mk hr1
  clear hr1 hg1 y1 hc1 w0
  by_cases h200 : (l1.length : Int) > 200
  · have d1 : decide ((l1.length : Int) > 200) = true := decide_eq_true h200
    go_enter Try.func4, Try.ntmps4
    go_wp2_with fail
    go_ret
    exact ⟨rfl, Below.refl _ _⟩
  have d1 : decide ((l1.length : Int) > 200) = false := decide_eq_false h200
  have hl : l1.length ≤ 200 := by omega
  clear h200
  by_cases hbad : a0 < 1 ∨ 4 < a0
  · have HN1 := Aside0.mk (new_bad a0 hbad W)
    have HN2 := Aside0.mk (rnew_bad a0 hbad W)
    clear hbad
    go_enter Try.func4, Try.ntmps4
    go_wp2_with fail
    refine HN1.out.mono ?_
    rintro e w1 ⟨rfl, rfl⟩
    go_wp2_with fail
    refine HN2.out.mono ?_
    rintro e w1 ⟨rfl, rfl⟩
    go_wp2_with fail
    refine (awake_calls _).mono ?_
    rintro e w1 ⟨rfl, hb⟩
    go_wp2_with fail
    go_ret
    exact ⟨rfl, hb⟩
  obtain ⟨n, rfl, hn1, hn4⟩ : ∃ n : Nat, a0 = (n : Int) ∧ 1 ≤ n ∧ n ≤ 4 := ⟨a0.toNat, by omega, by omega, by omega⟩
  clear hbad
  go_enter Try.func4, Try.ntmps4
  go_wp2_with fail
  clear d1
  refine (new_good n hn1 hn4 (Has.nil W)).mono ?_
  rintro e w1 ⟨p, v, ps, rfl, hps, hA, hB⟩
  have HA0 := Aside0.mk hA
  have HB0 := Aside0.mk hB
  have HPS := Aside0.mk hps
  clear hA hB hps
  go_wp2_with fail
  refine (rnew_good n hn1 hn4 HA0.out).mono ?_
  rintro e w2 ⟨g, rfl, hA, hB⟩
  have HA2 : Aside0 (Has W.heap.size w2 (workL p v ps (List.replicate n []) ++ (refL g (.slice none 0 0) n (sortL (List.replicate n ([] : List S31)).flatten) ++ []))) := ⟨by
    rw [flat_one, show sortL [] = [] by simp [sortL]]
    exact wr_swap hA⟩
  have HB2 := Aside0.mk (HB0.out.trans hB)
  clear hA hB HA0 HB0
  go_wp2_with fail
  go_loopw [9] (fun i wr => ∃ (k : Nat) (hs : List (List S31)) (vr : Value), i = .int .i64 k ∧ k ≤ l1.length ∧ Aside0 (PlayI n k hs) ∧ Aside0 (Has W.heap.size wr (workL p v ps hs ++ (refL g vr n (sortL hs.flatten) ++ []))) ∧ Aside0 (Below W.heap.size W wr)) (fun i _ => l1.length - (intOf i).toNat)
  case atStart => exact ⟨0, List.replicate n [], _, rfl, by omega, ⟨home_start hn1 hn4, List.length_replicate, by rw [flat_one]; exact Nat.le_refl _⟩, HA2, HB2⟩
  case round =>
    clear HA2 HB2
    obtain ⟨k, hs, vr, rfl, hk, HI, HA, HB⟩ := hrel
    by_cases hlt : k < l1.length
    · obtain ⟨ad, rfl, hi2, hi3, hi4, hi5⟩ := at_T46 HC.out (k : Int) (by omega) (by omega)
      replace hi2 := pw_cell_below HB.out hi2
      replace hi3 := pw_cell_below HB.out hi3
      replace hi4 := pw_cell_below HB.out hi4
      replace hi5 := pw_cell_below HB.out hi5
      rw [Int.toNat_natCast] at hi2 hi3 hi4 hi5
      have d1 : decide ((k : Int) < (l1.length : Int)) = true := decide_eq_true (by omega)
      have d2 : decide (0 ≤ (k : Int)) = true := decide_eq_true (by omega)
      have hxg : GoodT (rd_T46 l1 (k : Int)).f1 := HG.out _ (by unfold rd_T46; rw [Int.toNat_natCast, List.getD_eq_getElem?_getD, List.getElem?_eq_getElem hlt]; exact List.getElem_mem hlt)
      generalize rd_T46 l1 (k : Int) = x at hi2 hi3 hi4 hi5 hxg
      obtain ⟨kd, ⟨r, t⟩, wk⟩ := x
      dsimp only at hi2 hi3 hi4 hi5
      have HXG := Aside0.mk hxg
      clear hxg
      have HHH := Aside0.mk HI.out.1
      have HHL := Aside0.mk HI.out.2.1
      have HFL := Aside0.mk HI.out.2.2
      have HPL : Aside0 (ps.length = hs.length) := ⟨HPS.out.trans HHL.out.symm⟩
      have HA1 := Aside0.mk (put_in (HA.out.box #[.int .u8 kd, .int .u32 r, .int .i64 t, .int .i64 wk] 46))
      have HB1 := Aside0.mk (HB.out.alloc HA.out.size (.cells #[.int .u8 kd, .int .u32 r, .int .i64 t, .int .i64 wk] 46))
      obtain ⟨qa, -, -, -⟩ := Has.box_cell HA1.out (b := wr.heap.size) (cs := #[.int .u8 kd, .int .u32 r, .int .i64 t, .int .i64 wk]) (t := 46) (by simp)
      have q0 : (wr.alloc (.cells #[.int .u8 kd, .int .u32 r, .int .i64 t, .int .i64 wk] 46)).cell? ⟨wr.heap.size, 0, none⟩ = some (.int .u8 kd) := qa 0
      have q1 : (wr.alloc (.cells #[.int .u8 kd, .int .u32 r, .int .i64 t, .int .i64 wk] 46)).cell? ⟨wr.heap.size, 1, none⟩ = some (.int .u32 r) := qa 1
      have q2 : (wr.alloc (.cells #[.int .u8 kd, .int .u32 r, .int .i64 t, .int .i64 wk] 46)).cell? ⟨wr.heap.size, 2, none⟩ = some (.int .i64 t) := qa 2
      have q3 : (wr.alloc (.cells #[.int .u8 kd, .int .u32 r, .int .i64 t, .int .i64 wk] 46)).cell? ⟨wr.heap.size, 3, none⟩ = some (.int .i64 wk) := qa 3
      clear qa HA HB HI
      by_cases hk2 : kd.tmod 4 = 2
      · have e2 : (kd.tmod 4 == 2) = true := beq_iff_eq.2 hk2
        have HI2 : Aside0 (PlayI n (k + 1) (turnR hs wk t).hs) := ⟨home_turn HHH.out wk t, (turnR_length hs wk t).trans HHL.out, by have := turn_len hs wk t; have := HFL.out; omega⟩
        have HTC := Aside0.mk (turn_calls HA1.out HPL.out wk t)
        have HTR := Aside0.mk (fun (w : World) (hs2 : List (List S31)) (Ts : List Th) (h : Has W.heap.size w (workL p v ps hs2 ++ (refL g vr n (sortL hs.flatten) ++ Ts))) => rturn_calls (wr_swap h) HHH.out HHL.out (by have := HFL.out; omega) wk t)
        generalize turnR hs wk t = R at HI2 HTC HTR
        obtain ⟨⟨x0, x1⟩, st, ok, hs2⟩ := R
        dsimp only [turnV] at HI2 HTC HTR
        clear HXG
        go_wp2_with fail
        generalize wr.alloc (.cells #[.int .u8 kd, .int .u32 r, .int .i64 t, .int .i64 wk] 46) = w3 at HA1 HB1 HTC q0 q1 q2 q3 ⊢
        generalize wr.heap.size = b1 at HA1 HTC q0 q1 q2 q3 ⊢
        clear e2 hk2 q0 q1 q2 q3 hi2 hi3 hi4 hi5
        refine HTC.out.mono ?_
        rintro e w4 ⟨rfl, hA, hB⟩
        have HA5 := Aside0.mk (put_in (hA.box #[.int .u32 x0, .int .i64 x1] 31))
        have HB5 := Aside0.mk ((HB1.out.trans hB).alloc hA.size (.cells #[.int .u32 x0, .int .i64 x1] 31))
        clear hA hB HTC HA1 HB1
        obtain ⟨qa, -, -, -⟩ := Has.box_cell HA5.out (b := b1) (cs := #[.int .u8 kd, .int .u32 r, .int .i64 t, .int .i64 wk]) (t := 46) (by simp)
        have q2 : (w4.alloc (.cells #[.int .u32 x0, .int .i64 x1] 31)).cell? ⟨b1, 2, none⟩ = some (.int .i64 t) := qa 2
        have q3 : (w4.alloc (.cells #[.int .u32 x0, .int .i64 x1] 31)).cell? ⟨b1, 3, none⟩ = some (.int .i64 wk) := qa 3
        clear qa
        go_wp2_with fail
        generalize w4.alloc (.cells #[.int .u32 x0, .int .i64 x1] 31) = w5 at HA5 HB5 q2 q3 ⊢
        generalize w4.heap.size = b11 at HA5 ⊢
        refine (HTR.out _ _ _ HA5.out).mono ?_
        rintro e w6 ⟨vr2, rfl, hA, hB⟩
        have HA7 := Aside0.mk (put_in ((wr_swap hA).box #[.int .u32 x0, .int .i64 x1] 31))
        have HB7 := Aside0.mk ((HB5.out.trans hB).alloc hA.size (.cells #[.int .u32 x0, .int .i64 x1] 31))
        clear hA hB HTR HA5 HB5 q2 q3
        obtain ⟨qa, -, -, -⟩ := Has.box_cell HA7.out (b := b11) (cs := #[.int .u32 x0, .int .i64 x1]) (t := 31) (by simp)
        have pc0 : (w6.alloc (.cells #[.int .u32 x0, .int .i64 x1] 31)).cell? ⟨b11, 0, none⟩ = some (.int .u32 x0) := qa 0
        have pc1 : (w6.alloc (.cells #[.int .u32 x0, .int .i64 x1] 31)).cell? ⟨b11, 1, none⟩ = some (.int .i64 x1) := qa 1
        clear qa
        obtain ⟨qa, -, -, -⟩ := Has.box_cell HA7.out (b := w6.heap.size) (cs := #[.int .u32 x0, .int .i64 x1]) (t := 31) (by simp)
        have sc0 : (w6.alloc (.cells #[.int .u32 x0, .int .i64 x1] 31)).cell? ⟨w6.heap.size, 0, none⟩ = some (.int .u32 x0) := qa 0
        have sc1 : (w6.alloc (.cells #[.int .u32 x0, .int .i64 x1] 31)).cell? ⟨w6.heap.size, 1, none⟩ = some (.int .i64 x1) := qa 1
        clear qa
        go_wp2_with fail
        have HA9 := Aside0.mk (take_out (take_out HA7.out).tail).tail
        have HB9 := HB7
        clear HA7 HB7 pc0 pc1 sc0 sc1
        generalize w6.alloc (.cells #[.int .u32 x0, .int .i64 x1] 31) = w9 at HA9 HB9 ⊢
        have HL2 : Aside0 (ps.length = hs2.length) := ⟨HPS.out.trans HI2.out.2.1.symm⟩
        have HF2 : Aside0 (hs2.flatten.length ≤ 201) := ⟨by have := HI2.out.2.2; omega⟩
        have hal : (sortL hs2.flatten).length ≤ 201 := by rw [(all_good HI2.out.1 (by have := HF2.out; omega)).2.length_eq]; exact HF2.out
        have HLE : Aside0 (hs2.flatten.length = (sortL hs2.flatten).length) := ⟨(all_good HI2.out.1 (by have := HF2.out; omega)).2.length_eq.symm⟩
        have HALL := Aside0.mk (wall_calls HA9.out HL2.out (by have := HF2.out; omega))
        have HRT := Aside0.mk (fun (w : World) (vv : Value) (Ts : List Th) (h : Has W.heap.size w (workL p v ps hs2 ++ (refL g vv n (sortL hs2.flatten) ++ Ts))) => rcount_at (wr_swap h) HI2.out.1 HI2.out.2.1 (by have := HF2.out; omega) wk)
        generalize hLq : sortL hs2.flatten = L at HA9 hal HLE HALL HRT
        have HLQ := Aside0.mk hLq
        clear hLq
        refine HALL.out.mono ?_
        rintro e w10 ⟨va, rfl, hr, hb⟩
        have HA10 := Aside0.mk (put_in (HA9.out.row hb hr))
        have HB10 := Aside0.mk (HB9.out.trans (hb.mono HA9.out.size))
        clear hr hb HALL HA9 HB9
        obtain ⟨Aa, ca, rfl, hca, hCa⟩ := HA10.out.reads (d := k31) (e := 31) (v := va) (xs := L) (by simp)
        obtain ⟨-, q1, -, Ar, cr, rfl, hcr, hCr⟩ := ref_cells (wr_swap HA10.out)
        have HSM := Aside0.mk (same_calls (w := w10.drew) (by omega) (Kd.C_below hCa (below_drew (Below.refl _ w10))) hca (Kd.C_below hCr (below_drew (Below.refl _ w10))) hcr)
        have HLN := Aside0.mk (fun (w : World) (h : Has W.heap.size w (workL p v ps hs2 ++ (refL g (.slice Ar L.length cr) n L ++ [rowK (.slice Aa L.length ca) L, actT b1 kd r t wk]))) => wlen_calls h HL2.out (by have := HF2.out; omega))
        rw [HLE.out] at HLN
        have HCT := Aside0.mk (fun (w : World) (h : Has W.heap.size w (workL p v ps hs2 ++ (refL g (.slice Ar L.length cr) n L ++ [rowK (.slice Aa L.length ca) L, actT b1 kd r t wk]))) => count_calls h HL2.out wk)
        clear hCa hca hCr hcr
        obtain ⟨qa, -, -, -⟩ := Has.box_cell HA10.out (b := b1) (cs := #[.int .u8 kd, .int .u32 r, .int .i64 t, .int .i64 wk]) (t := 46) (by simp)
        have q3 : w10.cell? ⟨b1, 3, none⟩ = some (.int .i64 wk) := qa 3
        clear qa
        generalize countR hs2 wk = cw at HCT HRT
        go_wp2_with fail
        refine start_ (n := 28) (S := fun w' => w'.cell? ⟨g, 1, none⟩ = some (.slice Ar L.length cr) ∧ w'.cell? ⟨b1, 3, none⟩ = some (.int .i64 wk)) (ds := []) #[false, false, false, false, false, false, false, false, false, false, false, false, false, false, false, false, false, false, false, false, false, false, false, false, false, false, false, false] (by kernel_rfl) rfl rfl ⟨q1, q3⟩ (fun hHeld => ?_)
        refine pure_ (i := 0) (N := some 119) (v := ?_) (a' := ?_) #[true, false, false, false, false, false, false, false, false, false, false, false, false, false, false, false, false, false, false, false, false, false, false, false, false, false, false, false] rfl rfl (by kernel_rfl) (fun _ _ _ h => h) (Or.inl ⟨by rfl, ?_⟩) ?_ ?_
        rotate_left
        · intro w'
          go_simp
          with_reducible rfl
        rotate_left
        · simp only [Act.put, List.setIfInBounds_toArray, List.set_cons_zero, List.set_cons_succ, i64_w, i32_w]
          rfl
        refine pure_ (i := 1) (N := some 120) (v := ?_) (a' := ?_) #[true, true, false, false, false, false, false, false, false, false, false, false, false, false, false, false, false, false, false, false, false, false, false, false, false, false, false, false] rfl rfl (by kernel_rfl) (fun _ _ _ h => h) (Or.inl ⟨by rfl, ?_⟩) ?_ ?_
        rotate_left
        · intro w'
          go_simp
          with_reducible rfl
        rotate_left
        · simp only [Act.put, List.setIfInBounds_toArray, List.set_cons_zero, List.set_cons_succ, i64_w, i32_w]
          rfl
        refine pure_ (i := 2) (N := some 121) (v := ?_) (a' := ?_) #[true, true, true, false, false, false, false, false, false, false, false, false, false, false, false, false, false, false, false, false, false, false, false, false, false, false, false, false] rfl rfl (by kernel_rfl) (fun _ _ _ h => h) (Or.inl ⟨by rfl, ?_⟩) ?_ ?_
        rotate_left
        · intro w'
          go_simp
          with_reducible rfl
        rotate_left
        · simp only [Act.put, List.setIfInBounds_toArray, List.set_cons_zero, List.set_cons_succ, i64_w, i32_w]
          rfl
        refine pure_ (i := 3) (N := some 122) (v := ?_) (a' := ?_) #[true, true, true, true, false, false, false, false, false, false, false, false, false, false, false, false, false, false, false, false, false, false, false, false, false, false, false, false] rfl rfl (by kernel_rfl) (fun _ _ _ h => h) (Or.inl ⟨by rfl, ?_⟩) ?_ ?_
        rotate_left
        · intro w'
          go_simp
          with_reducible rfl
        rotate_left
        · simp only [Act.put, List.setIfInBounds_toArray, List.set_cons_zero, List.set_cons_succ, i64_w, i32_w]
          rfl
        refine take_ (i := 4) (N := some 123) (v := ?_) (a' := ?_) #[true, true, true, true, true, false, false, false, false, false, false, false, false, false, false, false, false, false, false, false, false, false, false, false, false, false, false, false] rfl rfl (by kernel_rfl) (fun _ _ _ h => h) (Or.inl ⟨by rfl, ?_⟩) hHeld ?_ ?_
        rotate_left
        · rintro w' ⟨s0, s1⟩
          go_simp
          with_reducible rfl
        rotate_left
        · simp only [Act.put, List.setIfInBounds_toArray, List.set_cons_zero, List.set_cons_succ, i64_w, i32_w]
          rfl
        refine one_ (i := 5) (N := some 124) #[true, true, true, true, true, true, false, false, false, false, false, false, false, false, false, false, false, false, false, false, false, false, false, false, false, false, false, false] rfl rfl (by kernel_rfl) (by decide) (fun K hK => ?_)
        refine goes_ Try.func20 (by kernel_rfl) rfl #[.slice Aa L.length ca, .slice Ar L.length cr] (by rfl) rfl rfl (by simp only [List.map_toArray, List.map_cons, List.map_nil]; rfl) ?_
        with_reducible refine (HSM.out).mono ?_
        rintro e u1 ⟨rfl, hb1⟩
        refine ⟨_, rfl, ?_⟩
        have s0 := pw_cell_below hb1 (show w10.drew.cell? _ = _ from q1)
        have s1 := pw_cell_below hb1 (show w10.drew.cell? _ = _ from q3)
        refine hK.out _ _ ⟨s0, s1⟩ (fun hHeld => ?_)
        clear hK K
        refine norm_ (a' := ?_) ?_ ?_
        rotate_left
        · show Act.put _ (some 124) _ = _
          simp only [Act.put, List.setIfInBounds_toArray, List.set_cons_zero, List.set_cons_succ, i64_w, i32_w]
          rfl
        refine pure_ (i := 6) (N := some 125) (v := ?_) (a' := ?_) #[true, true, true, true, true, true, true, false, false, false, false, false, false, false, false, false, false, false, false, false, false, false, false, false, false, false, false, false] rfl rfl (by kernel_rfl) (fun _ _ _ h => h) (Or.inl ⟨by rfl, ?_⟩) ?_ ?_
        rotate_left
        · intro w'
          go_simp
          with_reducible rfl
        rotate_left
        · simp only [Act.put, List.setIfInBounds_toArray, List.set_cons_zero, List.set_cons_succ, i64_w, i32_w]
          rfl
        refine pure_ (i := 7) (N := some 126) (v := ?_) (a' := ?_) #[true, true, true, true, true, true, true, true, false, false, false, false, false, false, false, false, false, false, false, false, false, false, false, false, false, false, false, false] rfl rfl (by kernel_rfl) (fun _ _ _ h => h) (Or.inl ⟨by rfl, ?_⟩) ?_ ?_
        rotate_left
        · intro w'
          go_simp
          with_reducible rfl
        rotate_left
        · simp only [Act.put, List.setIfInBounds_toArray, List.set_cons_zero, List.set_cons_succ, i64_w, i32_w]
          rfl
        refine pure_ (i := 8) (N := some 127) (v := ?_) (a' := ?_) #[true, true, true, true, true, true, true, true, true, false, false, false, false, false, false, false, false, false, false, false, false, false, false, false, false, false, false, false] rfl rfl (by kernel_rfl) (fun _ _ _ h => h) (Or.inl ⟨by rfl, ?_⟩) ?_ ?_
        rotate_left
        · intro w'
          go_simp
          with_reducible rfl
        rotate_left
        · simp only [Act.put, List.setIfInBounds_toArray, List.set_cons_zero, List.set_cons_succ, i64_w, i32_w]
          rfl
        refine pure_ (i := 10) (N := some 129) (v := ?_) (a' := ?_) #[true, true, true, true, true, true, true, true, true, false, true, false, false, false, false, false, false, false, false, false, false, false, false, false, false, false, false, false] rfl rfl (by kernel_rfl) (fun _ _ _ h => h) (Or.inl ⟨by rfl, ?_⟩) ?_ ?_
        rotate_left
        · intro w'
          go_simp
          with_reducible rfl
        rotate_left
        · simp only [Act.put, List.setIfInBounds_toArray, List.set_cons_zero, List.set_cons_succ, i64_w, i32_w]
          rfl
        refine pure_ (i := 11) (N := some 130) (v := ?_) (a' := ?_) #[true, true, true, true, true, true, true, true, true, false, true, true, false, false, false, false, false, false, false, false, false, false, false, false, false, false, false, false] rfl rfl (by kernel_rfl) (fun _ _ _ h => h) (Or.inl ⟨by rfl, ?_⟩) ?_ ?_
        rotate_left
        · intro w'
          go_simp
          with_reducible rfl
        rotate_left
        · simp only [Act.put, List.setIfInBounds_toArray, List.set_cons_zero, List.set_cons_succ, i64_w, i32_w]
          rfl
        refine pure_ (i := 12) (N := some 131) (v := ?_) (a' := ?_) #[true, true, true, true, true, true, true, true, true, false, true, true, true, false, false, false, false, false, false, false, false, false, false, false, false, false, false, false] rfl rfl (by kernel_rfl) (fun _ _ _ h => h) (Or.inl ⟨by rfl, ?_⟩) ?_ ?_
        rotate_left
        · intro w'
          go_simp
          with_reducible rfl
        rotate_left
        · simp only [Act.put, List.setIfInBounds_toArray, List.set_cons_zero, List.set_cons_succ, i64_w, i32_w]
          rfl
        refine take_ (i := 13) (N := some 132) (v := ?_) (a' := ?_) #[true, true, true, true, true, true, true, true, true, false, true, true, true, true, false, false, false, false, false, false, false, false, false, false, false, false, false, false] rfl rfl (by kernel_rfl) (fun _ _ _ h => h) (Or.inl ⟨by rfl, ?_⟩) hHeld ?_ ?_
        rotate_left
        · rintro w' ⟨s0, s1⟩
          go_simp
          with_reducible rfl
        rotate_left
        · simp only [Act.put, List.setIfInBounds_toArray, List.set_cons_zero, List.set_cons_succ, i64_w, i32_w]
          rfl
        refine pure_ (i := 14) (N := some 133) (v := ?_) (a' := ?_) #[true, true, true, true, true, true, true, true, true, false, true, true, true, true, true, false, false, false, false, false, false, false, false, false, false, false, false, false] rfl rfl (by kernel_rfl) (fun _ _ _ h => h) (Or.inl ⟨by rfl, ?_⟩) ?_ ?_
        rotate_left
        · intro w'
          go_simp
          with_reducible rfl
        rotate_left
        · simp only [Act.put, List.setIfInBounds_toArray, List.set_cons_zero, List.set_cons_succ, i64_w, i32_w]
          rfl
        refine one_ (i := 9) (N := some 128) #[true, true, true, true, true, true, true, true, true, true, true, true, true, true, true, false, false, false, false, false, false, false, false, false, false, false, false, false] rfl rfl (by kernel_rfl) (by decide) (fun K hK => ?_)
        refine goes_ Try.func13 (by kernel_rfl) rfl #[ptr p] (by rfl) rfl rfl (by simp only [List.map_toArray, List.map_cons, List.map_nil]; rfl) ?_
        with_reducible refine (HLN.out u1 (HA10.out.drew.below hb1)).mono ?_
        rintro e u2 ⟨rfl, hb2⟩
        refine ⟨_, rfl, ?_⟩
        have t0 := pw_cell_below hb2 s0
        have t1 := pw_cell_below hb2 s1
        refine hK.out _ _ ⟨t0, t1⟩ (fun hHeld => ?_)
        clear hK K
        refine norm_ (a' := ?_) ?_ ?_
        rotate_left
        · show Act.put _ (some 128) _ = _
          simp only [Act.put, List.setIfInBounds_toArray, List.set_cons_zero, List.set_cons_succ, i64_w, i32_w]
          rfl
        refine pure_ (i := 15) (N := some 134) (v := ?_) (a' := ?_) #[true, true, true, true, true, true, true, true, true, true, true, true, true, true, true, true, false, false, false, false, false, false, false, false, false, false, false, false] rfl rfl (by kernel_rfl) (fun _ _ _ h => h) (Or.inl ⟨by rfl, ?_⟩) ?_ ?_
        rotate_left
        · intro w'
          go_simp
          with_reducible rfl
        rotate_left
        · simp only [Act.put, List.setIfInBounds_toArray, List.set_cons_zero, List.set_cons_succ, i64_w, i32_w]
          rfl
        refine pure_ (i := 16) (N := some 135) (v := ?_) (a' := ?_) #[true, true, true, true, true, true, true, true, true, true, true, true, true, true, true, true, true, false, false, false, false, false, false, false, false, false, false, false] rfl rfl (by kernel_rfl) (fun _ _ _ h => h) (Or.inl ⟨by rfl, ?_⟩) ?_ ?_
        rotate_left
        · intro w'
          go_simp
          with_reducible rfl
        rotate_left
        · simp only [Act.put, List.setIfInBounds_toArray, List.set_cons_zero, List.set_cons_succ, i64_w, i32_w]
          rfl
        refine pure_ (i := 17) (N := some 136) (v := ?_) (a' := ?_) #[true, true, true, true, true, true, true, true, true, true, true, true, true, true, true, true, true, true, false, false, false, false, false, false, false, false, false, false] rfl rfl (by kernel_rfl) (fun _ _ _ h => h) (Or.inl ⟨by rfl, ?_⟩) ?_ ?_
        rotate_left
        · intro w'
          go_simp
          with_reducible rfl
        rotate_left
        · simp only [Act.put, List.setIfInBounds_toArray, List.set_cons_zero, List.set_cons_succ, i64_w, i32_w]
          rfl
        refine pure_ (i := 18) (N := some 137) (v := ?_) (a' := ?_) #[true, true, true, true, true, true, true, true, true, true, true, true, true, true, true, true, true, true, true, false, false, false, false, false, false, false, false, false] rfl rfl (by kernel_rfl) (fun _ _ _ h => h) (Or.inl ⟨by rfl, ?_⟩) ?_ ?_
        rotate_left
        · intro w'
          go_simp
          with_reducible rfl
        rotate_left
        · simp only [Act.put, List.setIfInBounds_toArray, List.set_cons_zero, List.set_cons_succ, i64_w, i32_w]
          rfl
        refine pure_ (i := 19) (N := some 138) (v := ?_) (a' := ?_) #[true, true, true, true, true, true, true, true, true, true, true, true, true, true, true, true, true, true, true, true, false, false, false, false, false, false, false, false] rfl rfl (by kernel_rfl) (fun _ _ _ h => h) (Or.inl ⟨by rfl, ?_⟩) ?_ ?_
        rotate_left
        · intro w'
          go_simp
          with_reducible rfl
        rotate_left
        · simp only [Act.put, List.setIfInBounds_toArray, List.set_cons_zero, List.set_cons_succ, i64_w, i32_w]
          rfl
        refine pure_ (i := 22) (N := some 141) (v := ?_) (a' := ?_) #[true, true, true, true, true, true, true, true, true, true, true, true, true, true, true, true, true, true, true, true, false, false, true, false, false, false, false, false] rfl rfl (by kernel_rfl) (fun _ _ _ h => h) (Or.inl ⟨by rfl, ?_⟩) ?_ ?_
        rotate_left
        · intro w'
          go_simp
          with_reducible rfl
        rotate_left
        · simp only [Act.put, List.setIfInBounds_toArray, List.set_cons_zero, List.set_cons_succ, i64_w, i32_w]
          rfl
        refine pure_ (i := 23) (N := some 142) (v := ?_) (a' := ?_) #[true, true, true, true, true, true, true, true, true, true, true, true, true, true, true, true, true, true, true, true, false, false, true, true, false, false, false, false] rfl rfl (by kernel_rfl) (fun _ _ _ h => h) (Or.inl ⟨by rfl, ?_⟩) ?_ ?_
        rotate_left
        · intro w'
          go_simp
          with_reducible rfl
        rotate_left
        · simp only [Act.put, List.setIfInBounds_toArray, List.set_cons_zero, List.set_cons_succ, i64_w, i32_w]
          rfl
        refine take_ (i := 20) (N := some 139) (v := ?_) (a' := ?_) #[true, true, true, true, true, true, true, true, true, true, true, true, true, true, true, true, true, true, true, true, true, false, true, true, false, false, false, false] rfl rfl (by kernel_rfl) (fun _ _ _ h => h) (Or.inl ⟨by rfl, ?_⟩) hHeld ?_ ?_
        rotate_left
        · rintro w' ⟨s0, s1⟩
          go_simp
          with_reducible rfl
        rotate_left
        · simp only [Act.put, List.setIfInBounds_toArray, List.set_cons_zero, List.set_cons_succ, i64_w, i32_w]
          rfl
        refine take_ (i := 24) (N := some 143) (v := ?_) (a' := ?_) #[true, true, true, true, true, true, true, true, true, true, true, true, true, true, true, true, true, true, true, true, true, false, true, true, true, false, false, false] rfl rfl (by kernel_rfl) (fun _ _ _ h => h) (Or.inl ⟨by rfl, ?_⟩) hHeld ?_ ?_
        rotate_left
        · rintro w' ⟨s0, s1⟩
          go_simp
          with_reducible rfl
        rotate_left
        · simp only [Act.put, List.setIfInBounds_toArray, List.set_cons_zero, List.set_cons_succ, i64_w, i32_w]
          rfl
        refine one_ (i := 21) (N := some 140) #[true, true, true, true, true, true, true, true, true, true, true, true, true, true, true, true, true, true, true, true, true, true, true, true, true, false, false, false] rfl rfl (by kernel_rfl) (by decide) (fun K hK => ?_)
        refine goes_ Try.func10 (by kernel_rfl) rfl #[ptr p, .int .i64 wk] (by rfl) rfl rfl (by simp only [List.map_toArray, List.map_cons, List.map_nil]; rfl) ?_
        with_reducible refine (HCT.out u2 ((HA10.out.drew.below hb1).below hb2)).mono ?_
        rintro e u3 ⟨rfl, rfl⟩
        refine ⟨_, rfl, ?_⟩
        refine hK.out _ _ ⟨t0, t1⟩ (fun hHeld => ?_)
        clear hK K
        refine norm_ (a' := ?_) ?_ ?_
        rotate_left
        · show Act.put _ (some 140) _ = _
          simp only [Act.put, List.setIfInBounds_toArray, List.set_cons_zero, List.set_cons_succ, i64_w, i32_w]
          rfl
        refine one_ (i := 25) (N := some 144) #[true, true, true, true, true, true, true, true, true, true, true, true, true, true, true, true, true, true, true, true, true, true, true, true, true, true, false, false] rfl rfl (by kernel_rfl) (by decide) (fun K hK => ?_)
        refine goes_ Try.func21 (by kernel_rfl) rfl #[ptr g, .int .i64 wk] (by rfl) rfl rfl (by simp only [List.map_toArray, List.map_cons, List.map_nil]; rfl) ?_
        with_reducible refine (HRT.out u2 _ _ ((HA10.out.drew.below hb1).below hb2)).mono ?_
        rintro e u3 ⟨rfl, rfl⟩
        refine ⟨_, rfl, ?_⟩
        refine hK.out _ _ ⟨t0, t1⟩ (fun hHeld => ?_)
        clear hK K
        refine norm_ (a' := ?_) ?_ ?_
        rotate_left
        · show Act.put _ (some 144) _ = _
          simp only [Act.put, List.setIfInBounds_toArray, List.set_cons_zero, List.set_cons_succ, i64_w, i32_w]
          rfl
        refine pure_ (i := 26) (N := some 145) (v := ?_) (a' := ?_) #[true, true, true, true, true, true, true, true, true, true, true, true, true, true, true, true, true, true, true, true, true, true, true, true, true, true, true, false] rfl rfl (by kernel_rfl) (fun _ _ _ h => h) (Or.inl ⟨by rfl, ?_⟩) ?_ ?_
        rotate_left
        · intro w'
          go_simp
          with_reducible rfl
        rotate_left
        · simp only [Act.put, List.setIfInBounds_toArray, List.set_cons_zero, List.set_cons_succ, i64_w, i32_w]
          rfl
        refine pure_ (i := 27) (N := some 146) (v := ?_) (a' := ?_) #[true, true, true, true, true, true, true, true, true, true, true, true, true, true, true, true, true, true, true, true, true, true, true, true, true, true, true, true] rfl rfl (by kernel_rfl) (fun _ _ _ h => h) (Or.inl ⟨by rfl, ?_⟩) ?_ ?_
        rotate_left
        · intro w'
          go_simp
          with_reducible rfl
        rotate_left
        · simp only [Act.put, List.setIfInBounds_toArray, List.set_cons_zero, List.set_cons_succ, i64_w, i32_w]
          rfl
        refine done_ (by kernel_rfl) ?_

        have HA11 := Aside0.mk ((HA10.out.drew.below hb1).below hb2)
        have HB11 := Aside0.mk ((HB10.out.trans (below_drew (Below.refl _ _))).trans ((hb1.mono HA10.out.drew.size).trans (hb2.mono (HA10.out.drew.below hb1).size)))
        clear hb1 hb2 HA10 HB10 s0 s1 t0 t1 q1 q3 HSM HLN HCT HRT
        go_wp2_with fail
        have HR11 : Aside0 (∃ m : List S31, m.length = L.length ∧ Has W.heap.size u2 (workL p v ps hs2 ++ (refL g (.slice Ar L.length cr) n L ++ [rowK (.slice Aa L.length ca) m, actT b1 kd r t wk]))) := ⟨⟨L, rfl, HA11.out⟩⟩
        clear HA11
        go_loopw [18] (fun i wr => ∃ q : Nat, i = .int .i64 q ∧ q ≤ L.length ∧ Aside0 (∃ m : List S31, m.length = L.length ∧ Has W.heap.size wr (workL p v ps hs2 ++ (refL g (.slice Ar L.length cr) n L ++ [rowK (.slice Aa L.length ca) m, actT b1 kd r t wk]))) ∧ Aside0 (Below W.heap.size W wr)) (fun i _ => L.length - (intOf i).toNat)
        case atStart => exact ⟨0, rfl, by omega, HR11, HB11⟩
        case round =>
          clear HR11 HB11
          obtain ⟨q, rfl, hq, HR, HB⟩ := hrel
          by_cases hqt : q < L.length
          · obtain ⟨m, hml, hA⟩ := HR.out
            obtain ⟨gA, cA, eA, -⟩ := row_addr (take_out hA) (v := .slice Aa L.length ca) (l := m) (by simp) (by omega)
            injection eA with eA1 eA2 eA3
            subst eA1
            clear eA2 eA3
            obtain ⟨⟨m', hm', hA'⟩, hB', f0, f1, c0, c1⟩ := row_store (take_out hA) q (by omega) ⟨0, -1⟩
            have d4 : decide ((q : Int) < (L.length : Int)) = true := decide_eq_true (by omega)
            have d5 : (q : Int) < (L.length : Int) := by omega
            have d6 : decide (0 ≤ (q : Int)) = true := decide_eq_true (by omega)
            have HR2 : Aside0 (∃ m : List S31, m.length = L.length ∧ Has W.heap.size ((wr.setCell ⟨gA, q * 2, none⟩ (.int .u32 0)).setCell ⟨gA, q * 2 + 1, none⟩ (.int .i64 (-1))) (workL p v ps hs2 ++ (refL g (.slice Ar L.length cr) n L ++ [rowK (.slice (some ⟨gA, 0, none⟩) L.length ca) m, actT b1 kd r t wk]))) := ⟨⟨m', hm'.trans hml, put_in hA'⟩⟩
            have HB2 := Aside0.mk (HB.out.trans hB')
            generalize (rd_T31 m (q : Int)).f0 = o0 at c0
            generalize (rd_T31 m (q : Int)).f1 = o1 at c1
            clear hA hA' hB' HR hm' hml
            go_wp2_with fail
            go_roundw
            case rel => exact ⟨q + 1, rfl, by omega, HR2, HB2⟩
            case measure => simp [intOf]; omega
          · have d4 : decide ((q : Int) < (L.length : Int)) = false := decide_eq_false (by omega)
            have HA13 : Aside0 (Has W.heap.size wr (workL p v ps hs2 ++ (refL g (.slice Ar L.length cr) n (sortL hs2.flatten) ++ []))) := ⟨by
              obtain ⟨m, -, hA⟩ := HR.out
              rw [HLQ.out]
              exact (take_out (take_out hA).tail).tail⟩
            clear HR
            go_wp2_with fail
            go_roundw
            case rel => exact ⟨k + 1, hs2, _, rfl, by omega, HI2, HA13, HB⟩
            case measure => simp [intOf]; omega
      by_cases hk3 : kd.tmod 4 = 3
      · have e2 : (kd.tmod 4 == 2) = false := beq_eq_false_iff_ne.2 hk2
        have e3 : (kd.tmod 4 == 3) = true := beq_iff_eq.2 hk3
        go_wp2_with fail
        generalize wr.alloc (.cells #[.int .u8 kd, .int .u32 r, .int .i64 t, .int .i64 wk] 46) = w3 at HA1 HB1 q0 q1 q2 q3 ⊢
        generalize wr.heap.size = b1 at HA1 q0 q1 q2 q3 ⊢
        clear hi2 hi3 hi4 hi5 e2 e3 hk2 hk3 q0 q2 q3
        have hpn : homeOf r ps.length = homeOf r n := by rw [HPS.out]
        have HDC := Aside0.mk (drop_calls HA1.out.drew HPL.out (by rw [HPS.out]; omega) r HXG.out.1 HXG.out.2)
        rw [hpn] at HDC
        have HI2 : Aside0 (PlayI n (k + 1) (hs.set (homeOf r n) (withoutL (hs.getD (homeOf r n) []) r))) := ⟨home_drop HHH.out _ r, (List.length_set ..).trans HHL.out, by have := sub_len hs (homeOf r n) (s := withoutL (hs.getD (homeOf r n) []) r) List.filter_sublist; have := HFL.out; omega⟩
        have HDR := Aside0.mk (fun (w : World) (hs2 : List (List S31)) (Ts : List Th) (h : Has W.heap.size w (workL p v ps hs2 ++ (refL g vr n (sortL hs.flatten) ++ Ts))) => rdrop_at (wr_swap h) HHH.out HHL.out (by have := HFL.out; omega) r)
        generalize hasL (hs.getD (homeOf r n) []) r = hb at HDC HDR
        generalize hs.set (homeOf r n) (withoutL (hs.getD (homeOf r n) []) r) = hs2 at HDC HDR HI2
        clear hpn
        refine start_ (n := 11) (S := fun w' => w'.cell? ⟨b1, 1, none⟩ = some (.int .u32 r)) (ds := []) #[false, false, false, false, false, false, false, false, false, false, false] (by kernel_rfl) rfl rfl (q1) (fun hHeld => ?_)
        refine pure_ (i := 0) (N := some 106) (v := ?_) (a' := ?_) #[true, false, false, false, false, false, false, false, false, false, false] rfl rfl (by kernel_rfl) (fun _ _ _ h => h) (Or.inl ⟨by rfl, ?_⟩) ?_ ?_
        rotate_left
        · intro w'
          go_simp
          with_reducible rfl
        rotate_left
        · simp only [Act.put, List.setIfInBounds_toArray, List.set_cons_zero, List.set_cons_succ, i64_w, i32_w]
          rfl
        refine pure_ (i := 1) (N := some 107) (v := ?_) (a' := ?_) #[true, true, false, false, false, false, false, false, false, false, false] rfl rfl (by kernel_rfl) (fun _ _ _ h => h) (Or.inl ⟨by rfl, ?_⟩) ?_ ?_
        rotate_left
        · intro w'
          go_simp
          with_reducible rfl
        rotate_left
        · simp only [Act.put, List.setIfInBounds_toArray, List.set_cons_zero, List.set_cons_succ, i64_w, i32_w]
          rfl
        refine pure_ (i := 2) (N := some 108) (v := ?_) (a' := ?_) #[true, true, true, false, false, false, false, false, false, false, false] rfl rfl (by kernel_rfl) (fun _ _ _ h => h) (Or.inl ⟨by rfl, ?_⟩) ?_ ?_
        rotate_left
        · intro w'
          go_simp
          with_reducible rfl
        rotate_left
        · simp only [Act.put, List.setIfInBounds_toArray, List.set_cons_zero, List.set_cons_succ, i64_w, i32_w]
          rfl
        refine pure_ (i := 5) (N := some 111) (v := ?_) (a' := ?_) #[true, true, true, false, false, true, false, false, false, false, false] rfl rfl (by kernel_rfl) (fun _ _ _ h => h) (Or.inl ⟨by rfl, ?_⟩) ?_ ?_
        rotate_left
        · intro w'
          go_simp
          with_reducible rfl
        rotate_left
        · simp only [Act.put, List.setIfInBounds_toArray, List.set_cons_zero, List.set_cons_succ, i64_w, i32_w]
          rfl
        refine pure_ (i := 6) (N := some 112) (v := ?_) (a' := ?_) #[true, true, true, false, false, true, true, false, false, false, false] rfl rfl (by kernel_rfl) (fun _ _ _ h => h) (Or.inl ⟨by rfl, ?_⟩) ?_ ?_
        rotate_left
        · intro w'
          go_simp
          with_reducible rfl
        rotate_left
        · simp only [Act.put, List.setIfInBounds_toArray, List.set_cons_zero, List.set_cons_succ, i64_w, i32_w]
          rfl
        refine pure_ (i := 7) (N := some 113) (v := ?_) (a' := ?_) #[true, true, true, false, false, true, true, true, false, false, false] rfl rfl (by kernel_rfl) (fun _ _ _ h => h) (Or.inl ⟨by rfl, ?_⟩) ?_ ?_
        rotate_left
        · intro w'
          go_simp
          with_reducible rfl
        rotate_left
        · simp only [Act.put, List.setIfInBounds_toArray, List.set_cons_zero, List.set_cons_succ, i64_w, i32_w]
          rfl
        refine take_ (i := 3) (N := some 109) (v := ?_) (a' := ?_) #[true, true, true, true, false, true, true, true, false, false, false] rfl rfl (by kernel_rfl) (fun _ _ _ h => h) (Or.inl ⟨by rfl, ?_⟩) hHeld ?_ ?_
        rotate_left
        · intro w' s0
          go_simp
          with_reducible rfl
        rotate_left
        · simp only [Act.put, List.setIfInBounds_toArray, List.set_cons_zero, List.set_cons_succ, i64_w, i32_w]
          rfl
        refine take_ (i := 8) (N := some 114) (v := ?_) (a' := ?_) #[true, true, true, true, false, true, true, true, true, false, false] rfl rfl (by kernel_rfl) (fun _ _ _ h => h) (Or.inl ⟨by rfl, ?_⟩) hHeld ?_ ?_
        rotate_left
        · intro w' s0
          go_simp
          with_reducible rfl
        rotate_left
        · simp only [Act.put, List.setIfInBounds_toArray, List.set_cons_zero, List.set_cons_succ, i64_w, i32_w]
          rfl
        refine one_ (i := 4) (N := some 110) #[true, true, true, true, true, true, true, true, true, false, false] rfl rfl (by kernel_rfl) (by decide) (fun K hK => ?_)
        refine goes_ Try.func17 (by kernel_rfl) rfl #[ptr p, .int .u32 r] (by rfl) rfl rfl (by simp only [List.map_toArray, List.map_cons, List.map_nil]; rfl) ?_
        with_reducible refine (HDC.out).mono ?_
        rintro e w5 ⟨rfl, hA5, hB5⟩
        refine ⟨_, rfl, ?_⟩
        obtain ⟨qa, -, -, -⟩ := Has.box_cell hA5 (b := b1) (cs := #[.int .u8 kd, .int .u32 r, .int .i64 t, .int .i64 wk]) (t := 46) (by simp)
        have s0 : w5.cell? ⟨b1, 1, none⟩ = some (.int .u32 r) := qa 1
        clear qa
        refine hK.out _ _ (s0) (fun hHeld => ?_)
        clear hK K
        refine norm_ (a' := ?_) ?_ ?_
        rotate_left
        · show Act.put _ (some 110) _ = _
          simp only [Act.put, List.setIfInBounds_toArray, List.set_cons_zero, List.set_cons_succ, i64_w, i32_w]
          rfl
        refine one_ (i := 9) (N := some 115) #[true, true, true, true, true, true, true, true, true, true, false] rfl rfl (by kernel_rfl) (by decide) (fun K hK => ?_)
        refine goes_ Try.func18 (by kernel_rfl) rfl #[ptr g, .int .u32 r] (by rfl) rfl rfl (by simp only [List.map_toArray, List.map_cons, List.map_nil]; rfl) ?_
        with_reducible refine (HDR.out _ _ _ hA5).mono ?_
        rintro e w9 ⟨vr2, rfl, hA9, hB9⟩
        refine ⟨_, rfl, ?_⟩
        obtain ⟨qa, -, -, -⟩ := Has.box_cell hA9 (b := b1) (cs := #[.int .u8 kd, .int .u32 r, .int .i64 t, .int .i64 wk]) (t := 46) (by simp)
        have t0 : w9.cell? ⟨b1, 1, none⟩ = some (.int .u32 r) := qa 1
        clear qa
        refine hK.out _ _ (t0) (fun hHeld => ?_)
        clear hK K
        refine norm_ (a' := ?_) ?_ ?_
        rotate_left
        · show Act.put _ (some 115) _ = _
          simp only [Act.put, List.setIfInBounds_toArray, List.set_cons_zero, List.set_cons_succ, i64_w, i32_w]
          rfl
        refine pure_ (i := 10) (N := some 116) (v := ?_) (a' := ?_) #[true, true, true, true, true, true, true, true, true, true, true] rfl rfl (by kernel_rfl) (fun _ _ _ h => h) (Or.inl ⟨by rfl, ?_⟩) ?_ ?_
        rotate_left
        · intro w'
          go_simp
          with_reducible rfl
        rotate_left
        · simp only [Act.put, List.setIfInBounds_toArray, List.set_cons_zero, List.set_cons_succ, i64_w, i32_w]
          rfl
        refine done_ (by kernel_rfl) ?_

        have HA9 := Aside0.mk (wr_swap hA9)
        have HB9 : Aside0 (Below W.heap.size W w9) := ⟨((HB1.out.trans (below_drew (Below.refl _ _))).trans hB5).trans hB9⟩
        clear hA5 hB5 hA9 hB9 s0 t0 q1 HDC HDR HA1 HB1
        go_wp2_with fail
        have HL2 : Aside0 (ps.length = hs2.length) := ⟨HPS.out.trans HI2.out.2.1.symm⟩
        have HF2 : Aside0 (hs2.flatten.length ≤ 201) := ⟨by have := HI2.out.2.2; omega⟩
        have hal : (sortL hs2.flatten).length ≤ 201 := by rw [(all_good HI2.out.1 (by have := HF2.out; omega)).2.length_eq]; exact HF2.out
        have HLE : Aside0 (hs2.flatten.length = (sortL hs2.flatten).length) := ⟨(all_good HI2.out.1 (by have := HF2.out; omega)).2.length_eq.symm⟩
        have HALL := Aside0.mk (wall_calls HA9.out HL2.out (by have := HF2.out; omega))
        have HRT := Aside0.mk (fun (w : World) (vv : Value) (Ts : List Th) (h : Has W.heap.size w (workL p v ps hs2 ++ (refL g vv n (sortL hs2.flatten) ++ Ts))) => rcount_at (wr_swap h) HI2.out.1 HI2.out.2.1 (by have := HF2.out; omega) wk)
        generalize hLq : sortL hs2.flatten = L at HA9 hal HLE HALL HRT
        have HLQ := Aside0.mk hLq
        clear hLq
        refine HALL.out.mono ?_
        rintro e w10 ⟨va, rfl, hr, hb⟩
        have HA10 := Aside0.mk (put_in (HA9.out.row hb hr))
        have HB10 := Aside0.mk (HB9.out.trans (hb.mono HA9.out.size))
        clear hr hb HALL HA9 HB9
        obtain ⟨Aa, ca, rfl, hca, hCa⟩ := HA10.out.reads (d := k31) (e := 31) (v := va) (xs := L) (by simp)
        obtain ⟨-, q1, -, Ar, cr, rfl, hcr, hCr⟩ := ref_cells (wr_swap HA10.out)
        have HSM := Aside0.mk (same_calls (w := w10.drew) (by omega) (Kd.C_below hCa (below_drew (Below.refl _ w10))) hca (Kd.C_below hCr (below_drew (Below.refl _ w10))) hcr)
        have HLN := Aside0.mk (fun (w : World) (h : Has W.heap.size w (workL p v ps hs2 ++ (refL g (.slice Ar L.length cr) n L ++ [rowK (.slice Aa L.length ca) L, actT b1 kd r t wk]))) => wlen_calls h HL2.out (by have := HF2.out; omega))
        rw [HLE.out] at HLN
        have HCT := Aside0.mk (fun (w : World) (h : Has W.heap.size w (workL p v ps hs2 ++ (refL g (.slice Ar L.length cr) n L ++ [rowK (.slice Aa L.length ca) L, actT b1 kd r t wk]))) => count_calls h HL2.out wk)
        clear hCa hca hCr hcr
        obtain ⟨qa, -, -, -⟩ := Has.box_cell HA10.out (b := b1) (cs := #[.int .u8 kd, .int .u32 r, .int .i64 t, .int .i64 wk]) (t := 46) (by simp)
        have q3 : w10.cell? ⟨b1, 3, none⟩ = some (.int .i64 wk) := qa 3
        clear qa
        generalize countR hs2 wk = cw at HCT HRT
        go_wp2_with fail
        refine start_ (n := 28) (S := fun w' => w'.cell? ⟨g, 1, none⟩ = some (.slice Ar L.length cr) ∧ w'.cell? ⟨b1, 3, none⟩ = some (.int .i64 wk)) (ds := []) #[false, false, false, false, false, false, false, false, false, false, false, false, false, false, false, false, false, false, false, false, false, false, false, false, false, false, false, false] (by kernel_rfl) rfl rfl ⟨q1, q3⟩ (fun hHeld => ?_)
        refine pure_ (i := 0) (N := some 119) (v := ?_) (a' := ?_) #[true, false, false, false, false, false, false, false, false, false, false, false, false, false, false, false, false, false, false, false, false, false, false, false, false, false, false, false] rfl rfl (by kernel_rfl) (fun _ _ _ h => h) (Or.inl ⟨by rfl, ?_⟩) ?_ ?_
        rotate_left
        · intro w'
          go_simp
          with_reducible rfl
        rotate_left
        · simp only [Act.put, List.setIfInBounds_toArray, List.set_cons_zero, List.set_cons_succ, i64_w, i32_w]
          rfl
        refine pure_ (i := 1) (N := some 120) (v := ?_) (a' := ?_) #[true, true, false, false, false, false, false, false, false, false, false, false, false, false, false, false, false, false, false, false, false, false, false, false, false, false, false, false] rfl rfl (by kernel_rfl) (fun _ _ _ h => h) (Or.inl ⟨by rfl, ?_⟩) ?_ ?_
        rotate_left
        · intro w'
          go_simp
          with_reducible rfl
        rotate_left
        · simp only [Act.put, List.setIfInBounds_toArray, List.set_cons_zero, List.set_cons_succ, i64_w, i32_w]
          rfl
        refine pure_ (i := 2) (N := some 121) (v := ?_) (a' := ?_) #[true, true, true, false, false, false, false, false, false, false, false, false, false, false, false, false, false, false, false, false, false, false, false, false, false, false, false, false] rfl rfl (by kernel_rfl) (fun _ _ _ h => h) (Or.inl ⟨by rfl, ?_⟩) ?_ ?_
        rotate_left
        · intro w'
          go_simp
          with_reducible rfl
        rotate_left
        · simp only [Act.put, List.setIfInBounds_toArray, List.set_cons_zero, List.set_cons_succ, i64_w, i32_w]
          rfl
        refine pure_ (i := 3) (N := some 122) (v := ?_) (a' := ?_) #[true, true, true, true, false, false, false, false, false, false, false, false, false, false, false, false, false, false, false, false, false, false, false, false, false, false, false, false] rfl rfl (by kernel_rfl) (fun _ _ _ h => h) (Or.inl ⟨by rfl, ?_⟩) ?_ ?_
        rotate_left
        · intro w'
          go_simp
          with_reducible rfl
        rotate_left
        · simp only [Act.put, List.setIfInBounds_toArray, List.set_cons_zero, List.set_cons_succ, i64_w, i32_w]
          rfl
        refine take_ (i := 4) (N := some 123) (v := ?_) (a' := ?_) #[true, true, true, true, true, false, false, false, false, false, false, false, false, false, false, false, false, false, false, false, false, false, false, false, false, false, false, false] rfl rfl (by kernel_rfl) (fun _ _ _ h => h) (Or.inl ⟨by rfl, ?_⟩) hHeld ?_ ?_
        rotate_left
        · rintro w' ⟨s0, s1⟩
          go_simp
          with_reducible rfl
        rotate_left
        · simp only [Act.put, List.setIfInBounds_toArray, List.set_cons_zero, List.set_cons_succ, i64_w, i32_w]
          rfl
        refine one_ (i := 5) (N := some 124) #[true, true, true, true, true, true, false, false, false, false, false, false, false, false, false, false, false, false, false, false, false, false, false, false, false, false, false, false] rfl rfl (by kernel_rfl) (by decide) (fun K hK => ?_)
        refine goes_ Try.func20 (by kernel_rfl) rfl #[.slice Aa L.length ca, .slice Ar L.length cr] (by rfl) rfl rfl (by simp only [List.map_toArray, List.map_cons, List.map_nil]; rfl) ?_
        with_reducible refine (HSM.out).mono ?_
        rintro e u1 ⟨rfl, hb1⟩
        refine ⟨_, rfl, ?_⟩
        have s0 := pw_cell_below hb1 (show w10.drew.cell? _ = _ from q1)
        have s1 := pw_cell_below hb1 (show w10.drew.cell? _ = _ from q3)
        refine hK.out _ _ ⟨s0, s1⟩ (fun hHeld => ?_)
        clear hK K
        refine norm_ (a' := ?_) ?_ ?_
        rotate_left
        · show Act.put _ (some 124) _ = _
          simp only [Act.put, List.setIfInBounds_toArray, List.set_cons_zero, List.set_cons_succ, i64_w, i32_w]
          rfl
        refine pure_ (i := 6) (N := some 125) (v := ?_) (a' := ?_) #[true, true, true, true, true, true, true, false, false, false, false, false, false, false, false, false, false, false, false, false, false, false, false, false, false, false, false, false] rfl rfl (by kernel_rfl) (fun _ _ _ h => h) (Or.inl ⟨by rfl, ?_⟩) ?_ ?_
        rotate_left
        · intro w'
          go_simp
          with_reducible rfl
        rotate_left
        · simp only [Act.put, List.setIfInBounds_toArray, List.set_cons_zero, List.set_cons_succ, i64_w, i32_w]
          rfl
        refine pure_ (i := 7) (N := some 126) (v := ?_) (a' := ?_) #[true, true, true, true, true, true, true, true, false, false, false, false, false, false, false, false, false, false, false, false, false, false, false, false, false, false, false, false] rfl rfl (by kernel_rfl) (fun _ _ _ h => h) (Or.inl ⟨by rfl, ?_⟩) ?_ ?_
        rotate_left
        · intro w'
          go_simp
          with_reducible rfl
        rotate_left
        · simp only [Act.put, List.setIfInBounds_toArray, List.set_cons_zero, List.set_cons_succ, i64_w, i32_w]
          rfl
        refine pure_ (i := 8) (N := some 127) (v := ?_) (a' := ?_) #[true, true, true, true, true, true, true, true, true, false, false, false, false, false, false, false, false, false, false, false, false, false, false, false, false, false, false, false] rfl rfl (by kernel_rfl) (fun _ _ _ h => h) (Or.inl ⟨by rfl, ?_⟩) ?_ ?_
        rotate_left
        · intro w'
          go_simp
          with_reducible rfl
        rotate_left
        · simp only [Act.put, List.setIfInBounds_toArray, List.set_cons_zero, List.set_cons_succ, i64_w, i32_w]
          rfl
        refine pure_ (i := 10) (N := some 129) (v := ?_) (a' := ?_) #[true, true, true, true, true, true, true, true, true, false, true, false, false, false, false, false, false, false, false, false, false, false, false, false, false, false, false, false] rfl rfl (by kernel_rfl) (fun _ _ _ h => h) (Or.inl ⟨by rfl, ?_⟩) ?_ ?_
        rotate_left
        · intro w'
          go_simp
          with_reducible rfl
        rotate_left
        · simp only [Act.put, List.setIfInBounds_toArray, List.set_cons_zero, List.set_cons_succ, i64_w, i32_w]
          rfl
        refine pure_ (i := 11) (N := some 130) (v := ?_) (a' := ?_) #[true, true, true, true, true, true, true, true, true, false, true, true, false, false, false, false, false, false, false, false, false, false, false, false, false, false, false, false] rfl rfl (by kernel_rfl) (fun _ _ _ h => h) (Or.inl ⟨by rfl, ?_⟩) ?_ ?_
        rotate_left
        · intro w'
          go_simp
          with_reducible rfl
        rotate_left
        · simp only [Act.put, List.setIfInBounds_toArray, List.set_cons_zero, List.set_cons_succ, i64_w, i32_w]
          rfl
        refine pure_ (i := 12) (N := some 131) (v := ?_) (a' := ?_) #[true, true, true, true, true, true, true, true, true, false, true, true, true, false, false, false, false, false, false, false, false, false, false, false, false, false, false, false] rfl rfl (by kernel_rfl) (fun _ _ _ h => h) (Or.inl ⟨by rfl, ?_⟩) ?_ ?_
        rotate_left
        · intro w'
          go_simp
          with_reducible rfl
        rotate_left
        · simp only [Act.put, List.setIfInBounds_toArray, List.set_cons_zero, List.set_cons_succ, i64_w, i32_w]
          rfl
        refine take_ (i := 13) (N := some 132) (v := ?_) (a' := ?_) #[true, true, true, true, true, true, true, true, true, false, true, true, true, true, false, false, false, false, false, false, false, false, false, false, false, false, false, false] rfl rfl (by kernel_rfl) (fun _ _ _ h => h) (Or.inl ⟨by rfl, ?_⟩) hHeld ?_ ?_
        rotate_left
        · rintro w' ⟨s0, s1⟩
          go_simp
          with_reducible rfl
        rotate_left
        · simp only [Act.put, List.setIfInBounds_toArray, List.set_cons_zero, List.set_cons_succ, i64_w, i32_w]
          rfl
        refine pure_ (i := 14) (N := some 133) (v := ?_) (a' := ?_) #[true, true, true, true, true, true, true, true, true, false, true, true, true, true, true, false, false, false, false, false, false, false, false, false, false, false, false, false] rfl rfl (by kernel_rfl) (fun _ _ _ h => h) (Or.inl ⟨by rfl, ?_⟩) ?_ ?_
        rotate_left
        · intro w'
          go_simp
          with_reducible rfl
        rotate_left
        · simp only [Act.put, List.setIfInBounds_toArray, List.set_cons_zero, List.set_cons_succ, i64_w, i32_w]
          rfl
        refine one_ (i := 9) (N := some 128) #[true, true, true, true, true, true, true, true, true, true, true, true, true, true, true, false, false, false, false, false, false, false, false, false, false, false, false, false] rfl rfl (by kernel_rfl) (by decide) (fun K hK => ?_)
        refine goes_ Try.func13 (by kernel_rfl) rfl #[ptr p] (by rfl) rfl rfl (by simp only [List.map_toArray, List.map_cons, List.map_nil]; rfl) ?_
        with_reducible refine (HLN.out u1 (HA10.out.drew.below hb1)).mono ?_
        rintro e u2 ⟨rfl, hb2⟩
        refine ⟨_, rfl, ?_⟩
        have t0 := pw_cell_below hb2 s0
        have t1 := pw_cell_below hb2 s1
        refine hK.out _ _ ⟨t0, t1⟩ (fun hHeld => ?_)
        clear hK K
        refine norm_ (a' := ?_) ?_ ?_
        rotate_left
        · show Act.put _ (some 128) _ = _
          simp only [Act.put, List.setIfInBounds_toArray, List.set_cons_zero, List.set_cons_succ, i64_w, i32_w]
          rfl
        refine pure_ (i := 15) (N := some 134) (v := ?_) (a' := ?_) #[true, true, true, true, true, true, true, true, true, true, true, true, true, true, true, true, false, false, false, false, false, false, false, false, false, false, false, false] rfl rfl (by kernel_rfl) (fun _ _ _ h => h) (Or.inl ⟨by rfl, ?_⟩) ?_ ?_
        rotate_left
        · intro w'
          go_simp
          with_reducible rfl
        rotate_left
        · simp only [Act.put, List.setIfInBounds_toArray, List.set_cons_zero, List.set_cons_succ, i64_w, i32_w]
          rfl
        refine pure_ (i := 16) (N := some 135) (v := ?_) (a' := ?_) #[true, true, true, true, true, true, true, true, true, true, true, true, true, true, true, true, true, false, false, false, false, false, false, false, false, false, false, false] rfl rfl (by kernel_rfl) (fun _ _ _ h => h) (Or.inl ⟨by rfl, ?_⟩) ?_ ?_
        rotate_left
        · intro w'
          go_simp
          with_reducible rfl
        rotate_left
        · simp only [Act.put, List.setIfInBounds_toArray, List.set_cons_zero, List.set_cons_succ, i64_w, i32_w]
          rfl
        refine pure_ (i := 17) (N := some 136) (v := ?_) (a' := ?_) #[true, true, true, true, true, true, true, true, true, true, true, true, true, true, true, true, true, true, false, false, false, false, false, false, false, false, false, false] rfl rfl (by kernel_rfl) (fun _ _ _ h => h) (Or.inl ⟨by rfl, ?_⟩) ?_ ?_
        rotate_left
        · intro w'
          go_simp
          with_reducible rfl
        rotate_left
        · simp only [Act.put, List.setIfInBounds_toArray, List.set_cons_zero, List.set_cons_succ, i64_w, i32_w]
          rfl
        refine pure_ (i := 18) (N := some 137) (v := ?_) (a' := ?_) #[true, true, true, true, true, true, true, true, true, true, true, true, true, true, true, true, true, true, true, false, false, false, false, false, false, false, false, false] rfl rfl (by kernel_rfl) (fun _ _ _ h => h) (Or.inl ⟨by rfl, ?_⟩) ?_ ?_
        rotate_left
        · intro w'
          go_simp
          with_reducible rfl
        rotate_left
        · simp only [Act.put, List.setIfInBounds_toArray, List.set_cons_zero, List.set_cons_succ, i64_w, i32_w]
          rfl
        refine pure_ (i := 19) (N := some 138) (v := ?_) (a' := ?_) #[true, true, true, true, true, true, true, true, true, true, true, true, true, true, true, true, true, true, true, true, false, false, false, false, false, false, false, false] rfl rfl (by kernel_rfl) (fun _ _ _ h => h) (Or.inl ⟨by rfl, ?_⟩) ?_ ?_
        rotate_left
        · intro w'
          go_simp
          with_reducible rfl
        rotate_left
        · simp only [Act.put, List.setIfInBounds_toArray, List.set_cons_zero, List.set_cons_succ, i64_w, i32_w]
          rfl
        refine pure_ (i := 22) (N := some 141) (v := ?_) (a' := ?_) #[true, true, true, true, true, true, true, true, true, true, true, true, true, true, true, true, true, true, true, true, false, false, true, false, false, false, false, false] rfl rfl (by kernel_rfl) (fun _ _ _ h => h) (Or.inl ⟨by rfl, ?_⟩) ?_ ?_
        rotate_left
        · intro w'
          go_simp
          with_reducible rfl
        rotate_left
        · simp only [Act.put, List.setIfInBounds_toArray, List.set_cons_zero, List.set_cons_succ, i64_w, i32_w]
          rfl
        refine pure_ (i := 23) (N := some 142) (v := ?_) (a' := ?_) #[true, true, true, true, true, true, true, true, true, true, true, true, true, true, true, true, true, true, true, true, false, false, true, true, false, false, false, false] rfl rfl (by kernel_rfl) (fun _ _ _ h => h) (Or.inl ⟨by rfl, ?_⟩) ?_ ?_
        rotate_left
        · intro w'
          go_simp
          with_reducible rfl
        rotate_left
        · simp only [Act.put, List.setIfInBounds_toArray, List.set_cons_zero, List.set_cons_succ, i64_w, i32_w]
          rfl
        refine take_ (i := 20) (N := some 139) (v := ?_) (a' := ?_) #[true, true, true, true, true, true, true, true, true, true, true, true, true, true, true, true, true, true, true, true, true, false, true, true, false, false, false, false] rfl rfl (by kernel_rfl) (fun _ _ _ h => h) (Or.inl ⟨by rfl, ?_⟩) hHeld ?_ ?_
        rotate_left
        · rintro w' ⟨s0, s1⟩
          go_simp
          with_reducible rfl
        rotate_left
        · simp only [Act.put, List.setIfInBounds_toArray, List.set_cons_zero, List.set_cons_succ, i64_w, i32_w]
          rfl
        refine take_ (i := 24) (N := some 143) (v := ?_) (a' := ?_) #[true, true, true, true, true, true, true, true, true, true, true, true, true, true, true, true, true, true, true, true, true, false, true, true, true, false, false, false] rfl rfl (by kernel_rfl) (fun _ _ _ h => h) (Or.inl ⟨by rfl, ?_⟩) hHeld ?_ ?_
        rotate_left
        · rintro w' ⟨s0, s1⟩
          go_simp
          with_reducible rfl
        rotate_left
        · simp only [Act.put, List.setIfInBounds_toArray, List.set_cons_zero, List.set_cons_succ, i64_w, i32_w]
          rfl
        refine one_ (i := 21) (N := some 140) #[true, true, true, true, true, true, true, true, true, true, true, true, true, true, true, true, true, true, true, true, true, true, true, true, true, false, false, false] rfl rfl (by kernel_rfl) (by decide) (fun K hK => ?_)
        refine goes_ Try.func10 (by kernel_rfl) rfl #[ptr p, .int .i64 wk] (by rfl) rfl rfl (by simp only [List.map_toArray, List.map_cons, List.map_nil]; rfl) ?_
        with_reducible refine (HCT.out u2 ((HA10.out.drew.below hb1).below hb2)).mono ?_
        rintro e u3 ⟨rfl, rfl⟩
        refine ⟨_, rfl, ?_⟩
        refine hK.out _ _ ⟨t0, t1⟩ (fun hHeld => ?_)
        clear hK K
        refine norm_ (a' := ?_) ?_ ?_
        rotate_left
        · show Act.put _ (some 140) _ = _
          simp only [Act.put, List.setIfInBounds_toArray, List.set_cons_zero, List.set_cons_succ, i64_w, i32_w]
          rfl
        refine one_ (i := 25) (N := some 144) #[true, true, true, true, true, true, true, true, true, true, true, true, true, true, true, true, true, true, true, true, true, true, true, true, true, true, false, false] rfl rfl (by kernel_rfl) (by decide) (fun K hK => ?_)
        refine goes_ Try.func21 (by kernel_rfl) rfl #[ptr g, .int .i64 wk] (by rfl) rfl rfl (by simp only [List.map_toArray, List.map_cons, List.map_nil]; rfl) ?_
        with_reducible refine (HRT.out u2 _ _ ((HA10.out.drew.below hb1).below hb2)).mono ?_
        rintro e u3 ⟨rfl, rfl⟩
        refine ⟨_, rfl, ?_⟩
        refine hK.out _ _ ⟨t0, t1⟩ (fun hHeld => ?_)
        clear hK K
        refine norm_ (a' := ?_) ?_ ?_
        rotate_left
        · show Act.put _ (some 144) _ = _
          simp only [Act.put, List.setIfInBounds_toArray, List.set_cons_zero, List.set_cons_succ, i64_w, i32_w]
          rfl
        refine pure_ (i := 26) (N := some 145) (v := ?_) (a' := ?_) #[true, true, true, true, true, true, true, true, true, true, true, true, true, true, true, true, true, true, true, true, true, true, true, true, true, true, true, false] rfl rfl (by kernel_rfl) (fun _ _ _ h => h) (Or.inl ⟨by rfl, ?_⟩) ?_ ?_
        rotate_left
        · intro w'
          go_simp
          with_reducible rfl
        rotate_left
        · simp only [Act.put, List.setIfInBounds_toArray, List.set_cons_zero, List.set_cons_succ, i64_w, i32_w]
          rfl
        refine pure_ (i := 27) (N := some 146) (v := ?_) (a' := ?_) #[true, true, true, true, true, true, true, true, true, true, true, true, true, true, true, true, true, true, true, true, true, true, true, true, true, true, true, true] rfl rfl (by kernel_rfl) (fun _ _ _ h => h) (Or.inl ⟨by rfl, ?_⟩) ?_ ?_
        rotate_left
        · intro w'
          go_simp
          with_reducible rfl
        rotate_left
        · simp only [Act.put, List.setIfInBounds_toArray, List.set_cons_zero, List.set_cons_succ, i64_w, i32_w]
          rfl
        refine done_ (by kernel_rfl) ?_

        have HA11 := Aside0.mk ((HA10.out.drew.below hb1).below hb2)
        have HB11 := Aside0.mk ((HB10.out.trans (below_drew (Below.refl _ _))).trans ((hb1.mono HA10.out.drew.size).trans (hb2.mono (HA10.out.drew.below hb1).size)))
        clear hb1 hb2 HA10 HB10 s0 s1 t0 t1 q1 q3 HSM HLN HCT HRT
        go_wp2_with fail
        have HR11 : Aside0 (∃ m : List S31, m.length = L.length ∧ Has W.heap.size u2 (workL p v ps hs2 ++ (refL g (.slice Ar L.length cr) n L ++ [rowK (.slice Aa L.length ca) m, actT b1 kd r t wk]))) := ⟨⟨L, rfl, HA11.out⟩⟩
        clear HA11
        go_loopw [18] (fun i wr => ∃ q : Nat, i = .int .i64 q ∧ q ≤ L.length ∧ Aside0 (∃ m : List S31, m.length = L.length ∧ Has W.heap.size wr (workL p v ps hs2 ++ (refL g (.slice Ar L.length cr) n L ++ [rowK (.slice Aa L.length ca) m, actT b1 kd r t wk]))) ∧ Aside0 (Below W.heap.size W wr)) (fun i _ => L.length - (intOf i).toNat)
        case atStart => exact ⟨0, rfl, by omega, HR11, HB11⟩
        case round =>
          clear HR11 HB11
          obtain ⟨q, rfl, hq, HR, HB⟩ := hrel
          by_cases hqt : q < L.length
          · obtain ⟨m, hml, hA⟩ := HR.out
            obtain ⟨gA, cA, eA, -⟩ := row_addr (take_out hA) (v := .slice Aa L.length ca) (l := m) (by simp) (by omega)
            injection eA with eA1 eA2 eA3
            subst eA1
            clear eA2 eA3
            obtain ⟨⟨m', hm', hA'⟩, hB', f0, f1, c0, c1⟩ := row_store (take_out hA) q (by omega) ⟨0, -1⟩
            have d4 : decide ((q : Int) < (L.length : Int)) = true := decide_eq_true (by omega)
            have d5 : (q : Int) < (L.length : Int) := by omega
            have d6 : decide (0 ≤ (q : Int)) = true := decide_eq_true (by omega)
            have HR2 : Aside0 (∃ m : List S31, m.length = L.length ∧ Has W.heap.size ((wr.setCell ⟨gA, q * 2, none⟩ (.int .u32 0)).setCell ⟨gA, q * 2 + 1, none⟩ (.int .i64 (-1))) (workL p v ps hs2 ++ (refL g (.slice Ar L.length cr) n L ++ [rowK (.slice (some ⟨gA, 0, none⟩) L.length ca) m, actT b1 kd r t wk]))) := ⟨⟨m', hm'.trans hml, put_in hA'⟩⟩
            have HB2 := Aside0.mk (HB.out.trans hB')
            generalize (rd_T31 m (q : Int)).f0 = o0 at c0
            generalize (rd_T31 m (q : Int)).f1 = o1 at c1
            clear hA hA' hB' HR hm' hml
            go_wp2_with fail
            go_roundw
            case rel => exact ⟨q + 1, rfl, by omega, HR2, HB2⟩
            case measure => simp [intOf]; omega
          · have d4 : decide ((q : Int) < (L.length : Int)) = false := decide_eq_false (by omega)
            have HA13 : Aside0 (Has W.heap.size wr (workL p v ps hs2 ++ (refL g (.slice Ar L.length cr) n (sortL hs2.flatten) ++ []))) := ⟨by
              obtain ⟨m, -, hA⟩ := HR.out
              rw [HLQ.out]
              exact (take_out (take_out hA).tail).tail⟩
            clear HR
            go_wp2_with fail
            go_roundw
            case rel => exact ⟨k + 1, hs2, _, rfl, by omega, HI2, HA13, HB⟩
            case measure => simp [intOf]; omega
      · skip
        have e2 : (kd.tmod 4 == 2) = false := beq_eq_false_iff_ne.2 hk2
        have e3 : (kd.tmod 4 == 3) = false := beq_eq_false_iff_ne.2 hk3
        go_wp2_with fail
        generalize wr.alloc (.cells #[.int .u8 kd, .int .u32 r, .int .i64 t, .int .i64 wk] 46) = w3 at HA1 HB1 q0 q1 q2 q3 ⊢
        generalize wr.heap.size = b1 at HA1 q0 q1 q2 q3 ⊢
        clear hi2 hi3 hi4 hi5 e2 e3 hk2 hk3 q0 q3
        have HPC := Aside0.mk (put_calls HA1.out.drew HPL.out (by rw [HPS.out]; omega) ⟨r, t⟩ HXG.out (fun s hs' => by have := mem_flat hs'; have := HFL.out; omega))
        have HI2 : Aside0 (PlayI n (k + 1) (putS hs ⟨r, t⟩)) := ⟨home_put HHH.out HXG.out (by have := HFL.out; omega), (putS_length hs _).trans HHL.out, by have := put_len hs ⟨r, t⟩; have := HFL.out; omega⟩
        have HPR := Aside0.mk (fun (w : World) (hs2 : List (List S31)) (Ts : List Th) (h : Has W.heap.size w (workL p v ps hs2 ++ (refL g vr n (sortL hs.flatten) ++ Ts))) => rput_calls (wr_swap h) HHH.out HHL.out (by have := HFL.out; omega) ⟨r, t⟩ HXG.out)
        generalize putE hs ⟨r, t⟩ = pe at HPC HPR
        generalize putS hs ⟨r, t⟩ = hs2 at HPC HPR HI2
        refine start_ (n := 9) (S := fun w' => w'.cell? ⟨b1, 1, none⟩ = some (.int .u32 r) ∧ w'.cell? ⟨b1, 2, none⟩ = some (.int .i64 t)) (ds := []) #[false, false, false, false, false, false, false, false, false] (by kernel_rfl) rfl rfl ⟨q1, q2⟩ (fun hHeld => ?_)
        refine pure_ (i := 0) (N := some 58) (v := ?_) (a' := ?_) #[true, false, false, false, false, false, false, false, false] rfl rfl (by kernel_rfl) (fun _ _ _ h => h) (Or.inl ⟨by rfl, ?_⟩) ?_ ?_
        rotate_left
        · intro w'
          go_simp
          with_reducible rfl
        rotate_left
        · simp only [Act.put, List.setIfInBounds_toArray, List.set_cons_zero, List.set_cons_succ, i64_w, i32_w]
          rfl
        refine pure_ (i := 1) (N := some 59) (v := ?_) (a' := ?_) #[true, true, false, false, false, false, false, false, false] rfl rfl (by kernel_rfl) (fun _ _ _ h => h) (Or.inl ⟨by rfl, ?_⟩) ?_ ?_
        rotate_left
        · intro w'
          go_simp
          with_reducible rfl
        rotate_left
        · simp only [Act.put, List.setIfInBounds_toArray, List.set_cons_zero, List.set_cons_succ, i64_w, i32_w]
          rfl
        refine pure_ (i := 4) (N := some 62) (v := ?_) (a' := ?_) #[true, true, false, false, true, false, false, false, false] rfl rfl (by kernel_rfl) (fun _ _ _ h => h) (Or.inl ⟨by rfl, ?_⟩) ?_ ?_
        rotate_left
        · intro w'
          go_simp
          with_reducible rfl
        rotate_left
        · simp only [Act.put, List.setIfInBounds_toArray, List.set_cons_zero, List.set_cons_succ, i64_w, i32_w]
          rfl
        refine pure_ (i := 5) (N := some 63) (v := ?_) (a' := ?_) #[true, true, false, false, true, true, false, false, false] rfl rfl (by kernel_rfl) (fun _ _ _ h => h) (Or.inl ⟨by rfl, ?_⟩) ?_ ?_
        rotate_left
        · intro w'
          go_simp
          with_reducible rfl
        rotate_left
        · simp only [Act.put, List.setIfInBounds_toArray, List.set_cons_zero, List.set_cons_succ, i64_w, i32_w]
          rfl
        refine take_ (i := 2) (N := some 60) (v := ?_) (a' := ?_) #[true, true, true, false, true, true, false, false, false] rfl rfl (by kernel_rfl) (fun _ _ _ h => h) (Or.inl ⟨by rfl, ?_⟩) hHeld ?_ ?_
        rotate_left
        · rintro w' ⟨s0, s1⟩
          go_simp
          with_reducible rfl
        rotate_left
        · simp only [Act.put, List.setIfInBounds_toArray, List.set_cons_zero, List.set_cons_succ, i64_w, i32_w]
          rfl
        refine take_ (i := 6) (N := some 64) (v := ?_) (a' := ?_) #[true, true, true, false, true, true, true, false, false] rfl rfl (by kernel_rfl) (fun _ _ _ h => h) (Or.inl ⟨by rfl, ?_⟩) hHeld ?_ ?_
        rotate_left
        · rintro w' ⟨s0, s1⟩
          go_simp
          with_reducible rfl
        rotate_left
        · simp only [Act.put, List.setIfInBounds_toArray, List.set_cons_zero, List.set_cons_succ, i64_w, i32_w]
          rfl
        refine one_ (i := 3) (N := some 61) #[true, true, true, true, true, true, true, false, false] rfl rfl (by kernel_rfl) (by decide) (fun K hK => ?_)
        refine goes_ Try.func8 (by kernel_rfl) rfl #[ptr p, .agg #[.int .u32 r, .int .i64 t]] (by rfl) rfl rfl (by simp only [List.map_toArray, List.map_cons, List.map_nil]; rfl) ?_
        with_reducible refine (HPC.out).mono ?_
        rintro e w5 ⟨rfl, hA5, hB5⟩
        refine ⟨_, rfl, ?_⟩
        obtain ⟨qa, -, -, -⟩ := Has.box_cell hA5 (b := b1) (cs := #[.int .u8 kd, .int .u32 r, .int .i64 t, .int .i64 wk]) (t := 46) (by simp)
        have s0 : w5.cell? ⟨b1, 1, none⟩ = some (.int .u32 r) := qa 1
        have s1 : w5.cell? ⟨b1, 2, none⟩ = some (.int .i64 t) := qa 2
        clear qa
        refine hK.out _ _ ⟨s0, s1⟩ (fun hHeld => ?_)
        clear hK K
        refine norm_ (a' := ?_) ?_ ?_
        rotate_left
        · show Act.put _ (some 61) _ = _
          simp only [Act.put, List.setIfInBounds_toArray, List.set_cons_zero, List.set_cons_succ, i64_w, i32_w]
          rfl
        refine one_ (i := 7) (N := some 65) #[true, true, true, true, true, true, true, true, false] rfl rfl (by kernel_rfl) (by decide) (fun K hK => ?_)
        refine goes_ Try.func19 (by kernel_rfl) rfl #[ptr g, .agg #[.int .u32 r, .int .i64 t]] (by rfl) rfl rfl (by simp only [List.map_toArray, List.map_cons, List.map_nil]; rfl) ?_
        with_reducible refine (HPR.out _ _ _ hA5).mono ?_
        rintro e w9 ⟨vr2, rfl, hA9, hB9⟩
        refine ⟨_, rfl, ?_⟩
        obtain ⟨qa, -, -, -⟩ := Has.box_cell hA9 (b := b1) (cs := #[.int .u8 kd, .int .u32 r, .int .i64 t, .int .i64 wk]) (t := 46) (by simp)
        have t0 : w9.cell? ⟨b1, 1, none⟩ = some (.int .u32 r) := qa 1
        have t1 : w9.cell? ⟨b1, 2, none⟩ = some (.int .i64 t) := qa 2
        clear qa
        refine hK.out _ _ ⟨t0, t1⟩ (fun hHeld => ?_)
        clear hK K
        refine norm_ (a' := ?_) ?_ ?_
        rotate_left
        · show Act.put _ (some 65) _ = _
          simp only [Act.put, List.setIfInBounds_toArray, List.set_cons_zero, List.set_cons_succ, i64_w, i32_w]
          rfl
        refine pure_ (i := 8) (N := some 66) (v := ?_) (a' := ?_) #[true, true, true, true, true, true, true, true, true] rfl rfl (by kernel_rfl) (fun _ _ _ h => h) (Or.inl ⟨by rfl, ?_⟩) ?_ ?_
        rotate_left
        · intro w'
          go_simp
          with_reducible rfl
        rotate_left
        · simp only [Act.put, List.setIfInBounds_toArray, List.set_cons_zero, List.set_cons_succ, i64_w, i32_w]
          rfl
        refine done_ (by kernel_rfl) ?_

        have HA9 := Aside0.mk (wr_swap hA9)
        have HB9 : Aside0 (Below W.heap.size W w9) := ⟨((HB1.out.trans (below_drew (Below.refl _ _))).trans hB5).trans hB9⟩
        clear hA5 hB5 hA9 hB9 s0 s1 t0 t1 q1 q2 HPC HPR HA1 HB1
        go_wp2_with fail
        have HL2 : Aside0 (ps.length = hs2.length) := ⟨HPS.out.trans HI2.out.2.1.symm⟩
        have HF2 : Aside0 (hs2.flatten.length ≤ 201) := ⟨by have := HI2.out.2.2; omega⟩
        have hal : (sortL hs2.flatten).length ≤ 201 := by rw [(all_good HI2.out.1 (by have := HF2.out; omega)).2.length_eq]; exact HF2.out
        have HLE : Aside0 (hs2.flatten.length = (sortL hs2.flatten).length) := ⟨(all_good HI2.out.1 (by have := HF2.out; omega)).2.length_eq.symm⟩
        have HALL := Aside0.mk (wall_calls HA9.out HL2.out (by have := HF2.out; omega))
        have HRT := Aside0.mk (fun (w : World) (vv : Value) (Ts : List Th) (h : Has W.heap.size w (workL p v ps hs2 ++ (refL g vv n (sortL hs2.flatten) ++ Ts))) => rcount_at (wr_swap h) HI2.out.1 HI2.out.2.1 (by have := HF2.out; omega) wk)
        generalize hLq : sortL hs2.flatten = L at HA9 hal HLE HALL HRT
        have HLQ := Aside0.mk hLq
        clear hLq
        refine HALL.out.mono ?_
        rintro e w10 ⟨va, rfl, hr, hb⟩
        have HA10 := Aside0.mk (put_in (HA9.out.row hb hr))
        have HB10 := Aside0.mk (HB9.out.trans (hb.mono HA9.out.size))
        clear hr hb HALL HA9 HB9
        obtain ⟨Aa, ca, rfl, hca, hCa⟩ := HA10.out.reads (d := k31) (e := 31) (v := va) (xs := L) (by simp)
        obtain ⟨-, q1, -, Ar, cr, rfl, hcr, hCr⟩ := ref_cells (wr_swap HA10.out)
        have HSM := Aside0.mk (same_calls (w := w10.drew) (by omega) (Kd.C_below hCa (below_drew (Below.refl _ w10))) hca (Kd.C_below hCr (below_drew (Below.refl _ w10))) hcr)
        have HLN := Aside0.mk (fun (w : World) (h : Has W.heap.size w (workL p v ps hs2 ++ (refL g (.slice Ar L.length cr) n L ++ [rowK (.slice Aa L.length ca) L, actT b1 kd r t wk]))) => wlen_calls h HL2.out (by have := HF2.out; omega))
        rw [HLE.out] at HLN
        have HCT := Aside0.mk (fun (w : World) (h : Has W.heap.size w (workL p v ps hs2 ++ (refL g (.slice Ar L.length cr) n L ++ [rowK (.slice Aa L.length ca) L, actT b1 kd r t wk]))) => count_calls h HL2.out wk)
        clear hCa hca hCr hcr
        obtain ⟨qa, -, -, -⟩ := Has.box_cell HA10.out (b := b1) (cs := #[.int .u8 kd, .int .u32 r, .int .i64 t, .int .i64 wk]) (t := 46) (by simp)
        have q3 : w10.cell? ⟨b1, 3, none⟩ = some (.int .i64 wk) := qa 3
        clear qa
        generalize countR hs2 wk = cw at HCT HRT
        go_wp2_with fail
        refine start_ (n := 28) (S := fun w' => w'.cell? ⟨g, 1, none⟩ = some (.slice Ar L.length cr) ∧ w'.cell? ⟨b1, 3, none⟩ = some (.int .i64 wk)) (ds := []) #[false, false, false, false, false, false, false, false, false, false, false, false, false, false, false, false, false, false, false, false, false, false, false, false, false, false, false, false] (by kernel_rfl) rfl rfl ⟨q1, q3⟩ (fun hHeld => ?_)
        refine pure_ (i := 0) (N := some 119) (v := ?_) (a' := ?_) #[true, false, false, false, false, false, false, false, false, false, false, false, false, false, false, false, false, false, false, false, false, false, false, false, false, false, false, false] rfl rfl (by kernel_rfl) (fun _ _ _ h => h) (Or.inl ⟨by rfl, ?_⟩) ?_ ?_
        rotate_left
        · intro w'
          go_simp
          with_reducible rfl
        rotate_left
        · simp only [Act.put, List.setIfInBounds_toArray, List.set_cons_zero, List.set_cons_succ, i64_w, i32_w]
          rfl
        refine pure_ (i := 1) (N := some 120) (v := ?_) (a' := ?_) #[true, true, false, false, false, false, false, false, false, false, false, false, false, false, false, false, false, false, false, false, false, false, false, false, false, false, false, false] rfl rfl (by kernel_rfl) (fun _ _ _ h => h) (Or.inl ⟨by rfl, ?_⟩) ?_ ?_
        rotate_left
        · intro w'
          go_simp
          with_reducible rfl
        rotate_left
        · simp only [Act.put, List.setIfInBounds_toArray, List.set_cons_zero, List.set_cons_succ, i64_w, i32_w]
          rfl
        refine pure_ (i := 2) (N := some 121) (v := ?_) (a' := ?_) #[true, true, true, false, false, false, false, false, false, false, false, false, false, false, false, false, false, false, false, false, false, false, false, false, false, false, false, false] rfl rfl (by kernel_rfl) (fun _ _ _ h => h) (Or.inl ⟨by rfl, ?_⟩) ?_ ?_
        rotate_left
        · intro w'
          go_simp
          with_reducible rfl
        rotate_left
        · simp only [Act.put, List.setIfInBounds_toArray, List.set_cons_zero, List.set_cons_succ, i64_w, i32_w]
          rfl
        refine pure_ (i := 3) (N := some 122) (v := ?_) (a' := ?_) #[true, true, true, true, false, false, false, false, false, false, false, false, false, false, false, false, false, false, false, false, false, false, false, false, false, false, false, false] rfl rfl (by kernel_rfl) (fun _ _ _ h => h) (Or.inl ⟨by rfl, ?_⟩) ?_ ?_
        rotate_left
        · intro w'
          go_simp
          with_reducible rfl
        rotate_left
        · simp only [Act.put, List.setIfInBounds_toArray, List.set_cons_zero, List.set_cons_succ, i64_w, i32_w]
          rfl
        refine take_ (i := 4) (N := some 123) (v := ?_) (a' := ?_) #[true, true, true, true, true, false, false, false, false, false, false, false, false, false, false, false, false, false, false, false, false, false, false, false, false, false, false, false] rfl rfl (by kernel_rfl) (fun _ _ _ h => h) (Or.inl ⟨by rfl, ?_⟩) hHeld ?_ ?_
        rotate_left
        · rintro w' ⟨s0, s1⟩
          go_simp
          with_reducible rfl
        rotate_left
        · simp only [Act.put, List.setIfInBounds_toArray, List.set_cons_zero, List.set_cons_succ, i64_w, i32_w]
          rfl
        refine one_ (i := 5) (N := some 124) #[true, true, true, true, true, true, false, false, false, false, false, false, false, false, false, false, false, false, false, false, false, false, false, false, false, false, false, false] rfl rfl (by kernel_rfl) (by decide) (fun K hK => ?_)
        refine goes_ Try.func20 (by kernel_rfl) rfl #[.slice Aa L.length ca, .slice Ar L.length cr] (by rfl) rfl rfl (by simp only [List.map_toArray, List.map_cons, List.map_nil]; rfl) ?_
        with_reducible refine (HSM.out).mono ?_
        rintro e u1 ⟨rfl, hb1⟩
        refine ⟨_, rfl, ?_⟩
        have s0 := pw_cell_below hb1 (show w10.drew.cell? _ = _ from q1)
        have s1 := pw_cell_below hb1 (show w10.drew.cell? _ = _ from q3)
        refine hK.out _ _ ⟨s0, s1⟩ (fun hHeld => ?_)
        clear hK K
        refine norm_ (a' := ?_) ?_ ?_
        rotate_left
        · show Act.put _ (some 124) _ = _
          simp only [Act.put, List.setIfInBounds_toArray, List.set_cons_zero, List.set_cons_succ, i64_w, i32_w]
          rfl
        refine pure_ (i := 6) (N := some 125) (v := ?_) (a' := ?_) #[true, true, true, true, true, true, true, false, false, false, false, false, false, false, false, false, false, false, false, false, false, false, false, false, false, false, false, false] rfl rfl (by kernel_rfl) (fun _ _ _ h => h) (Or.inl ⟨by rfl, ?_⟩) ?_ ?_
        rotate_left
        · intro w'
          go_simp
          with_reducible rfl
        rotate_left
        · simp only [Act.put, List.setIfInBounds_toArray, List.set_cons_zero, List.set_cons_succ, i64_w, i32_w]
          rfl
        refine pure_ (i := 7) (N := some 126) (v := ?_) (a' := ?_) #[true, true, true, true, true, true, true, true, false, false, false, false, false, false, false, false, false, false, false, false, false, false, false, false, false, false, false, false] rfl rfl (by kernel_rfl) (fun _ _ _ h => h) (Or.inl ⟨by rfl, ?_⟩) ?_ ?_
        rotate_left
        · intro w'
          go_simp
          with_reducible rfl
        rotate_left
        · simp only [Act.put, List.setIfInBounds_toArray, List.set_cons_zero, List.set_cons_succ, i64_w, i32_w]
          rfl
        refine pure_ (i := 8) (N := some 127) (v := ?_) (a' := ?_) #[true, true, true, true, true, true, true, true, true, false, false, false, false, false, false, false, false, false, false, false, false, false, false, false, false, false, false, false] rfl rfl (by kernel_rfl) (fun _ _ _ h => h) (Or.inl ⟨by rfl, ?_⟩) ?_ ?_
        rotate_left
        · intro w'
          go_simp
          with_reducible rfl
        rotate_left
        · simp only [Act.put, List.setIfInBounds_toArray, List.set_cons_zero, List.set_cons_succ, i64_w, i32_w]
          rfl
        refine pure_ (i := 10) (N := some 129) (v := ?_) (a' := ?_) #[true, true, true, true, true, true, true, true, true, false, true, false, false, false, false, false, false, false, false, false, false, false, false, false, false, false, false, false] rfl rfl (by kernel_rfl) (fun _ _ _ h => h) (Or.inl ⟨by rfl, ?_⟩) ?_ ?_
        rotate_left
        · intro w'
          go_simp
          with_reducible rfl
        rotate_left
        · simp only [Act.put, List.setIfInBounds_toArray, List.set_cons_zero, List.set_cons_succ, i64_w, i32_w]
          rfl
        refine pure_ (i := 11) (N := some 130) (v := ?_) (a' := ?_) #[true, true, true, true, true, true, true, true, true, false, true, true, false, false, false, false, false, false, false, false, false, false, false, false, false, false, false, false] rfl rfl (by kernel_rfl) (fun _ _ _ h => h) (Or.inl ⟨by rfl, ?_⟩) ?_ ?_
        rotate_left
        · intro w'
          go_simp
          with_reducible rfl
        rotate_left
        · simp only [Act.put, List.setIfInBounds_toArray, List.set_cons_zero, List.set_cons_succ, i64_w, i32_w]
          rfl
        refine pure_ (i := 12) (N := some 131) (v := ?_) (a' := ?_) #[true, true, true, true, true, true, true, true, true, false, true, true, true, false, false, false, false, false, false, false, false, false, false, false, false, false, false, false] rfl rfl (by kernel_rfl) (fun _ _ _ h => h) (Or.inl ⟨by rfl, ?_⟩) ?_ ?_
        rotate_left
        · intro w'
          go_simp
          with_reducible rfl
        rotate_left
        · simp only [Act.put, List.setIfInBounds_toArray, List.set_cons_zero, List.set_cons_succ, i64_w, i32_w]
          rfl
        refine take_ (i := 13) (N := some 132) (v := ?_) (a' := ?_) #[true, true, true, true, true, true, true, true, true, false, true, true, true, true, false, false, false, false, false, false, false, false, false, false, false, false, false, false] rfl rfl (by kernel_rfl) (fun _ _ _ h => h) (Or.inl ⟨by rfl, ?_⟩) hHeld ?_ ?_
        rotate_left
        · rintro w' ⟨s0, s1⟩
          go_simp
          with_reducible rfl
        rotate_left
        · simp only [Act.put, List.setIfInBounds_toArray, List.set_cons_zero, List.set_cons_succ, i64_w, i32_w]
          rfl
        refine pure_ (i := 14) (N := some 133) (v := ?_) (a' := ?_) #[true, true, true, true, true, true, true, true, true, false, true, true, true, true, true, false, false, false, false, false, false, false, false, false, false, false, false, false] rfl rfl (by kernel_rfl) (fun _ _ _ h => h) (Or.inl ⟨by rfl, ?_⟩) ?_ ?_
        rotate_left
        · intro w'
          go_simp
          with_reducible rfl
        rotate_left
        · simp only [Act.put, List.setIfInBounds_toArray, List.set_cons_zero, List.set_cons_succ, i64_w, i32_w]
          rfl
        refine one_ (i := 9) (N := some 128) #[true, true, true, true, true, true, true, true, true, true, true, true, true, true, true, false, false, false, false, false, false, false, false, false, false, false, false, false] rfl rfl (by kernel_rfl) (by decide) (fun K hK => ?_)
        refine goes_ Try.func13 (by kernel_rfl) rfl #[ptr p] (by rfl) rfl rfl (by simp only [List.map_toArray, List.map_cons, List.map_nil]; rfl) ?_
        with_reducible refine (HLN.out u1 (HA10.out.drew.below hb1)).mono ?_
        rintro e u2 ⟨rfl, hb2⟩
        refine ⟨_, rfl, ?_⟩
        have t0 := pw_cell_below hb2 s0
        have t1 := pw_cell_below hb2 s1
        refine hK.out _ _ ⟨t0, t1⟩ (fun hHeld => ?_)
        clear hK K
        refine norm_ (a' := ?_) ?_ ?_
        rotate_left
        · show Act.put _ (some 128) _ = _
          simp only [Act.put, List.setIfInBounds_toArray, List.set_cons_zero, List.set_cons_succ, i64_w, i32_w]
          rfl
        refine pure_ (i := 15) (N := some 134) (v := ?_) (a' := ?_) #[true, true, true, true, true, true, true, true, true, true, true, true, true, true, true, true, false, false, false, false, false, false, false, false, false, false, false, false] rfl rfl (by kernel_rfl) (fun _ _ _ h => h) (Or.inl ⟨by rfl, ?_⟩) ?_ ?_
        rotate_left
        · intro w'
          go_simp
          with_reducible rfl
        rotate_left
        · simp only [Act.put, List.setIfInBounds_toArray, List.set_cons_zero, List.set_cons_succ, i64_w, i32_w]
          rfl
        refine pure_ (i := 16) (N := some 135) (v := ?_) (a' := ?_) #[true, true, true, true, true, true, true, true, true, true, true, true, true, true, true, true, true, false, false, false, false, false, false, false, false, false, false, false] rfl rfl (by kernel_rfl) (fun _ _ _ h => h) (Or.inl ⟨by rfl, ?_⟩) ?_ ?_
        rotate_left
        · intro w'
          go_simp
          with_reducible rfl
        rotate_left
        · simp only [Act.put, List.setIfInBounds_toArray, List.set_cons_zero, List.set_cons_succ, i64_w, i32_w]
          rfl
        refine pure_ (i := 17) (N := some 136) (v := ?_) (a' := ?_) #[true, true, true, true, true, true, true, true, true, true, true, true, true, true, true, true, true, true, false, false, false, false, false, false, false, false, false, false] rfl rfl (by kernel_rfl) (fun _ _ _ h => h) (Or.inl ⟨by rfl, ?_⟩) ?_ ?_
        rotate_left
        · intro w'
          go_simp
          with_reducible rfl
        rotate_left
        · simp only [Act.put, List.setIfInBounds_toArray, List.set_cons_zero, List.set_cons_succ, i64_w, i32_w]
          rfl
        refine pure_ (i := 18) (N := some 137) (v := ?_) (a' := ?_) #[true, true, true, true, true, true, true, true, true, true, true, true, true, true, true, true, true, true, true, false, false, false, false, false, false, false, false, false] rfl rfl (by kernel_rfl) (fun _ _ _ h => h) (Or.inl ⟨by rfl, ?_⟩) ?_ ?_
        rotate_left
        · intro w'
          go_simp
          with_reducible rfl
        rotate_left
        · simp only [Act.put, List.setIfInBounds_toArray, List.set_cons_zero, List.set_cons_succ, i64_w, i32_w]
          rfl
        refine pure_ (i := 19) (N := some 138) (v := ?_) (a' := ?_) #[true, true, true, true, true, true, true, true, true, true, true, true, true, true, true, true, true, true, true, true, false, false, false, false, false, false, false, false] rfl rfl (by kernel_rfl) (fun _ _ _ h => h) (Or.inl ⟨by rfl, ?_⟩) ?_ ?_
        rotate_left
        · intro w'
          go_simp
          with_reducible rfl
        rotate_left
        · simp only [Act.put, List.setIfInBounds_toArray, List.set_cons_zero, List.set_cons_succ, i64_w, i32_w]
          rfl
        refine pure_ (i := 22) (N := some 141) (v := ?_) (a' := ?_) #[true, true, true, true, true, true, true, true, true, true, true, true, true, true, true, true, true, true, true, true, false, false, true, false, false, false, false, false] rfl rfl (by kernel_rfl) (fun _ _ _ h => h) (Or.inl ⟨by rfl, ?_⟩) ?_ ?_
        rotate_left
        · intro w'
          go_simp
          with_reducible rfl
        rotate_left
        · simp only [Act.put, List.setIfInBounds_toArray, List.set_cons_zero, List.set_cons_succ, i64_w, i32_w]
          rfl
        refine pure_ (i := 23) (N := some 142) (v := ?_) (a' := ?_) #[true, true, true, true, true, true, true, true, true, true, true, true, true, true, true, true, true, true, true, true, false, false, true, true, false, false, false, false] rfl rfl (by kernel_rfl) (fun _ _ _ h => h) (Or.inl ⟨by rfl, ?_⟩) ?_ ?_
        rotate_left
        · intro w'
          go_simp
          with_reducible rfl
        rotate_left
        · simp only [Act.put, List.setIfInBounds_toArray, List.set_cons_zero, List.set_cons_succ, i64_w, i32_w]
          rfl
        refine take_ (i := 20) (N := some 139) (v := ?_) (a' := ?_) #[true, true, true, true, true, true, true, true, true, true, true, true, true, true, true, true, true, true, true, true, true, false, true, true, false, false, false, false] rfl rfl (by kernel_rfl) (fun _ _ _ h => h) (Or.inl ⟨by rfl, ?_⟩) hHeld ?_ ?_
        rotate_left
        · rintro w' ⟨s0, s1⟩
          go_simp
          with_reducible rfl
        rotate_left
        · simp only [Act.put, List.setIfInBounds_toArray, List.set_cons_zero, List.set_cons_succ, i64_w, i32_w]
          rfl
        refine take_ (i := 24) (N := some 143) (v := ?_) (a' := ?_) #[true, true, true, true, true, true, true, true, true, true, true, true, true, true, true, true, true, true, true, true, true, false, true, true, true, false, false, false] rfl rfl (by kernel_rfl) (fun _ _ _ h => h) (Or.inl ⟨by rfl, ?_⟩) hHeld ?_ ?_
        rotate_left
        · rintro w' ⟨s0, s1⟩
          go_simp
          with_reducible rfl
        rotate_left
        · simp only [Act.put, List.setIfInBounds_toArray, List.set_cons_zero, List.set_cons_succ, i64_w, i32_w]
          rfl
        refine one_ (i := 21) (N := some 140) #[true, true, true, true, true, true, true, true, true, true, true, true, true, true, true, true, true, true, true, true, true, true, true, true, true, false, false, false] rfl rfl (by kernel_rfl) (by decide) (fun K hK => ?_)
        refine goes_ Try.func10 (by kernel_rfl) rfl #[ptr p, .int .i64 wk] (by rfl) rfl rfl (by simp only [List.map_toArray, List.map_cons, List.map_nil]; rfl) ?_
        with_reducible refine (HCT.out u2 ((HA10.out.drew.below hb1).below hb2)).mono ?_
        rintro e u3 ⟨rfl, rfl⟩
        refine ⟨_, rfl, ?_⟩
        refine hK.out _ _ ⟨t0, t1⟩ (fun hHeld => ?_)
        clear hK K
        refine norm_ (a' := ?_) ?_ ?_
        rotate_left
        · show Act.put _ (some 140) _ = _
          simp only [Act.put, List.setIfInBounds_toArray, List.set_cons_zero, List.set_cons_succ, i64_w, i32_w]
          rfl
        refine one_ (i := 25) (N := some 144) #[true, true, true, true, true, true, true, true, true, true, true, true, true, true, true, true, true, true, true, true, true, true, true, true, true, true, false, false] rfl rfl (by kernel_rfl) (by decide) (fun K hK => ?_)
        refine goes_ Try.func21 (by kernel_rfl) rfl #[ptr g, .int .i64 wk] (by rfl) rfl rfl (by simp only [List.map_toArray, List.map_cons, List.map_nil]; rfl) ?_
        with_reducible refine (HRT.out u2 _ _ ((HA10.out.drew.below hb1).below hb2)).mono ?_
        rintro e u3 ⟨rfl, rfl⟩
        refine ⟨_, rfl, ?_⟩
        refine hK.out _ _ ⟨t0, t1⟩ (fun hHeld => ?_)
        clear hK K
        refine norm_ (a' := ?_) ?_ ?_
        rotate_left
        · show Act.put _ (some 144) _ = _
          simp only [Act.put, List.setIfInBounds_toArray, List.set_cons_zero, List.set_cons_succ, i64_w, i32_w]
          rfl
        refine pure_ (i := 26) (N := some 145) (v := ?_) (a' := ?_) #[true, true, true, true, true, true, true, true, true, true, true, true, true, true, true, true, true, true, true, true, true, true, true, true, true, true, true, false] rfl rfl (by kernel_rfl) (fun _ _ _ h => h) (Or.inl ⟨by rfl, ?_⟩) ?_ ?_
        rotate_left
        · intro w'
          go_simp
          with_reducible rfl
        rotate_left
        · simp only [Act.put, List.setIfInBounds_toArray, List.set_cons_zero, List.set_cons_succ, i64_w, i32_w]
          rfl
        refine pure_ (i := 27) (N := some 146) (v := ?_) (a' := ?_) #[true, true, true, true, true, true, true, true, true, true, true, true, true, true, true, true, true, true, true, true, true, true, true, true, true, true, true, true] rfl rfl (by kernel_rfl) (fun _ _ _ h => h) (Or.inl ⟨by rfl, ?_⟩) ?_ ?_
        rotate_left
        · intro w'
          go_simp
          with_reducible rfl
        rotate_left
        · simp only [Act.put, List.setIfInBounds_toArray, List.set_cons_zero, List.set_cons_succ, i64_w, i32_w]
          rfl
        refine done_ (by kernel_rfl) ?_

        have HA11 := Aside0.mk ((HA10.out.drew.below hb1).below hb2)
        have HB11 := Aside0.mk ((HB10.out.trans (below_drew (Below.refl _ _))).trans ((hb1.mono HA10.out.drew.size).trans (hb2.mono (HA10.out.drew.below hb1).size)))
        clear hb1 hb2 HA10 HB10 s0 s1 t0 t1 q1 q3 HSM HLN HCT HRT
        go_wp2_with fail
        have HR11 : Aside0 (∃ m : List S31, m.length = L.length ∧ Has W.heap.size u2 (workL p v ps hs2 ++ (refL g (.slice Ar L.length cr) n L ++ [rowK (.slice Aa L.length ca) m, actT b1 kd r t wk]))) := ⟨⟨L, rfl, HA11.out⟩⟩
        clear HA11
        go_loopw [18] (fun i wr => ∃ q : Nat, i = .int .i64 q ∧ q ≤ L.length ∧ Aside0 (∃ m : List S31, m.length = L.length ∧ Has W.heap.size wr (workL p v ps hs2 ++ (refL g (.slice Ar L.length cr) n L ++ [rowK (.slice Aa L.length ca) m, actT b1 kd r t wk]))) ∧ Aside0 (Below W.heap.size W wr)) (fun i _ => L.length - (intOf i).toNat)
        case atStart => exact ⟨0, rfl, by omega, HR11, HB11⟩
        case round =>
          clear HR11 HB11
          obtain ⟨q, rfl, hq, HR, HB⟩ := hrel
          by_cases hqt : q < L.length
          · obtain ⟨m, hml, hA⟩ := HR.out
            obtain ⟨gA, cA, eA, -⟩ := row_addr (take_out hA) (v := .slice Aa L.length ca) (l := m) (by simp) (by omega)
            injection eA with eA1 eA2 eA3
            subst eA1
            clear eA2 eA3
            obtain ⟨⟨m', hm', hA'⟩, hB', f0, f1, c0, c1⟩ := row_store (take_out hA) q (by omega) ⟨0, -1⟩
            have d4 : decide ((q : Int) < (L.length : Int)) = true := decide_eq_true (by omega)
            have d5 : (q : Int) < (L.length : Int) := by omega
            have d6 : decide (0 ≤ (q : Int)) = true := decide_eq_true (by omega)
            have HR2 : Aside0 (∃ m : List S31, m.length = L.length ∧ Has W.heap.size ((wr.setCell ⟨gA, q * 2, none⟩ (.int .u32 0)).setCell ⟨gA, q * 2 + 1, none⟩ (.int .i64 (-1))) (workL p v ps hs2 ++ (refL g (.slice Ar L.length cr) n L ++ [rowK (.slice (some ⟨gA, 0, none⟩) L.length ca) m, actT b1 kd r t wk]))) := ⟨⟨m', hm'.trans hml, put_in hA'⟩⟩
            have HB2 := Aside0.mk (HB.out.trans hB')
            generalize (rd_T31 m (q : Int)).f0 = o0 at c0
            generalize (rd_T31 m (q : Int)).f1 = o1 at c1
            clear hA hA' hB' HR hm' hml
            go_wp2_with fail
            go_roundw
            case rel => exact ⟨q + 1, rfl, by omega, HR2, HB2⟩
            case measure => simp [intOf]; omega
          · have d4 : decide ((q : Int) < (L.length : Int)) = false := decide_eq_false (by omega)
            have HA13 : Aside0 (Has W.heap.size wr (workL p v ps hs2 ++ (refL g (.slice Ar L.length cr) n (sortL hs2.flatten) ++ []))) := ⟨by
              obtain ⟨m, -, hA⟩ := HR.out
              rw [HLQ.out]
              exact (take_out (take_out hA).tail).tail⟩
            clear HR
            go_wp2_with fail
            go_roundw
            case rel => exact ⟨k + 1, hs2, _, rfl, by omega, HI2, HA13, HB⟩
            case measure => simp [intOf]; omega
    · skip
      have d1 : decide ((k : Int) < (l1.length : Int)) = false := decide_eq_false (by omega)
      go_wp2_with fail
      refine (awake_calls _).mono ?_
      rintro e w9 ⟨rfl, hb⟩
      go_wp2_with fail
      go_ret
      exact ⟨rfl, HB.out.trans (hb.mono HA.out.size)⟩
end Go.Proofs.Ytpnoghnhlddjeaa.Wk
