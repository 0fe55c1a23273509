/- The heap's row of tasks behind a pointer: how a task goes ahead, and back, walked. No law is proved here. -/
import Derived.Test.YtpnoghnhlddjeaaHeapA
import Derived.Test.YtpnoghnhlddjeaaHeapK
import Derived.StillTailTactics
import Derived.IntWalk
namespace Go.Proofs.Ytpnoghnhlddjeaa.Hp
open Go.RowKit Go.Proofs.YtpnoghnhlddjeaaW.PrintWords Go.Proofs.Ytpnoghnhlddjeaa.Q Go.Proofs.Ytpnoghnhlddjeaa.Own
set_option linter.unusedVariables false
set_option linter.unusedSimpArgs false
attribute [local go_sem ↓] Go.wp_at_zero Go.wp_at_succ

/-- What cmp says of two tasks. -/
def ordT (a b : S31) : Int := if a.f1 < b.f1 then -1 else if a.f1 > b.f1 then 1 else if a.f0 < b.f0 then -1 else if a.f0 > b.f0 then 1 else 0
theorem order_f (a b : S31) : heap_order.f 10 a.f0 a.f1 b.f0 b.f1 = some (ordT a b) := by
  unfold heap_order.f cmp_Compare_int.f cmp_Compare_uint32.f cmp_isNaN_int.f cmp_isNaN_uint32.f ordT
  simp only [bne_self_eq_false, Option.bind_some]
  by_cases h1 : a.f1 < b.f1
  · by_cases h2 : a.f0 < b.f0 <;> by_cases h3 : a.f0 > b.f0 <;> simp [h1, h2, h3, cmp_Or_int.f, cmp_Or_int.l0, rd]
  · by_cases h4 : a.f1 > b.f1
    · by_cases h2 : a.f0 < b.f0 <;> by_cases h3 : a.f0 > b.f0 <;> simp [h1, h2, h3, h4, cmp_Or_int.f, cmp_Or_int.l0, rd]
    · by_cases h2 : a.f0 < b.f0
      · simp [h1, h2, h4, cmp_Or_int.f, cmp_Or_int.l0, rd, wrap64]
      · by_cases h3 : a.f0 > b.f0 <;> simp [h1, h2, h3, h4, cmp_Or_int.f, cmp_Or_int.l0, rd, wrap64]
theorem order_calls (a b : S31) (w : World) : Calls Try.prog 48 #[.agg #[.int .u32 a.f0, .int .i64 a.f1], .agg #[.int .u32 b.f0, .int .i64 b.f1]] w fun e w' => e = .returned (.int .i64 (ordT a b)) ∧ Below w.heap.size w w' :=
  heap_order.calls 10 _ _ _ _ _ w (order_f a b)
def keyT (x : S31) : Int := x.f1 * 4294967296 + x.f0
def keyL (l : List S31) (j : Nat) : Int := keyT (rd_T31 l j)
def GoodT (x : S31) : Prop := 0 ≤ x.f0 ∧ x.f0 ≤ 4294967295
theorem ordT_neg {x y : S31} (hx : GoodT x) (hy : GoodT y) : ordT x y < 0 ↔ keyT x < keyT y := by
  obtain ⟨a, b⟩ := hx
  obtain ⟨c, d⟩ := hy
  unfold ordT keyT
  split
  · omega
  · split
    · omega
    · split
      · omega
      · split <;> omega
theorem rd_set (l : List S31) (i : Nat) (hi : i < l.length) (x : S31) (j : Nat) : rd_T31 (l.set i x) j = if j = i then x else rd_T31 l j := by
  unfold rd_T31
  rw [Int.toNat_natCast, List.getD_eq_getElem?_getD, List.getD_eq_getElem?_getD, List.getElem?_set]
  by_cases e : i = j
  · subst e
    rw [if_pos rfl, if_pos hi, if_pos rfl]
    rfl
  · rw [if_neg e, if_neg (fun q => e q.symm)]
theorem rd_mem {l : List S31} {i : Nat} (hi : i < l.length) : rd_T31 l i ∈ l := by
  unfold rd_T31
  rw [Int.toNat_natCast, List.getD_eq_getElem?_getD, List.getElem?_eq_getElem hi]
  exact List.getElem_mem hi
theorem swapL_nat (l : List S31) (i k : Nat) : swapL l i k = (l.set i (rd_T31 l k)).set k (rd_T31 l i) := rfl
theorem keyL_swap (l : List S31) {i k : Nat} (hi : i < l.length) (hk : k < l.length) : keyL (swapL l i k) = HpK.swapK (keyL l) i k := by
  funext j
  unfold keyL HpK.swapK
  rw [swapL_nat, rd_set _ k (by rw [List.length_set]; exact hk), rd_set _ i hi]
  by_cases e : j = k
  · rw [if_pos e, if_pos e]
  · rw [if_neg e, if_neg e]
    split <;> rfl
theorem rd_nat (l : List S31) {i : Nat} (hi : i < l.length) : rd_T31 l i = l[i] := by
  unfold rd_T31
  rw [Int.toNat_natCast, List.getD_eq_getElem?_getD, List.getElem?_eq_getElem hi]
  rfl
theorem swapL_perm (l : List S31) {i k : Nat} (hi : i < l.length) (hk : k < l.length) : (swapL l i k).Perm l := by
  rw [swapL_nat, rd_nat l hi, rd_nat l hk]
  exact List.set_set_perm hi hk
theorem below_then' {B : Nat} {w w1 w2 : World} (h : Below B w w1) (k : Below B w1 w2) : Below B w w2 := h.trans k
def UpRel (B : Nat) (w : World) (Ts : List Th) (p : Nat) (l : List S31) (i0 : Nat) (c : Nat) (l' : List S31) (w' : World) : Prop :=
  Has B w' (rowH p l' :: Ts) ∧ Below B w w' ∧ l'.Perm l ∧ (HpK.UpK (keyL l) l.length i0 i0 → HpK.UpK (keyL l') l.length i0 c)
def UpPost (B : Nat) (w : World) (Ts : List Th) (p : Nat) (l : List S31) (i0 : Nat) (e : Ending) (w' : World) : Prop :=
  ∃ l', e = .returned (.tuple #[]) ∧ Has B w' (rowH p l' :: Ts) ∧ Below B w w' ∧ l'.Perm l ∧ (HpK.UpK (keyL l) l.length i0 i0 → HpK.DownK (keyL l') l.length i0)
set_option maxHeartbeats 4000000 in
set_option maxRecDepth 100000 in
theorem up_calls {B : Nat} {w : World} {Ts : List Th} {p : Nat} {l : List S31} (h : Has B w (rowH p l :: Ts)) (i : Nat) (hi : i < l.length) (hg : ∀ x ∈ l, GoodT x) :
    Calls Try.prog 45 #[ptr p, .int .i64 i] w (UpPost B w Ts p l i) := by
  have H0 : Aside0 (UpRel B w Ts p l i i l w) := ⟨h, Below.refl _ _, List.Perm.refl _, fun q => q⟩
  have HG := Aside0.mk hg
  clear h hg
  have hu29 := Try.underlying31
  go_enter Try.func45, Try.ntmps45
  go_wp2
  go_loopw [1] (fun c wr => ∃ (cn : Int) (l' : List S31), c = .int .i64 cn ∧ 0 ≤ cn ∧ cn < l.length ∧ Aside0 (UpRel B w Ts p l i cn.toNat l' wr)) (fun c _ => (intOf c).toNat)
  case atStart => exact ⟨i, l, rfl, by omega, by omega, H0⟩
  case round =>
    clear H0
    obtain ⟨cn, l', rfl, hc0, hc, HR⟩ := hrel
    by_cases h0 : cn = 0
    · subst h0
      go_wp2_with fail
      go_quiet (fail)
      go_wp2
      go_end0
      obtain ⟨r1, r2, r3, r4⟩ := HR.out
      exact ⟨l', rfl, r1.drewN _, pw_below_drewN r2 _, r3, fun q => HpK.up_stop (r4 q) hi (.inl rfl)⟩
    · have h1 : 1 ≤ cn := by omega
      obtain ⟨r1, r2, r3, r4⟩ := HR.out
      have hlen : l'.length = l.length := r3.length_eq
      obtain ⟨F, ⟨hF, v, hb, hr⟩, hFb, put⟩ := r1.head
      obtain ⟨g, c, rfl, hcc⟩ := row_pos hr (by omega)
      have c0 : wr.cell? ⟨p, 0, none⟩ = some (.slice (some ⟨g, 0, none⟩) l'.length c) := by rw [blk_cell hb]; rfl
      obtain ⟨_, _, hC⟩ := Kd.R_reads' hr
      have hmax : l'.length ≤ 9223372036854775807 := hC.2.1
      obtain ⟨ad, e0, hi2, hi3⟩ := at_T31 hC cn hc0 (by omega)
      cases e0
      obtain ⟨ad, e0, hk2, hk3⟩ := at_T31 hC ((cn - 1) / 2) (by omega) (by omega)
      cases e0
      rw [add_plain] at hi2 hi3 hk2 hk3
      dsimp only at hi3 hk3
      have b1 : cn < (l'.length : Int) := by omega
      have b2 : 0 ≤ (cn - 1) / 2 := by omega
      have b3 : (cn - 1) / 2 < (l'.length : Int) := by omega
      have e1 : IntKind.i64.wrap (cn - 1) = cn - 1 := IntWalk.i64_in _ (by omega)
      have e2 : IntKind.i64.wrap ((cn - 1).tdiv 2) = (cn - 1) / 2 := by rw [Int.tdiv_eq_ediv_of_nonneg (by omega)]; exact IntWalk.i64_in _ (by omega)
      have d0 : decide (0 < cn) = true := decide_eq_true (by omega)
      have d1 : decide (0 ≤ cn) = true := decide_eq_true hc0
      have d2 : decide (cn < (l'.length : Int)) = true := decide_eq_true (by omega)
      have d3 : decide (0 ≤ (cn - 1) / 2) = true := decide_eq_true (by omega)
      have d4 : decide ((cn - 1) / 2 < (l'.length : Int)) = true := decide_eq_true (by omega)
      obtain ⟨x, hx⟩ : ∃ x, x = rd_T31 l' cn := ⟨_, rfl⟩
      obtain ⟨y, hy⟩ : ∃ y, y = rd_T31 l' ((cn - 1) / 2) := ⟨_, rfl⟩
      rw [← hx] at hi2 hi3
      rw [← hy] at hk2 hk3
      obtain ⟨o, ho⟩ : ∃ o, o = ordT x y := ⟨_, rfl⟩
      have hcall := order_calls x y
      rw [← ho] at hcall
      have HX := Aside0.mk hx
      have HY := Aside0.mk hy
      have HO := Aside0.mk ho
      have HL := Aside0.mk hlen
      have HC := Aside0.mk hcall
      have G1 : GoodT x := by rw [hx, show cn = ((cn.toNat : Nat) : Int) by omega]; exact HG.out _ (r3.subset (rd_mem (by omega)))
      have G2 : GoodT y := by rw [hy, show (cn - 1) / 2 = ((((cn - 1) / 2).toNat : Nat) : Int) by omega]; exact HG.out _ (r3.subset (rd_mem (by omega)))
      have HK := Aside0.mk (ordT_neg G1 G2)
      have K1 : keyL l' cn.toNat = keyT x := by unfold keyL; rw [hx, show ((cn.toNat : Nat) : Int) = cn by omega]
      have K2 : keyL l' ((cn.toNat - 1) / 2) = keyT y := by unfold keyL; rw [hy, show (((cn.toNat - 1) / 2 : Nat) : Int) = (cn - 1) / 2 by omega]
      have HK1 := Aside0.mk K1
      have HK2 := Aside0.mk K2
      clear put hr hb hC hFb hx hy ho hlen hcall r1 r2 r3 r4 hF G1 G2 K1 K2
      by_cases ht : o < 0
      · have d5 : decide (o < 0) = true := decide_eq_true ht
        go_wp2_with fail
        go_region_held3 (fun w' => w'.cell? ⟨p, 0, none⟩ = some (.slice (some ⟨g, 0, none⟩) l'.length c) ∧ w'.cell? ⟨g, cn.toNat * 2, none⟩ = some (.int .u32 x.f0) ∧ w'.cell? ⟨g, cn.toNat * 2 + 1, none⟩ = some (.int .i64 x.f1) ∧ w'.cell? ⟨g, ((cn - 1) / 2).toNat * 2, none⟩ = some (.int .u32 y.f0) ∧ w'.cell? ⟨g, ((cn - 1) / 2).toNat * 2 + 1, none⟩ = some (.int .i64 y.f1)) (first | exact ⟨c0, hi2, hi3, hk2, hk3⟩ | exact ⟨(by assumption), (by assumption), (by assumption), (by assumption), (by assumption)⟩) (first | (go_at_call 48; refine (HC.out _).mono ?_; rintro e w1 ⟨rfl, hb1⟩; have q0 := pw_cell_below hb1 (show wr.drew.cell? _ = _ from c0); have q1 := pw_cell_below hb1 (show wr.drew.cell? _ = _ from hi2); have q2 := pw_cell_below hb1 (show wr.drew.cell? _ = _ from hi3); have q3 := pw_cell_below hb1 (show wr.drew.cell? _ = _ from hk2); have q4 := pw_cell_below hb1 (show wr.drew.cell? _ = _ from hk3)))
        go_wp2_with fail
        have R1 := HR.out
        have hlt : keyL l' cn.toNat < keyL l' ((cn.toNat - 1) / 2) := by rw [HK1.out, HK2.out]; exact HK.out.1 (by rw [← HO.out]; exact ht)
        have hA := (R1.1.drew).below hb1
        refine (swap_calls hA cn ((cn - 1) / 2) hc0 b1 b2 b3 (by omega)).mono ?_
        rintro e w2 ⟨rfl, hA2, hB2⟩
        have HA2 : Aside0 (UpRel B w Ts p l i ((cn - 1) / 2).toNat (swapL l' cn ((cn - 1) / 2)) w2) := by
          have n1 : cn = ((cn.toNat : Nat) : Int) := by omega
          have n2 : (cn - 1) / 2 = (((cn.toNat - 1) / 2 : Nat) : Int) := by omega
          have hl := R1.2.2.1.length_eq
          have e1 : swapL l' cn ((cn - 1) / 2) = swapL l' ((cn.toNat : Nat) : Int) (((cn.toNat - 1) / 2 : Nat) : Int) := by rw [← n1, ← n2]
          refine ⟨⟨hA2, (R1.2.1.trans (below_of R1.1.size (by exact ⟨hb1.os, hb1.tape, hb1.output, hb1.size, hb1.block⟩))).trans hB2, ?_, fun q => ?_⟩⟩
          · rw [e1]
            exact (swapL_perm l' (by omega) (by omega)).trans R1.2.2.1
          · rw [e1, n2, Int.toNat_natCast, keyL_swap l' (by omega) (by omega)]
            exact HpK.up_step (R1.2.2.2 q) hi (by omega) hlt
        clear hA hA2 hB2 R1 hlt hb1 c0 hi2 hi3 hk2 hk3
        go_wp2
        go_roundw
        case rel => exact ⟨(cn - 1) / 2, _, rfl, b2, by omega, HA2⟩
        case measure => simp [intOf]; omega
      · have d5 : decide (o < 0) = false := decide_eq_false ht
        go_wp2_with fail
        go_region_held3 (fun w' => w'.cell? ⟨p, 0, none⟩ = some (.slice (some ⟨g, 0, none⟩) l'.length c) ∧ w'.cell? ⟨g, cn.toNat * 2, none⟩ = some (.int .u32 x.f0) ∧ w'.cell? ⟨g, cn.toNat * 2 + 1, none⟩ = some (.int .i64 x.f1) ∧ w'.cell? ⟨g, ((cn - 1) / 2).toNat * 2, none⟩ = some (.int .u32 y.f0) ∧ w'.cell? ⟨g, ((cn - 1) / 2).toNat * 2 + 1, none⟩ = some (.int .i64 y.f1)) (first | exact ⟨c0, hi2, hi3, hk2, hk3⟩ | exact ⟨(by assumption), (by assumption), (by assumption), (by assumption), (by assumption)⟩) (first | (go_at_call 48; refine (HC.out _).mono ?_; rintro e w1 ⟨rfl, hb1⟩; have q0 := pw_cell_below hb1 (show wr.drew.cell? _ = _ from c0); have q1 := pw_cell_below hb1 (show wr.drew.cell? _ = _ from hi2); have q2 := pw_cell_below hb1 (show wr.drew.cell? _ = _ from hi3); have q3 := pw_cell_below hb1 (show wr.drew.cell? _ = _ from hk2); have q4 := pw_cell_below hb1 (show wr.drew.cell? _ = _ from hk3)))
        go_wp2
        go_end0
        have R1 := HR.out
        exact ⟨l', rfl, (R1.1.drew).below hb1, R1.2.1.trans (below_of R1.1.size ⟨hb1.os, hb1.tape, hb1.output, hb1.size, hb1.block⟩), R1.2.2.1, fun q => HpK.up_stop (R1.2.2.2 q) hi (.inr (by rw [HK1.out, HK2.out]; have := mt HK.out.2 (by rw [← HO.out]; omega); omega))⟩
end Go.Proofs.Ytpnoghnhlddjeaa.Hp
