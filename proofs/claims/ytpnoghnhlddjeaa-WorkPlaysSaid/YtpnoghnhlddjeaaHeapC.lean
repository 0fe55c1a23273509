/- The heap's row of tasks behind a pointer: how a task goes back, walked. No law is proved here. -/
import Derived.Test.YtpnoghnhlddjeaaHeapB
namespace Go.Proofs.Ytpnoghnhlddjeaa.Hp
open Go.RowKit Go.Proofs.YtpnoghnhlddjeaaW.PrintWords Go.Proofs.Ytpnoghnhlddjeaa.Q Go.Proofs.Ytpnoghnhlddjeaa.Own
set_option linter.unusedVariables false
set_option linter.unusedSimpArgs false
attribute [local go_sem ↓] Go.wp_at_zero Go.wp_at_succ

def DownRel (B : Nat) (w : World) (Ts : List Th) (p : Nat) (l : List S31) (i0 : Nat) (c : Nat) (l' : List S31) (w' : World) : Prop :=
  Has B w' (rowH p l' :: Ts) ∧ Below B w w' ∧ l'.Perm l ∧ (HpK.DownK (keyL l) l.length i0 → HpK.DownK (keyL l') l.length c)
def LeastRel (n : Nat) (l' : List S31) (c m k : Nat) : Prop :=
  keyL l' m ≤ keyL l' c ∧ (m = c ∨ ((m - 1) / 2 = c ∧ 0 < m ∧ m < n ∧ keyL l' m < keyL l' c)) ∧ ∀ j, 0 < j → j < n → (j - 1) / 2 = c → j < k → keyL l' m ≤ keyL l' j
def DownPost (B : Nat) (w : World) (Ts : List Th) (p : Nat) (l : List S31) (i0 : Nat) (e : Ending) (w' : World) : Prop :=
  ∃ l', e = .returned (.tuple #[]) ∧ Has B w' (rowH p l' :: Ts) ∧ Below B w w' ∧ l'.Perm l ∧ (HpK.DownK (keyL l) l.length i0 → HpK.HeapK (keyL l') l.length)
theorem least_start (n : Nat) (l' : List S31) (c : Nat) : LeastRel n l' c c (2 * c + 1) := ⟨Int.le_refl _, .inl rfl, fun j h0 h1 h2 h3 => by omega⟩
theorem least_turn {n : Nat} {l' : List S31} {c m k : Nat} (h : LeastRel n l' c m k) (h0 : 0 < k) (hk : k < n) (hp : (k - 1) / 2 = c) (hlt : keyL l' k < keyL l' m) : LeastRel n l' c k (k + 1) :=
  ⟨by have := h.1; omega, .inr ⟨hp, h0, hk, by have := h.1; omega⟩, fun j a b d e => by
    by_cases q : j = k
    · subst q; exact Int.le_refl _
    · have := h.2.2 j a b d (by omega); omega⟩
theorem least_stay {n : Nat} {l' : List S31} {c m k : Nat} (h : LeastRel n l' c m k) (hle : keyL l' m ≤ keyL l' k) : LeastRel n l' c m (k + 1) :=
  ⟨h.1, h.2.1, fun j a b d e => by
    by_cases q : j = k
    · subst q; exact hle
    · exact h.2.2 j a b d (by omega)⟩
set_option maxHeartbeats 8000000 in
set_option maxRecDepth 100000 in
theorem down_calls {B : Nat} {w : World} {Ts : List Th} {p : Nat} {l : List S31} (h : Has B w (rowH p l :: Ts)) (i : Nat) (hi : i < l.length) (hg : ∀ x ∈ l, GoodT x) (hn : l.length ≤ 1000000) :
    Calls Try.prog 71 #[ptr p, .int .i64 i] w (DownPost B w Ts p l i) := by
  have H0 : Aside0 (DownRel B w Ts p l i i l w) := ⟨h, Below.refl _ _, List.Perm.refl _, fun q => q⟩
  have HG := Aside0.mk hg
  clear h hg
  have hu29 := Try.underlying31
  go_enter Try.func71, Try.ntmps71
  go_wp2
  go_loopw [1] (fun c wr => ∃ (cn : Int) (l' : List S31), c = .int .i64 cn ∧ 0 ≤ cn ∧ cn < l.length ∧ Aside0 (DownRel B w Ts p l i cn.toNat l' wr)) (fun c _ => l.length - (intOf c).toNat)
  case atStart => exact ⟨i, l, rfl, by omega, by omega, H0⟩
  case round =>
    clear H0
    obtain ⟨cn, l', rfl, hc0, hc, HR⟩ := hrel
    have HLEN := Aside0.mk HR.out.2.2.1.length_eq
    have HD := Aside0.mk HR.out.2.2
    have HA0 := Aside0.mk (And.intro HR.out.1 HR.out.2.1)
    clear HR
    go_wp2
    go_loopw [4, 5] (fun m k wr2 => ∃ (mn kn : Int), m = .int .i64 mn ∧ k = .int .i64 kn ∧ 0 ≤ mn ∧ mn < l.length ∧ 2 * cn + 1 ≤ kn ∧ kn ≤ 2 * cn + 3 ∧ Aside0 (Has B wr2 (rowH p l' :: Ts) ∧ Below B w wr2) ∧ Aside0 (LeastRel l.length l' cn.toNat mn.toNat kn.toNat)) (fun _ k _ => (2 * cn + 3 - intOf k).toNat)
    case atStart => exact ⟨cn, 2 * cn + 1, rfl, rfl, hc0, hc, by omega, by omega, HA0, ⟨by rw [show (2 * cn + 1).toNat = 2 * cn.toNat + 1 by omega]; exact least_start _ _ _⟩⟩
    case round =>
      obtain ⟨mn, kn, rfl, rfl, hm0, hm1, hk0, hk1, HA, HL⟩ := hrel
      clear HA0
      by_cases hx : kn ≤ 2 * cn + 2 ∧ kn < l.length
      · obtain ⟨hx1, hx2⟩ := hx
        have hlen := HLEN.out
        obtain ⟨F, ⟨hF, v, hb, hr⟩, hFb, put⟩ := HA.out.1.head
        obtain ⟨g, c, rfl, hcc⟩ := row_pos hr (by omega)
        have c0 : wr.cell? ⟨p, 0, none⟩ = some (.slice (some ⟨g, 0, none⟩) l'.length c) := by rw [blk_cell hb]; rfl
        obtain ⟨_, _, hC⟩ := Kd.R_reads' hr
        have hmax : l'.length ≤ 9223372036854775807 := hC.2.1
        obtain ⟨ad, e0, hi2, hi3⟩ := at_T31 hC kn (by omega) (by omega)
        cases e0
        obtain ⟨ad, e0, hk2, hk3⟩ := at_T31 hC mn (by omega) (by omega)
        cases e0
        rw [add_plain] at hi2 hi3 hk2 hk3
        dsimp only at hi3 hk3
        have b0 : 0 ≤ kn := by omega
        have b1 : kn < (l'.length : Int) := by omega
        have b3 : mn < (l'.length : Int) := by omega
        have d0 : decide (kn ≤ 2 * cn + 2) = true := decide_eq_true (by omega)
        have d1 : decide (0 ≤ kn) = true := decide_eq_true b0
        have d2 : decide (kn < (l'.length : Int)) = true := decide_eq_true b1
        have d3 : decide (0 ≤ mn) = true := decide_eq_true hm0
        have d4 : decide (mn < (l'.length : Int)) = true := decide_eq_true b3
        obtain ⟨x, hx⟩ : ∃ x, x = rd_T31 l' kn := ⟨_, rfl⟩
        obtain ⟨y, hy⟩ : ∃ y, y = rd_T31 l' mn := ⟨_, rfl⟩
        rw [← hx] at hi2 hi3
        rw [← hy] at hk2 hk3
        obtain ⟨o, ho⟩ : ∃ o, o = ordT x y := ⟨_, rfl⟩
        have hcall := order_calls x y
        rw [← ho] at hcall
        have G1 : GoodT x := by rw [hx, show kn = ((kn.toNat : Nat) : Int) by omega]; exact HG.out _ (HD.out.1.subset (rd_mem (by omega)))
        have G2 : GoodT y := by rw [hy, show mn = ((mn.toNat : Nat) : Int) by omega]; exact HG.out _ (HD.out.1.subset (rd_mem (by omega)))
        have HK := Aside0.mk (ordT_neg G1 G2)
        have K1 : keyL l' kn.toNat = keyT x := by unfold keyL; rw [hx, show ((kn.toNat : Nat) : Int) = kn by omega]
        have K2 : keyL l' mn.toNat = keyT y := by unfold keyL; rw [hy, show ((mn.toNat : Nat) : Int) = mn by omega]
        have HK1 := Aside0.mk K1
        have HK2 := Aside0.mk K2
        have HO := Aside0.mk ho
        have HC := Aside0.mk hcall
        have HM := Aside0.mk (many_calls HA.out.1)
        clear put hr hb hC hFb hx hy ho hlen hcall hF G1 G2 K1 K2
        by_cases ht : o < 0
        · have d5 : decide (o < 0) = true := decide_eq_true ht
          go_wp2_with (go_at_call 43; refine HM.out.mono ?_; rintro e w' ⟨rfl, rfl⟩)
          go_region_held3 (fun w' => w'.cell? ⟨p, 0, none⟩ = some (.slice (some ⟨g, 0, none⟩) l'.length c) ∧ w'.cell? ⟨g, kn.toNat * 2, none⟩ = some (.int .u32 x.f0) ∧ w'.cell? ⟨g, kn.toNat * 2 + 1, none⟩ = some (.int .i64 x.f1) ∧ w'.cell? ⟨g, mn.toNat * 2, none⟩ = some (.int .u32 y.f0) ∧ w'.cell? ⟨g, mn.toNat * 2 + 1, none⟩ = some (.int .i64 y.f1)) (first | exact ⟨c0, hi2, hi3, hk2, hk3⟩ | exact ⟨(by assumption), (by assumption), (by assumption), (by assumption), (by assumption)⟩) (first | (go_at_call 48; refine (HC.out _).mono ?_; rintro e w1 ⟨rfl, hb1⟩; have q0 := pw_cell_below hb1 (show wr.drew.cell? _ = _ from c0); have q1 := pw_cell_below hb1 (show wr.drew.cell? _ = _ from hi2); have q2 := pw_cell_below hb1 (show wr.drew.cell? _ = _ from hi3); have q3 := pw_cell_below hb1 (show wr.drew.cell? _ = _ from hk2); have q4 := pw_cell_below hb1 (show wr.drew.cell? _ = _ from hk3)))
          go_wp2
          go_roundw
          case rel => exact ⟨kn, kn + 1, rfl, rfl, b0, hx2, by omega, by omega, ⟨(HA.out.1.drew).below hb1, HA.out.2.trans (below_of HA.out.1.size ⟨hb1.os, hb1.tape, hb1.output, hb1.size, hb1.block⟩)⟩, ⟨by rw [show (kn + 1).toNat = kn.toNat + 1 by omega]; exact least_turn HL.out (by omega) (by omega) (by omega) (by rw [HK1.out, HK2.out]; exact HK.out.1 (by rw [← HO.out]; omega))⟩⟩
          case measure => simp [intOf]; omega
        · have d5 : decide (o < 0) = false := decide_eq_false ht
          go_wp2_with (go_at_call 43; refine HM.out.mono ?_; rintro e w' ⟨rfl, rfl⟩)
          go_region_held3 (fun w' => w'.cell? ⟨p, 0, none⟩ = some (.slice (some ⟨g, 0, none⟩) l'.length c) ∧ w'.cell? ⟨g, kn.toNat * 2, none⟩ = some (.int .u32 x.f0) ∧ w'.cell? ⟨g, kn.toNat * 2 + 1, none⟩ = some (.int .i64 x.f1) ∧ w'.cell? ⟨g, mn.toNat * 2, none⟩ = some (.int .u32 y.f0) ∧ w'.cell? ⟨g, mn.toNat * 2 + 1, none⟩ = some (.int .i64 y.f1)) (first | exact ⟨c0, hi2, hi3, hk2, hk3⟩ | exact ⟨(by assumption), (by assumption), (by assumption), (by assumption), (by assumption)⟩) (first | (go_at_call 48; refine (HC.out _).mono ?_; rintro e w1 ⟨rfl, hb1⟩; have q0 := pw_cell_below hb1 (show wr.drew.cell? _ = _ from c0); have q1 := pw_cell_below hb1 (show wr.drew.cell? _ = _ from hi2); have q2 := pw_cell_below hb1 (show wr.drew.cell? _ = _ from hi3); have q3 := pw_cell_below hb1 (show wr.drew.cell? _ = _ from hk2); have q4 := pw_cell_below hb1 (show wr.drew.cell? _ = _ from hk3)))
          go_wp2
          go_roundw
          case rel => exact ⟨mn, kn + 1, rfl, rfl, hm0, hm1, by omega, by omega, ⟨(HA.out.1.drew).below hb1, HA.out.2.trans (below_of HA.out.1.size ⟨hb1.os, hb1.tape, hb1.output, hb1.size, hb1.block⟩)⟩, ⟨by rw [show (kn + 1).toNat = kn.toNat + 1 by omega]; exact least_stay HL.out (by rw [HK1.out, HK2.out]; have := mt HK.out.2 (by rw [← HO.out]; omega); omega)⟩⟩
          case measure => simp [intOf]; omega
      · have HX : Aside0 (∀ j, 0 < j → j < l.length → (j - 1) / 2 = cn.toNat → keyL l' mn.toNat ≤ keyL l' j) := ⟨fun j a b d => HL.out.2.2 j a b d (by omega)⟩
        have HN := Aside0.mk hx
        have HM := Aside0.mk (many_calls HA.out.1)
        have b3 : mn < (l'.length : Int) := by have := HLEN.out; omega
        have b4 : cn < (l'.length : Int) := by have := HLEN.out; omega
        have key : kn ≤ 2 * cn + 2 ∨ ¬ kn ≤ 2 * cn + 2 := by omega
        have HK := Aside0.mk key
        clear hx key
        by_cases he : mn = cn
        · subst he
          rcases HK.out with d | d
          · have d0 : decide (kn ≤ 2 * mn + 2) = true := decide_eq_true d
            have d2 : decide (kn < (l'.length : Int)) = false := decide_eq_false (by have := HLEN.out; have := HN.out; omega)
            have d3 : (mn == mn) = true := by simp
            go_wp2_with (go_at_call 43; refine HM.out.mono ?_; rintro e w' ⟨rfl, rfl⟩)
            refine bodyPost_ret (results_none rfl _ _ _) rfl ?_
            exact ⟨l', rfl, HA.out.1, HA.out.2, HD.out.1, fun q => HpK.down_stop (HD.out.2 q) HX.out⟩
          · have d0 : decide (kn ≤ 2 * mn + 2) = false := decide_eq_false d
            have d3 : (mn == mn) = true := by simp
            go_wp2
            refine bodyPost_ret (results_none rfl _ _ _) rfl ?_
            exact ⟨l', rfl, HA.out.1, HA.out.2, HD.out.1, fun q => HpK.down_stop (HD.out.2 q) HX.out⟩
        · have d3 : (mn == cn) = false := beq_eq_false_iff_ne.2 he
          rcases HK.out with d | d
          · have d0 : decide (kn ≤ 2 * cn + 2) = true := decide_eq_true d
            have d2 : decide (kn < (l'.length : Int)) = false := decide_eq_false (by have := HLEN.out; have := HN.out; omega)
            go_wp2_with (go_at_call 43; refine HM.out.mono ?_; rintro e w' ⟨rfl, rfl⟩)
            refine (swap_calls HA.out.1 cn mn hc0 b4 hm0 b3 (fun q => he q.symm)).mono ?_
            rintro e w2 ⟨rfl, hA2, hB2⟩
            have HA2 : Aside0 (DownRel B w Ts p l i mn.toNat (swapL l' cn mn) w2) := by
              have n1 : cn = ((cn.toNat : Nat) : Int) := by omega
              have n2 : mn = ((mn.toNat : Nat) : Int) := by omega
              have hl := HLEN.out
              have e1 : swapL l' cn mn = swapL l' ((cn.toNat : Nat) : Int) ((mn.toNat : Nat) : Int) := by rw [← n1, ← n2]
              obtain ⟨m1, m2, m3, m4⟩ := HL.out.2.1.resolve_left (by omega)
              refine ⟨⟨hA2, HA.out.2.trans hB2, ?_, fun q => ?_⟩⟩
              · rw [e1]
                exact (swapL_perm l' (by omega) (by omega)).trans HD.out.1
              · rw [e1, keyL_swap l' (by omega) (by omega)]
                exact HpK.down_step (HD.out.2 q) m2 m3 m1 m4 HX.out
            have HLT : Aside0 (cn < mn) := ⟨by obtain ⟨m1, m2, m3, m4⟩ := HL.out.2.1.resolve_left (by omega); omega⟩
            clear hA2 hB2
            go_wp2
            go_roundw
            case rel => exact ⟨mn, _, rfl, hm0, hm1, HA2⟩
            case measure => have := HLT.out; simp [intOf]; omega
          · have d0 : decide (kn ≤ 2 * cn + 2) = false := decide_eq_false d
            go_wp2_with fail
            refine (swap_calls HA.out.1 cn mn hc0 b4 hm0 b3 (fun q => he q.symm)).mono ?_
            rintro e w2 ⟨rfl, hA2, hB2⟩
            have HA2 : Aside0 (DownRel B w Ts p l i mn.toNat (swapL l' cn mn) w2) := by
              have n1 : cn = ((cn.toNat : Nat) : Int) := by omega
              have n2 : mn = ((mn.toNat : Nat) : Int) := by omega
              have hl := HLEN.out
              have e1 : swapL l' cn mn = swapL l' ((cn.toNat : Nat) : Int) ((mn.toNat : Nat) : Int) := by rw [← n1, ← n2]
              obtain ⟨m1, m2, m3, m4⟩ := HL.out.2.1.resolve_left (by omega)
              refine ⟨⟨hA2, HA.out.2.trans hB2, ?_, fun q => ?_⟩⟩
              · rw [e1]
                exact (swapL_perm l' (by omega) (by omega)).trans HD.out.1
              · rw [e1, keyL_swap l' (by omega) (by omega)]
                exact HpK.down_step (HD.out.2 q) m2 m3 m1 m4 HX.out
            have HLT : Aside0 (cn < mn) := ⟨by obtain ⟨m1, m2, m3, m4⟩ := HL.out.2.1.resolve_left (by omega); omega⟩
            clear hA2 hB2
            go_wp2
            go_roundw
            case rel => exact ⟨mn, _, rfl, hm0, hm1, HA2⟩
            case measure => have := HLT.out; simp [intOf]; omega
end Go.Proofs.Ytpnoghnhlddjeaa.Hp
