/- Where a rule's task is: walked. No law is proved here. -/
import Derived.Test.YtpnoghnhlddjeaaHeapD
namespace Go.Proofs.Ytpnoghnhlddjeaa.Hp
open Go.RowKit Go.Proofs.YtpnoghnhlddjeaaW.PrintWords Go.Proofs.Ytpnoghnhlddjeaa.Q Go.Proofs.Ytpnoghnhlddjeaa.Own
set_option linter.unusedVariables false
set_option linter.unusedSimpArgs false
attribute [local go_sem ↓] Go.wp_at_zero Go.wp_at_succ

/-- The first place of a rule's task, from a place on; -1: none. -/
def findF (r : Int) : Nat → List S31 → Int
  | _, [] => -1
  | i, x :: l => if x.f0 = r then i else findF r (i + 1) l
theorem findF_hit (r : Int) : ∀ (l : List S31) (i k : Nat) (h : k < l.length), (∀ j (hj : j < k), (l[j]'(by omega)).f0 ≠ r) → l[k].f0 = r → findF r i l = ((i + k : Nat) : Int)
  | [], _, _, h, _, _ => absurd h (Nat.not_lt_zero _)
  | x :: l, i, 0, _, _, h => by
    unfold findF
    rw [if_pos (by simpa using h)]
    rfl
  | x :: l, i, k + 1, hk, hn, h => by
    unfold findF
    rw [if_neg (by simpa using hn 0 (by omega)), findF_hit r l (i + 1) k (by simpa using hk) (fun j hj => by simpa using hn (j + 1) (by omega)) (by simpa using h)]
    congr 1
    omega
theorem findF_miss (r : Int) : ∀ (l : List S31) (i : Nat), (∀ x ∈ l, x.f0 ≠ r) → findF r i l = -1
  | [], _, _ => rfl
  | x :: l, i, h => by
    unfold findF
    rw [if_neg (h x List.mem_cons_self), findF_miss r l (i + 1) fun y hy => h y (List.mem_cons_of_mem _ hy)]
theorem pred_calls (x : S31) (r : Int) (b : Nat) (w : World) (hb : b < w.heap.size) (hc : w.cell? ⟨b, 0, none⟩ = some (.int .u32 r)) :
    Calls Try.prog 57 #[.agg #[.int .u32 x.f0, .int .i64 x.f1], .pointer (some ⟨b, 0, none⟩)] w fun e w' => e = .returned (.bool (x.f0 == r)) ∧ Below w.heap.size w w' := by
  have hu29 := Try.underlying31
  go_enter Try.func57, Try.ntmps57
  go_wp2
  go_ret
  exact ⟨rfl, (Below.refl _ w).alloc (Nat.le_refl _) _⟩
def FindPost (l : List S31) (r : Int) (w : World) (e : Ending) (w' : World) : Prop := e = .returned (.int .i64 (findF r 0 l)) ∧ Below w.heap.size w w'
set_option maxHeartbeats 4000000 in
set_option maxRecDepth 100000 in
theorem index_calls {A : Option Addr} {c : Nat} {l : List S31} {w : World} (hC : Kd.C k31 w A l.length l) (r : Int) (b : Nat) (hb : b < w.heap.size) (hc : w.cell? ⟨b, 0, none⟩ = some (.int .u32 r)) :
    Calls Try.prog 56 #[.slice A l.length c, .func (.func 57) #[] #[.pointer (some ⟨b, 0, none⟩)]] w (FindPost l r w) := by
  have HC := Aside0.mk hC
  have HX := Aside0.mk hc
  have hmax : l.length ≤ 9223372036854775807 := hC.2.1
  clear hC hc
  have hu29 := Try.underlying31
  go_enter Try.func56, Try.ntmps56
  go_wp2
  go_loopw [8] (fun c wr => ∃ cn : Int, c = .int .i64 cn ∧ 0 ≤ cn ∧ cn ≤ l.length ∧ Aside0 (Below w.heap.size w wr) ∧ Aside0 (∀ j (hj : j < l.length), j < cn.toNat → l[j].f0 ≠ r)) (fun c _ => l.length - (intOf c).toNat)
  case atStart => exact ⟨0, rfl, by omega, by omega, ⟨Below.refl _ _⟩, ⟨fun j hj h => absurd h (by simp)⟩⟩
  case round =>
    obtain ⟨cn, rfl, hc0, hc1, HB, HN⟩ := hrel
    by_cases hlt : cn < l.length
    · obtain ⟨ad, rfl, hi2, hi3⟩ := at_T31 HC.out cn hc0 hlt
      replace hi2 := pw_cell_below HB.out hi2
      replace hi3 := pw_cell_below HB.out hi3
      have d1 : decide (0 ≤ cn) = true := decide_eq_true hc0
      have d2 : decide (cn < (l.length : Int)) = true := decide_eq_true hlt
      obtain ⟨x, hx⟩ : ∃ x, x = rd_T31 l cn := ⟨_, rfl⟩
      rw [← hx] at hi2 hi3
      have hxl : l[cn.toNat]'(by omega) = x := by have q := rd_nat l (i := cn.toNat) (by omega); rw [Int.toNat_of_nonneg hc0] at q; rw [hx, q]
      have hcall := pred_calls x r b wr (Nat.lt_of_lt_of_le hb HB.out.size) (pw_cell_below HB.out HX.out)
      have HCALL := Aside0.mk hcall
      have HXL := Aside0.mk hxl
      clear hcall hxl hx
      by_cases hr : x.f0 = r
      · have d3 : (x.f0 == r) = true := beq_iff_eq.2 hr
        have HR := Aside0.mk hr
        clear hr
        rw [d3] at HCALL
        go_wp2_with (refine HCALL.out.mono ?_; rintro e w1 ⟨rfl, hb1⟩)
        go_ret
        refine ⟨?_, HB.out.trans (hb1.mono HB.out.size)⟩
        rw [findF_hit r l 0 cn.toNat (by omega) (fun j hj => HN.out j (by omega) hj) (by rw [HXL.out]; exact HR.out)]
        rw [show ((0 + cn.toNat : Nat) : Int) = cn by omega]
        rfl
      · have d3 : (x.f0 == r) = false := beq_eq_false_iff_ne.2 hr
        have HR := Aside0.mk hr
        clear hr
        rw [d3] at HCALL
        go_wp2_with (refine HCALL.out.mono ?_; rintro e w1 ⟨rfl, hb1⟩)
        go_roundw
        case rel => exact ⟨cn + 1, rfl, by omega, by omega, ⟨HB.out.trans (hb1.mono HB.out.size)⟩, ⟨fun j hj hjc => by
          by_cases q : j = cn.toNat
          · subst q; rw [HXL.out]; exact HR.out
          · exact HN.out j hj (by omega)⟩⟩
        case measure => simp [intOf]; omega
    · have d2 : decide (cn < (l.length : Int)) = false := decide_eq_false hlt
      go_wp2
      go_ret
      have hm : findF r 0 l = -1 := findF_miss r l 0 fun x hx => by
        obtain ⟨j, hj, rfl⟩ := List.getElem_of_mem hx
        exact HN.out j hj (by omega)
      exact ⟨by rw [hm]; rfl, HB.out⟩
set_option maxHeartbeats 1000000 in
theorem find_calls {B : Nat} {w : World} {Ts : List Th} {p : Nat} {l : List S31} (h : Has B w (rowH p l :: Ts)) (r : Int) :
    Calls Try.prog 44 #[ptr p, .int .u32 r] w (FindPost l r w) := by
  obtain ⟨F, ⟨hF, v, hb, hr⟩, hFb, put⟩ := h.head
  obtain ⟨A, c, rfl, hc, hC⟩ := Kd.R_reads hr
  have h0 : w.cell? ⟨p, 0, none⟩ = some (.slice A l.length c) := by rw [blk_cell hb]; rfl
  have hp := (hFb p hF).2
  have HI := Aside0.mk (index_calls (c := c) (Kd.C_below hC ((Below.refl _ w).alloc (Nat.le_refl _) (.cells #[.int .u32 r] 29))) r w.heap.size (by simp) (by simp))
  clear hb hr hC put hFb h
  go_enter Try.func44, Try.ntmps44
  go_wp2_with (refine HI.out.mono ?_; rintro e w1 ⟨rfl, hb1⟩)
  go_ret
  exact ⟨rfl, ((Below.refl _ w).alloc (Nat.le_refl _) _).trans (hb1.mono (by simp))⟩
/-- Tasks as a heap has them: rising, each rule once. -/
structure GoodS (s : List S31) : Prop where
  good : ∀ x ∈ s, GoodT x
  rise : s.Pairwise fun a b => keyT a < keyT b
  once : s.Pairwise fun a b => a.f0 ≠ b.f0
  few : s.length ≤ 1000000
/-- A heap, with these tasks. -/
def heapT (p : Nat) (s : List S31) : Th where
  on w F := ∃ l, (rowH p l).on w F ∧ HpK.HeapK (keyL l) l.length ∧ l.Perm s ∧ GoodS s
  loc := by
    rintro w w' F ⟨l, h1, h2⟩ hm
    exact ⟨l, (rowH p l).loc h1 hm, h2⟩
theorem heap_row {B : Nat} {w : World} {Ts : List Th} {p : Nat} {s : List S31} (h : Has B w (heapT p s :: Ts)) : ∃ l, Has B w (rowH p l :: Ts) ∧ HpK.HeapK (keyL l) l.length ∧ l.Perm s ∧ GoodS s := by
  obtain ⟨h0, F, ⟨l, h1, h2⟩, h3⟩ := h
  exact ⟨l, ⟨h0, F, h1, h3⟩, h2⟩
theorem row_heap {B : Nat} {w : World} {Ts : List Th} {p : Nat} {l s : List S31} (h : Has B w (rowH p l :: Ts)) (hk : HpK.HeapK (keyL l) l.length) (hp : l.Perm s) (hg : GoodS s) : Has B w (heapT p s :: Ts) := by
  obtain ⟨h0, F, h1, h3⟩ := h
  exact ⟨h0, F, ⟨l, h1, hk, hp, hg⟩, h3⟩
theorem none_calls {B : Nat} {w : World} {Ts : List Th} {p : Nat} {l : List S31} (h : Has B w (rowH p l :: Ts)) :
    Calls Try.prog 42 #[ptr p] w fun e w' => e = .returned (.bool (decide (l = []))) ∧ w = w' := by
  have HM := Aside0.mk (many_calls h)
  by_cases hl : l = []
  · have d : ((l.length : Int) == 0) = true := by rw [hl]; rfl
    rw [decide_eq_true hl]
    clear h
    go_enter Try.func42, Try.ntmps42
    go_wp2_with (refine HM.out.mono ?_; rintro e w1 ⟨rfl, rfl⟩)
    go_ret
    exact ⟨rfl, rfl⟩
  · have d : ((l.length : Int) == 0) = false := beq_eq_false_iff_ne.2 (fun q => hl (List.length_eq_zero_iff.1 (by omega)))
    rw [decide_eq_false hl]
    clear h
    go_enter Try.func42, Try.ntmps42
    go_wp2_with (refine HM.out.mono ?_; rintro e w1 ⟨rfl, rfl⟩)
    go_ret
    exact ⟨rfl, rfl⟩
theorem len_calls {B : Nat} {w : World} {Ts : List Th} {p : Nat} {s : List S31} (h : Has B w (heapT p s :: Ts)) :
    Calls Try.prog 25 #[ptr p] w fun e w' => e = .returned (.int .i64 s.length) ∧ w = w' := by
  obtain ⟨l, h1, _, hp, _⟩ := heap_row h
  have hlen := hp.length_eq
  have HM := Aside0.mk (many_calls h1)
  have HN := Aside0.mk (none_calls h1)
  rw [← hlen]
  clear h h1 hlen
  by_cases hl : l = []
  · rw [decide_eq_true hl] at HN
    have HL := Aside0.mk hl
    clear hl
    go_enter Try.func25, Try.ntmps25
    go_wp2_with (first | (refine HN.out.mono ?_; rintro e w1 ⟨rfl, rfl⟩))
    go_ret
    exact ⟨by rw [HL.out]; rfl, rfl⟩
  · rw [decide_eq_false hl] at HN
    clear hl
    go_enter Try.func25, Try.ntmps25
    go_wp2_with fail
    refine HN.out.mono ?_
    rintro e w1 ⟨rfl, rfl⟩
    go_wp2_with fail
    refine HM.out.mono ?_
    rintro e w1 ⟨rfl, rfl⟩
    go_wp2
    go_ret
    exact ⟨rfl, rfl⟩
end Go.Proofs.Ytpnoghnhlddjeaa.Hp
