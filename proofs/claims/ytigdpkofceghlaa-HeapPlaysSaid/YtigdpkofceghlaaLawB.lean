/- A heap that a law works with; the law of putting one more. -/
import Derived.Test.YtigdpkofceghlaaLawA
import Derived.Test.YtigdpkofceghlaaLawP
import Derived.DataShut
namespace Go.Proofs.Ytigdpkofceghlaa.Hp
open Go.RowKit Go.Proofs.YtigdpkofceghlaaW.PrintWords Go.Proofs.YtigdpkofceghlaaW.PrintLast Go.Proofs.YtigdpkofceghlaaW.PrintMore Go.Proofs.Ytigdpkofceghlaa.Q Go.Proofs.Ytigdpkofceghlaa.Own
set_option linter.unusedVariables false
set_option linter.unusedSimpArgs false
attribute [local go_sem ↓] Go.wp_at_zero Go.wp_at_succ

theorem good_T {x : S29} (h : good29 x) : GoodT x := by
  have := (Lit.wf_int_iff _ _).1 h.1
  exact this
theorem good_news {l : List S29} (hg : ∀ x ∈ l, GoodT x) (hm : l.length ≤ 300) : GoodS (newS l) := fold_good l [] good_nil hg (by simp; omega)
theorem news_few {l : List S29} (hm : l.length ≤ 300) : (newS l).length ≤ 300 := by
  have := fold_length l []
  unfold newS
  simp only [List.length_nil, Nat.zero_add] at this
  omega
theorem with_has (s : List S29) (x : S29) : hasL (withL s x) x.f0 = true := hasL_true.2 ⟨x, (with_perm s x).mem_iff.2 (List.mem_cons_self ..), rfl⟩
theorem with_without {s : List S29} {x : S29} (hg : GoodS s) (hx : GoodT x) (hn : hasL s x.f0 = false) (hm : s.length < 1000000) : withoutL (withL s x) x.f0 = s := by
  have h1 := good_with hg hx hn hm
  refine rise_unique (good_without h1 _).rise hg.rise ?_
  unfold withoutL
  refine ((with_perm s x).filter _).trans ?_
  rw [List.filter_cons, if_neg (by simp), List.filter_eq_self.2 fun y hy => ?_]
  have := hasL_false.1 hn y hy
  simpa using this
set_option maxHeartbeats 8000000 in
set_option maxRecDepth 100000 in
theorem put_law (A0 : Option Addr) (c0 : Nat) (l0 : List S29) (a1_0 a1_1 : Int) (W : World) (hr0 : Kd.C k29 W A0 l0.length l0) (hc0 : l0.length ≤ c0) (hm0 : l0.length ≤ 9223372036854775807) (y0 : l0.length * 16 ≤ 140737488351232) (hg0 : ∀ x ∈ l0, good29 x) (hg1_0 : (Lit.int .u32 a1_0).wf = true) (hg1_1 : (Lit.int .i64 a1_1).wf = true) :
    Calls Try.prog 6 #[.slice A0 l0.length c0, .agg #[.int .u32 a1_0, .int .i64 a1_1]] W fun e w' => e = .returned (.bool true) ∧ Below W.heap.size W w' := by
  have hu29 := Try.underlying29
  have HX : Aside0 (GoodT (⟨a1_0, a1_1⟩ : S29)) := ⟨good_T ⟨hg1_0, hg1_1⟩⟩
  have HG : Aside0 (∀ x ∈ l0, GoodT x) := ⟨fun x hx => good_T (hg0 x hx)⟩
  have HC := Aside0.mk hr0
  have HA0 := Aside0.mk ((Has.nil W).box #[.int .u32 a1_0, .int .i64 a1_1] 29)
  have HB0 : Aside0 (Below W.heap.size W (W.alloc (.cells #[.int .u32 a1_0, .int .i64 a1_1] 29))) := ⟨(Below.refl _ W).alloc (Nat.le_refl _) _⟩
  clear hr0 hg0 hg1_0 hg1_1 y0
  go_enter Try.func6, Try.ntmps6
  go_wp2_with fail
  refine (awake_calls _).mono ?_
  rintro e w1 ⟨rfl, hb⟩
  have HA1 := Aside0.mk (HA0.out.below hb)
  have HB1 := Aside0.mk (HB0.out.trans (hb.mono (by simp)))
  clear hb HA0 HB0
  by_cases h300 : (l0.length : Int) > 300
  · have d1 : decide ((l0.length : Int) > 300) = true := decide_eq_true h300
    go_wp2_with fail
    go_ret
    exact ⟨rfl, HB1.out⟩
  have d1 : decide ((l0.length : Int) > 300) = false := decide_eq_false h300
  have hl : l0.length ≤ 300 := by omega
  have HS := Aside0.mk (good_news HG.out hl)
  have hs := news_few (l := l0) hl
  have HN := Aside0.mk (new_calls (c := c0) (Kd.C_below HC.out HB1.out) HG.out (by omega))
  generalize newS l0 = s at HS hs HN
  go_wp2_with fail
  refine HN.out.mono ?_
  rintro e w2 ⟨p, rfl, hA, hB⟩
  have HA2 := Aside0.mk (has_new HA1.out hB hA)
  have HB2 := Aside0.mk (HB1.out.trans (hB.mono HA1.out.size))
  clear hA hB HA1 HB1 HN HC
  go_wp2_with fail
  refine (all_calls HA2.out).mono ?_
  rintro e w3 ⟨v, rfl, hr, hb⟩
  have HA3 := Aside0.mk (HA2.out.row hb hr).swap
  have HB3 := Aside0.mk (HB2.out.trans (hb.mono HA2.out.size))
  clear hr hb HA2 HB2
  obtain ⟨A, c, rfl, hc, -⟩ := HA3.out.reads (d := k29) (e := 29) (v := v) (xs := s) (by simp)
  obtain ⟨q1, q2, q3, q4⟩ := Has.box_cell HA3.out (b := W.heap.size) (cs := #[.int .u32 a1_0, .int .i64 a1_1]) (t := 29) (by simp)
  have q10 : w3.cell? ⟨W.heap.size, 0, none⟩ = some (.int .u32 a1_0) := q1 0
  have q11 : w3.cell? ⟨W.heap.size, 1, none⟩ = some (.int .i64 a1_1) := q1 1
  clear q1 q2 q3 q4
  go_wp2_with fail
  refine (push_calls HA3.out ⟨a1_0, a1_1⟩ HX.out (by omega)).mono ?_
  rintro e w4 ⟨rfl, hA, hB⟩
  have HA4 := Aside0.mk hA
  have HB4 := Aside0.mk (HB3.out.trans hB)
  clear hA hB HA3 HB3 q10 q11
  obtain ⟨q1, q2, q3, q4⟩ := Has.box_cell HA4.out (b := W.heap.size) (cs := #[.int .u32 a1_0, .int .i64 a1_1]) (t := 29) (by simp)
  have q10 : w4.cell? ⟨W.heap.size, 0, none⟩ = some (.int .u32 a1_0) := q1 0
  clear q1 q2 q3 q4
  go_wp2_with fail
  refine (has_calls (s := s) HA4.out (by simp) (by omega) a1_0).mono ?_
  rintro e w5 ⟨rfl, n, rfl⟩
  have HA5 := Aside0.mk (HA4.out.drewN n)
  have HB5 := Aside0.mk (pw_below_drewN HB4.out n)
  clear HA4 HB4 q10
  by_cases hh : hasL s a1_0 = true
  · have e1 : pushE s (⟨a1_0, a1_1⟩ : S29) = 2 := if_pos hh
    have e2 : pushS s (⟨a1_0, a1_1⟩ : S29) = s := if_pos hh
    rw [e2] at HA5
    rw [hh, e1]
    clear e1 e2 hh
    go_wp2_with fail
    refine (all_calls HA5.out).mono ?_
    rintro e w6 ⟨v6, rfl, hr, hb⟩
    have HA6 := Aside0.mk (HA5.out.row hb hr)
    have HB6 := Aside0.mk (HB5.out.trans (hb.mono HA5.out.size))
    clear hr hb HA5 HB5
    go_wp2_with fail
    refine (same_calls (s := s) (t := s) HA6.out (by simp) (by simp) (by omega)).mono ?_
    rintro e w7 ⟨rfl, n7, rfl⟩
    rw [decide_eq_true rfl]
    go_wp2_with fail
    go_ret
    exact ⟨rfl, pw_below_drewN HB6.out n7⟩
  · have hh' : hasL s a1_0 = false := by simpa using hh
    have e1 : pushE s (⟨a1_0, a1_1⟩ : S29) = 0 := if_neg hh
    have e2 : pushS s (⟨a1_0, a1_1⟩ : S29) = withL s ⟨a1_0, a1_1⟩ := if_neg hh
    have e3 : withoutL (withL s ⟨a1_0, a1_1⟩) a1_0 = s := with_without HS.out HX.out hh' (by omega)
    have e4 : hasL (withL s ⟨a1_0, a1_1⟩) a1_0 = true := with_has s ⟨a1_0, a1_1⟩
    have e5 : ((withL s (⟨a1_0, a1_1⟩ : S29)).length : Int) = (s.length : Int) + 1 := by rw [(with_perm s ⟨a1_0, a1_1⟩).length_eq]; simp
    have e6 : IntKind.i64.wrap ((s.length : Int) + 1) = (s.length : Int) + 1 := by rw [i64_w]; unfold wrap64; omega
    rw [e2] at HA5
    rw [hh', e1]
    have HL := Aside0.mk (len_calls HA5.out)
    have HR := Aside0.mk (remove_calls HA5.out a1_0)
    rw [e3, e4] at HR
    rw [e5] at HL
    obtain ⟨q1, q2, q3, q4⟩ := Has.box_cell HA5.out (b := W.heap.size) (cs := #[.int .u32 a1_0, .int .i64 a1_1]) (t := 29) (by simp)
    have q10 : (w4.drewN n).cell? ⟨W.heap.size, 0, none⟩ = some (.int .u32 a1_0) := q1 0
    clear q1 q2 q3 q4 e1 e2 e3 e4 e5 hh hh' HA5
    generalize w4.drewN n = w5 at HL HR HB5 q10 ⊢
    go_wp2_with fail
    refine HL.out.mono ?_
    rintro e w6 ⟨rfl, rfl⟩
    go_wp2_with fail
    refine HR.out.mono ?_
    rintro e w7 ⟨rfl, hA, hB⟩
    have HA7 := Aside0.mk hA
    have HB7 := Aside0.mk (HB5.out.trans hB)
    clear hA hB HL HR HB5
    go_wp2_with fail
    refine (all_calls HA7.out).mono ?_
    rintro e w8 ⟨v8, rfl, hr, hb⟩
    have HA8 := Aside0.mk (HA7.out.row hb hr)
    have HB8 := Aside0.mk (HB7.out.trans (hb.mono HA7.out.size))
    clear hr hb HA7 HB7
    go_wp2_with fail
    refine (same_calls (s := s) (t := s) HA8.out (by simp) (by simp) (by omega)).mono ?_
    rintro e w9 ⟨rfl, n9, rfl⟩
    rw [decide_eq_true rfl]
    go_wp2_with fail
    go_ret
    exact ⟨rfl, pw_below_drewN HB8.out n9⟩
end Go.Proofs.Ytigdpkofceghlaa.Hp
