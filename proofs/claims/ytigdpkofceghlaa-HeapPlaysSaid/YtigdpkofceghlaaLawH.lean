/- Any calls of a heap come to what the chapter says: walked. -/
import Derived.Test.YtigdpkofceghlaaLawB
import Derived.Test.YtigdpkofceghlaaWKept
import Derived.Test.YtigdpkofceghlaaActs
namespace Go.Proofs.Ytigdpkofceghlaa.Hp
open Go.RowKit Go.Proofs.YtigdpkofceghlaaW.PrintWords Go.Proofs.YtigdpkofceghlaaW.PrintLast Go.Proofs.YtigdpkofceghlaaW.PrintMore Go.Proofs.Ytigdpkofceghlaa.Q Go.Proofs.Ytigdpkofceghlaa.Own
set_option linter.unusedVariables false
set_option linter.unusedSimpArgs false
attribute [local go_sem ↓] Go.wp_at_zero Go.wp_at_succ

theorem raise_row {w : World} {base B : Nat} {ok : Nat → Prop} {v : Value} {l : List S29} (h : Kd.R k29 29 w base ok v l) (hB : ∀ k, ok k → B ≤ k) : Kd.R k29 29 w B ok v l := by
  obtain ⟨hok, inner, ho, hr⟩ := h
  refine ⟨hok, inner, ?_, hr.imp_ fun p c hp => by rw [k29_openM hp]; exact k29_mkM _ _ _ _⟩
  obtain ⟨h1, h2⟩ := ho
  refine ⟨h1, ?_⟩
  rcases h2 with h2 | ⟨g, cap, cur, hv, hb, rest⟩
  · exact .inl h2
  · exact .inr ⟨g, cap, cur, hv, hB g (hok g (by rw [hv]; rfl)), rest⟩
theorem row_addr {B : Nat} {w : World} {Ts : List Th} {v : Value} {l : List S29} (h : Has B w Ts) (hm : rowT k29 29 v l ∈ Ts) (hl : 0 < l.length) : ∃ g c, v = .slice (some ⟨g, 0, none⟩) l.length c ∧ l.length ≤ c := by
  obtain ⟨F, hF, _⟩ := h.mem hm
  obtain ⟨_, inner, ho, _⟩ := hF
  rcases ho.2 with ⟨_, h0⟩ | ⟨g, cap, cur, hv, _, _, hnc, _⟩
  · omega
  · exact ⟨g, cap, hv, hnc⟩
def WithPost (W w : World) (Ts : List Th) (s : List S29) (n : Int) (e : Ending) (w' : World) : Prop := ∃ v', e = .returned (.tuple #[v', .int .i64 n]) ∧ Has W.heap.size w' (rowT k29 29 v' s :: Ts) ∧ Below W.heap.size W w'
theorem with_calls {W w : World} {Ts : List Th} {v : Value} {s : List S29} (h : Has W.heap.size w (rowT k29 29 v s :: Ts)) (hB : Below W.heap.size W w) (x : S29) (hx : GoodT x) (hg : ∀ y ∈ s, GoodT y) (hm : s.length ≤ 1000000) :
    Calls Try.prog 22 #[v, aggT x] w (WithPost W w Ts (pushS s x) (pushE s x)) := by
  obtain ⟨F, hR, hFb, put⟩ := h.head
  have hR2 := raise_row hR (fun k hk => (hFb k hk).1)
  refine (tocsinref25_With.calls (s.length + 1) F v s x.f0 x.f1 _ _ W w hB hR2 (with_f s x hm hg hx)).mono ?_
  rintro e w' ⟨v', rfl, hr', hb', hk'⟩
  have hR3 : Kd.R k29 29 w' 0 (fun k => (F k ∨ w.heap.size ≤ k) ∧ k < w'.heap.size) v' (pushS s x) := Kd.R_lower (Kd.R_mono (Kd.R_bound hr') fun k hk => ⟨hk.1, hk.2.2.1⟩) (Nat.zero_le _)
  obtain ⟨p1, p2⟩ := put w' _ (rowT k29 29 v' (pushS s x)) ⟨hb'.os.trans hB.os.symm, hb'.tape.trans hB.tape.symm, hb'.output.trans hB.output.symm, hk'.1, fun k hk hF => hk'.2 k hk hF⟩ hR3 (fun k hk => hk)
  exact ⟨v', rfl, p1, hb'⟩
theorem row_put {B : Nat} {w : World} {Ts : List Th} {g n c : Nat} {l : List S29} (h : Has B w (rowT k29 29 (.slice (some ⟨g, 0, none⟩) n c) l :: Ts)) (i : Nat) (hi : i < l.length) (u : Int) :
    (∃ l', l'.length = l.length ∧ Has B (w.setCell ⟨g, i * 2 + 1, none⟩ (.int .i64 u)) (rowT k29 29 (.slice (some ⟨g, 0, none⟩) n c) l' :: Ts)) ∧ Below B w (w.setCell ⟨g, i * 2 + 1, none⟩ (.int .i64 u)) ∧ w.frozen? ⟨g, i * 2 + 1, none⟩ = false ∧ w.cell? ⟨g, i * 2 + 1, none⟩ = some (.int .i64 (rd_T29 l (i : Int)).f1) := by
  obtain ⟨F, hR, hFb, put⟩ := h.head
  have hR' : Kd.R k29 29 w 0 F (.slice (some ⟨g, 0, none⟩) n c) l := hR
  obtain ⟨hn, hnc, hC⟩ := Kd.R_reads' hR'
  obtain ⟨ad, e0, h2, h3⟩ := at_T29 hC (i : Int) (by omega) (by omega)
  cases e0
  rw [add_plain, Int.toNat_natCast] at h2
  rw [add_plain, Int.toNat_natCast] at h3
  have h3' : w.cell? ⟨g, i * 2 + 1, none⟩ = some (.int .i64 (rd_T29 l (i : Int)).f1) := h3
  have hg : F g := hR'.1 g rfl
  obtain ⟨s1, s2⟩ := Kd.R_seg (okp := fun _ => False) hR' (i : Int) (by omega) (by omega) (c := [.int .u32 (rd_T29 l (i : Int)).f0, .int .i64 (rd_T29 l (i : Int)).f1]) (seg := [.int .i64 u]) (j := 1) rfl
    (fun j q hq => by
      rw [Int.toNat_natCast]
      match j, hq with
      | 0, hq => cases hq; exact h2
      | 1, hq => cases hq; exact h3'
      | j + 2, hq => cases hq) (show 1 + 1 ≤ 2 by decide) (x' := ⟨(rd_T29 l (i : Int)).f0, u⟩) (k29_mkM _ _ _ _) (fun _ f => f.elim)
  have s1' : Kd.R k29 29 (w.setCell ⟨g, i * 2 + 1, none⟩ (.int .i64 u)) 0 F (.slice (some ⟨g, 0, none⟩) n c) (l.set (i : Int).toNat ⟨(rd_T29 l (i : Int)).f0, u⟩) := s1
  have s2' : w.grownBy (w.setCell ⟨g, i * 2 + 1, none⟩ (.int .i64 u)) (some g) := s2
  obtain ⟨p1, p2⟩ := put _ F (rowT k29 29 (.slice (some ⟨g, 0, none⟩) n c) (l.set (i : Int).toNat ⟨(rd_T29 l (i : Int)).f0, u⟩)) ((KeepF.refl F w).grown s2' (fun k e => by injection e with e; subst e; exact .inl hg)) s1' (fun k hk => ⟨.inl hk, Nat.lt_of_lt_of_le (hFb k hk).2 s2'.size⟩)
  exact ⟨⟨_, by simp, p1⟩, p2, frozen_row hR' _, h3'⟩
theorem keep2 {B : Nat} {w : World} {T1 T2 T3 T4 T5 : Th} (h : Has B w [T1, T2, T3, T4, T5]) : Has B w [T5, T2] := h.tail.swap.tail.swap.tail.swap
theorem keep3 {B : Nat} {w : World} {T0 T1 T2 T3 T4 T5 : Th} (h : Has B w [T0, T1, T2, T3, T4, T5]) : Has B w [T0, T2] := h.swap.tail.third.tail.third.tail.third.tail
theorem keep4 {B : Nat} {w : World} {T0 T1 T2 T3 T4 : Th} (h : Has B w [T0, T1, T2, T3, T4]) : Has B w [T0, T1] := h.third.tail.third.tail.third.tail
theorem heap_goodH {B : Nat} {w : World} {Ts : List Th} {p : Nat} {s : List S29} (h : Has B w (heapT p s :: Ts)) : GoodS s := by
  obtain ⟨_, _, _, _, hg⟩ := heap_row h
  exact hg
theorem take_news (l : List S29) (k : Nat) (h : k < l.length) : newS (l.take (k + 1)) = pushS (newS (l.take k)) (rd_T29 l (k : Int)) := take_fold l k h
def PlayRel (W : World) (p : Nat) (vm : Value) (l0 : List S29) (n : Nat) (v : Value) (wr : World) : Prop :=
  (∃ m : List S29, m.length = l0.length ∧ Has W.heap.size wr [rowT k29 29 v (newS (l0.take n)), rowT k29 29 vm m, heapT p (newS l0)]) ∧ Below W.heap.size W wr
def MainRel (W : World) (p : Nat) (n : Nat) (v : Value) (s : List S29) (wr : World) : Prop :=
  Has W.heap.size wr [rowT k29 29 v s, heapT p s] ∧ Below W.heap.size W wr ∧ s.length ≤ 300 + n
set_option maxHeartbeats 8000000 in
set_option maxRecDepth 100000 in
theorem plays_law (A0 : Option Addr) (c0 : Nat) (l0 : List S29) (A1 : Option Addr) (c1 : Nat) (l1 : List S49) (W : World) (hr0 : Kd.C k29 W A0 l0.length l0) (hc0 : l0.length ≤ c0) (hr1 : Kd.C k49 W A1 l1.length l1) (hc1 : l1.length ≤ c1) (hm0 : l0.length ≤ 9223372036854775807) (y0 : l0.length * 16 ≤ 140737488351232) (hg0 : ∀ x ∈ l0, good29 x) (hm1 : l1.length ≤ 9223372036854775807) (y1 : l1.length * 24 ≤ 140737488351232) (hg1 : ∀ x ∈ l1, good49 x) :
    Calls Try.prog 8 #[.slice A0 l0.length c0, .slice A1 l1.length c1] W fun e w' => e = .returned (.bool true) ∧ Below W.heap.size W w' := by
  have hu29 := Try.underlying29
  have HG : Aside0 (∀ x ∈ l0, GoodT x) := ⟨fun x hx => good_T (hg0 x hx)⟩
  have HG1 : Aside0 (∀ x ∈ l1, GoodT x.f1) := ⟨fun x hx => good_T (hg1 x hx).2⟩
  have HC := Aside0.mk hr0
  have HD := Aside0.mk hr1
  clear hr0 hg0 y0 hc0 hr1 hg1 y1 hc1
  go_enter Try.func8, Try.ntmps8
  by_cases h300 : (l0.length : Int) > 300
  · have d1 : decide ((l0.length : Int) > 300) = true := decide_eq_true h300
    go_wp2_with fail
    go_ret
    exact ⟨rfl, Below.refl _ _⟩
  have d1 : decide ((l0.length : Int) > 300) = false := decide_eq_false h300
  by_cases h301 : (l1.length : Int) > 300
  · have d2 : decide ((l1.length : Int) > 300) = true := decide_eq_true h301
    go_wp2_with fail
    go_ret
    exact ⟨rfl, Below.refl _ _⟩
  have d2 : decide ((l1.length : Int) > 300) = false := decide_eq_false h301
  have hl : l0.length ≤ 300 := by omega
  have hl1 : l1.length ≤ 300 := by omega
  go_wp2_with (refine Kd.R_append_rows k29 (Rr := k29.K W) (w0 := W) (W := W) W.heap.size rfl _ _ 22 29 (.agg #[.int .u32 0, .int .i64 0]) 16 rfl Try.underlying22 info29 rfl (by decide) (by decide) (.slice none 0 0) [] l0 A0 l0.length c0 (fun k => W.heap.size ≤ k) (fun _ => False) rfl rfl (Kd.R_nil _ _ _ _ _) HC.out (fun x cs hx => by rw [k29_open hx]; exact k29_mkM _ _ _ x) (fun _ f => f.elim) (fun _ h => h) (Below.refl _ _) (Nat.le_refl _) (by simp; omega) ?_; rintro v1 w1 hR1 hB1 - -; have HR1 := Aside0.mk hR1; have HB1 := Aside0.mk hB1; clear hR1 hB1)
  have HA1 : Aside0 (Has W.heap.size w1 [rowT k29 29 v1 l0]) := ⟨(Has.nil W).row HB1.out (by have h := Kd.R_mono HR1.out (ok' := fun _ => True) (fun _ _ => trivial); rwa [List.nil_append] at h)⟩
  clear HR1
  obtain ⟨A, c, rfl, hc, hC1⟩ := HA1.out.reads (d := k29) (e := 29) (v := v1) (xs := l0) (by simp)
  have HN := Aside0.mk (new_calls (c := c) hC1 HG.out (by omega))
  clear hC1
  refine HN.out.mono ?_
  rintro e w2 ⟨p, rfl, hA, hB⟩
  have HA2 := Aside0.mk ((has_new HA1.out hB hA).swap)
  have HB2 := Aside0.mk (HB1.out.trans (hB.mono HA1.out.size))
  have HR2 : Aside0 (PlayRel W p (.slice A l0.length c) l0 0 (.slice none 0 0) w2) := ⟨⟨l0, rfl, HA2.out.row (Below.refl _ _) (by rw [List.take_zero]; exact Kd.R_nil _ _ _ _ _)⟩, HB2.out⟩
  clear hA hB HA1 HB1 HA2 HB2 HN d1 d2
  go_wp2_with fail
  go_loopw [8, 7] (fun k u wr => ∃ (n : Nat) (v : Value), k = .int .i64 n ∧ v = u ∧ n ≤ l0.length ∧ Aside0 (PlayRel W p (.slice A l0.length c) l0 n v wr)) (fun k _ _ => l0.length - (intOf k).toNat)
  case atStart => exact ⟨0, _, rfl, rfl, by omega, HR2⟩
  case round =>
    clear HR2
    obtain ⟨n, v, rfl, rfl, hn, HR⟩ := hrel
    by_cases hnt : n < l0.length
    · have d3 : decide ((n : Int) < (l0.length : Int)) = true := decide_eq_true (by omega)
      have d4 : (n : Int) < (l0.length : Int) := by omega
      obtain ⟨⟨m, hm, hA⟩, hB⟩ := HR.out
      obtain ⟨g, c9, e0, -⟩ := row_addr hA (v := .slice A l0.length c) (l := m) (by simp) (by omega)
      injection e0 with e1 e2 e3
      subst e1
      clear e2 e3
      obtain ⟨ad, rfl, ha2, ha3⟩ := at_T29 HC.out (n : Int) (by omega) (by omega)
      rw [Int.toNat_natCast] at ha2 ha3
      have p2 := pw_cell_below hB ha2
      have p3 := pw_cell_below hB ha3
      have hxm : rd_T29 l0 (n : Int) ∈ l0 := rd_mem hnt
      have hgs := good_news (l := l0.take n) (fun x hx => HG.out x (List.mem_of_mem_take hx)) (by rw [List.length_take]; omega)
      have HW := Aside0.mk (with_calls hA hB _ (HG.out _ hxm) hgs.good (by have := hgs.few; omega))
      rw [← take_news l0 n hnt] at HW
      generalize rd_T29 l0 (n : Int) = x at p2 p3 HW ha2 ha3 hxm
      generalize pushE (newS (l0.take n)) x = pe at HW
      clear hA hB HR ha2 ha3 hxm hgs
      have HM := Aside0.mk hm
      go_wp2_with fail
      refine HW.out.mono ?_
      rintro e w3 ⟨v3, rfl, hA3, hB3⟩
      obtain ⟨⟨m', hm', hA4⟩, hB4, hf, hcell⟩ := row_put hA3.swap n (by omega) (wrap64 ((rd_T29 m (n : Int)).f1 + 1))
      generalize (rd_T29 m (n : Int)).f1 = q at hA4 hB4 hcell
      have HR4 : Aside0 (PlayRel W p (.slice (some ⟨g, 0, none⟩) l0.length c) l0 (n + 1) v3 (w3.setCell ⟨g, n * 2 + 1, none⟩ (.int .i64 (wrap64 (q + 1))))) := ⟨⟨m', hm'.trans HM.out, hA4.swap⟩, hB3.trans hB4⟩
      clear hA3 hB3 hA4 hB4 HW p2 p3 hm hm'
      go_wp2_with fail
      go_roundw
      case rel => exact ⟨n + 1, v3, rfl, rfl, by omega, HR4⟩
      case measure => simp [intOf]; omega
    · have d3 : decide ((n : Int) < (l0.length : Int)) = false := decide_eq_false (by omega)
      have HR5 : Aside0 (MainRel W p 0 v (newS l0) wr) := ⟨by
        obtain ⟨⟨m, hm, hA⟩, hB⟩ := HR.out
        rw [List.take_of_length_le (by omega)] at hA
        exact ⟨hA.swap.tail, hB, by have := news_few (l := l0) hl; omega⟩⟩
      clear HR
      go_wp2_with fail
      go_loopw [9, 7] (fun k u wr => ∃ (n : Nat) (v : Value) (s : List S29), k = .int .i64 n ∧ v = u ∧ n ≤ l1.length ∧ Aside0 (MainRel W p n v s wr)) (fun k _ _ => l1.length + 1 - (intOf k).toNat)
      case atStart => exact ⟨0, _, _, rfl, rfl, by omega, HR5⟩
      case round =>
        clear HR5
        obtain ⟨n, v, s, rfl, rfl, hn, HR⟩ := hrel
        have d3 : decide ((n : Int) ≤ (l1.length : Int)) = true := decide_eq_true (by omega)
        obtain ⟨hA, hB, hs⟩ := HR.out
        have hgs := heap_goodH hA.swap
        have HGS := Aside0.mk hgs
        have HSL := Aside0.mk hs
        obtain ⟨Aw, cw, rfl, hcw, -⟩ := hA.reads (d := k29) (e := 29) (v := v) (xs := s) (by simp)
        have HA2 := Aside0.mk hA.swap
        have HB2 := Aside0.mk hB
        clear hA hB hs HR hgs
        go_wp2_with fail
        refine (all_calls HA2.out).mono ?_
        rintro e w3 ⟨va, rfl, hr, hb⟩
        have HA3 := Aside0.mk (HA2.out.row hb hr).swap
        have HB3 := Aside0.mk (HB2.out.trans (hb.mono HA2.out.size))
        clear hr hb HA2 HB2
        obtain ⟨Aa, ca, rfl, hca, -⟩ := HA3.out.reads (d := k29) (e := 29) (v := va) (xs := s) (by simp)
        go_wp2_with fail
        refine (min_calls HA3.out).mono ?_
        rintro e w4 ⟨rfl, hA, hB⟩
        have HA4 := Aside0.mk hA
        have HB4 := Aside0.mk (HB3.out.trans hB)
        clear hA hB HA3 HB3
        have hcase : s = [] ∨ ∃ x t, s = x :: t := by
          cases s with
          | nil => exact .inl rfl
          | cons x t => exact .inr ⟨x, t, rfl⟩
        rcases hcase with rfl | ⟨⟨x0, x1⟩, t, hst⟩
        · rw [show pairV (List.headD ([] : List S29) z29) (!List.isEmpty ([] : List S29)) = .tuple #[.agg #[.int .u32 0, .int .i64 0], .bool false] from rfl]
          have HA5 := Aside0.mk (HA4.out.box #[.int .u32 0, .int .i64 0] 29).swap
          have HB5 := Aside0.mk (HB4.out.alloc HA4.out.size (.cells #[.int .u32 0, .int .i64 0] 29))
          clear HA4 HB4
          go_wp2_with fail
          generalize w4.alloc (.cells #[.int .u32 0, .int .i64 0] 29) = w5 at HA5 HB5 ⊢
          generalize w4.heap.size = b at HA5 ⊢
          obtain ⟨q1, -, -, -⟩ := Has.box_cell HA5.out (b := b) (cs := #[.int .u32 0, .int .i64 0]) (t := 29) (by simp)
          have q10 : w5.cell? ⟨b, 0, none⟩ = some (.int .u32 0) := q1 0
          have q11 : w5.cell? ⟨b, 1, none⟩ = some (.int .i64 0) := q1 1
          clear q1
          have HSM : Aside0 (Calls Try.prog 19 #[.slice Aa 0 ca, .slice Aw 0 cw] w5.drew fun e w' => e = .returned (.bool true) ∧ ∃ n, w' = w5.drew.drewN n) := ⟨by have h := same_calls (s := []) (t := []) HA5.out.drew (v := .slice Aa 0 ca) (u := .slice Aw 0 cw) (by simp) (by simp) (by decide); rwa [decide_eq_true rfl] at h⟩
          have HLN : Aside0 (∀ n8, Calls Try.prog 16 #[ptr p] (w5.drew.drewN n8) fun e w' => e = .returned (.int .i64 0) ∧ w5.drew.drewN n8 = w') := ⟨fun n8 => len_calls (HA5.out.drew.drewN n8)⟩
          refine start_ (n := 37) (S := fun w' => w'.cell? ⟨b, 0, none⟩ = some (.int .u32 0) ∧ w'.cell? ⟨b, 1, none⟩ = some (.int .i64 0)) (ds := []) #[false, false, false, false, false, false, false, false, false, false, false, false, false, false, false, false, false, false, false, false, false, false, false, false, false, false, false, false, false, false, false, false, false, false, false, false, false] (by kernel_rfl) rfl rfl ⟨q10, q11⟩ (fun hHeld => ?_)
          refine pure_ (i := 0) (N := some 67) (v := ?_) (a' := ?_) #[true, false, false, false, false, false, false, false, false, false, false, false, false, false, false, false, false, false, false, false, false, false, false, false, false, false, false, false, false, false, false, false, false, false, false, false, false] rfl rfl (by kernel_rfl) (fun _ _ _ h => h) (Or.inl ⟨by rfl, ?_⟩) ?_ ?_
          rotate_left
          · intro w'
            go_simp
            with_reducible rfl
          rotate_left
          · simp only [Act.put, List.setIfInBounds_toArray, List.set_cons_zero, List.set_cons_succ, i64_w, i32_w]
            rfl
          refine pure_ (i := 1) (N := some 68) (v := ?_) (a' := ?_) #[true, true, false, false, false, false, false, false, false, false, false, false, false, false, false, false, false, false, false, false, false, false, false, false, false, false, false, false, false, false, false, false, false, false, false, false, false] rfl rfl (by kernel_rfl) (fun _ _ _ h => h) (Or.inl ⟨by rfl, ?_⟩) ?_ ?_
          rotate_left
          · intro w'
            go_simp
            with_reducible rfl
          rotate_left
          · simp only [Act.put, List.setIfInBounds_toArray, List.set_cons_zero, List.set_cons_succ, i64_w, i32_w]
            rfl
          refine one_ (i := 2) (N := some 69) #[true, true, true, false, false, false, false, false, false, false, false, false, false, false, false, false, false, false, false, false, false, false, false, false, false, false, false, false, false, false, false, false, false, false, false, false, false] rfl rfl (by kernel_rfl) (by decide) (fun K hK => ?_)
          refine goes_ Try.func19 (by kernel_rfl) rfl #[.slice Aa 0 ca, .slice Aw 0 cw] (by rfl) rfl rfl (by simp only [List.map_toArray, List.map_cons, List.map_nil]; rfl) ?_
          with_reducible refine (HSM.out).mono ?_
          rintro e w8 ⟨rfl, n8, rfl⟩
          refine ⟨_, rfl, ?_⟩
          refine hK.out _ _ ⟨q10, q11⟩ (fun hHeld => ?_)
          clear hK K
          refine norm_ (a' := ?_) ?_ ?_
          rotate_left
          · show Act.put _ (some 69) _ = _
            simp only [Act.put, List.setIfInBounds_toArray, List.set_cons_zero, List.set_cons_succ, i64_w, i32_w]
            rfl
          refine pure_ (i := 3) (N := some 70) (v := ?_) (a' := ?_) #[true, true, true, true, false, false, false, false, false, false, false, false, false, false, false, false, false, false, false, false, false, false, false, false, false, false, false, false, false, false, false, false, false, false, false, false, false] rfl rfl (by kernel_rfl) (fun _ _ _ h => h) (Or.inl ⟨by rfl, ?_⟩) ?_ ?_
          rotate_left
          · intro w'
            go_simp
            with_reducible rfl
          rotate_left
          · simp only [Act.put, List.setIfInBounds_toArray, List.set_cons_zero, List.set_cons_succ, i64_w, i32_w]
            rfl
          refine pure_ (i := 4) (N := some 71) (v := ?_) (a' := ?_) #[true, true, true, true, true, false, false, false, false, false, false, false, false, false, false, false, false, false, false, false, false, false, false, false, false, false, false, false, false, false, false, false, false, false, false, false, false] rfl rfl (by kernel_rfl) (fun _ _ _ h => h) (Or.inl ⟨by rfl, ?_⟩) ?_ ?_
          rotate_left
          · intro w'
            go_simp
            with_reducible rfl
          rotate_left
          · simp only [Act.put, List.setIfInBounds_toArray, List.set_cons_zero, List.set_cons_succ, i64_w, i32_w]
            rfl
          refine pure_ (i := 5) (N := some 72) (v := ?_) (a' := ?_) #[true, true, true, true, true, true, false, false, false, false, false, false, false, false, false, false, false, false, false, false, false, false, false, false, false, false, false, false, false, false, false, false, false, false, false, false, false] rfl rfl (by kernel_rfl) (fun _ _ _ h => h) (Or.inl ⟨by rfl, ?_⟩) ?_ ?_
          rotate_left
          · intro w'
            go_simp
            with_reducible rfl
          rotate_left
          · simp only [Act.put, List.setIfInBounds_toArray, List.set_cons_zero, List.set_cons_succ, i64_w, i32_w]
            rfl
          refine pure_ (i := 7) (N := some 74) (v := ?_) (a' := ?_) #[true, true, true, true, true, true, false, true, false, false, false, false, false, false, false, false, false, false, false, false, false, false, false, false, false, false, false, false, false, false, false, false, false, false, false, false, false] rfl rfl (by kernel_rfl) (fun _ _ _ h => h) (Or.inl ⟨by rfl, ?_⟩) ?_ ?_
          rotate_left
          · intro w'
            go_simp
            with_reducible rfl
          rotate_left
          · simp only [Act.put, List.setIfInBounds_toArray, List.set_cons_zero, List.set_cons_succ, i64_w, i32_w]
            rfl
          refine pure_ (i := 8) (N := some 75) (v := ?_) (a' := ?_) #[true, true, true, true, true, true, false, true, true, false, false, false, false, false, false, false, false, false, false, false, false, false, false, false, false, false, false, false, false, false, false, false, false, false, false, false, false] rfl rfl (by kernel_rfl) (fun _ _ _ h => h) (Or.inl ⟨by rfl, ?_⟩) ?_ ?_
          rotate_left
          · intro w'
            go_simp
            with_reducible rfl
          rotate_left
          · simp only [Act.put, List.setIfInBounds_toArray, List.set_cons_zero, List.set_cons_succ, i64_w, i32_w]
            rfl
          refine one_ (i := 6) (N := some 73) #[true, true, true, true, true, true, true, true, true, false, false, false, false, false, false, false, false, false, false, false, false, false, false, false, false, false, false, false, false, false, false, false, false, false, false, false, false] rfl rfl (by kernel_rfl) (by decide) (fun K hK => ?_)
          refine goes_ Try.func16 (by kernel_rfl) rfl #[ptr p] (by rfl) rfl rfl (by simp only [List.map_toArray, List.map_cons, List.map_nil]; rfl) ?_
          with_reducible refine (HLN.out n8).mono ?_
          rintro e w9 ⟨rfl, rfl⟩
          refine ⟨_, rfl, ?_⟩
          refine hK.out _ _ ⟨q10, q11⟩ (fun hHeld => ?_)
          clear hK K
          refine norm_ (a' := ?_) ?_ ?_
          rotate_left
          · show Act.put _ (some 73) _ = _
            simp only [Act.put, List.setIfInBounds_toArray, List.set_cons_zero, List.set_cons_succ, i64_w, i32_w]
            rfl
          refine pure_ (i := 9) (N := some 76) (v := ?_) (a' := ?_) #[true, true, true, true, true, true, true, true, true, true, false, false, false, false, false, false, false, false, false, false, false, false, false, false, false, false, false, false, false, false, false, false, false, false, false, false, false] rfl rfl (by kernel_rfl) (fun _ _ _ h => h) (Or.inl ⟨by rfl, ?_⟩) ?_ ?_
          rotate_left
          · intro w'
            go_simp
            with_reducible rfl
          rotate_left
          · simp only [Act.put, List.setIfInBounds_toArray, List.set_cons_zero, List.set_cons_succ, i64_w, i32_w]
            rfl
          refine pure_ (i := 10) (N := some 77) (v := ?_) (a' := ?_) #[true, true, true, true, true, true, true, true, true, true, true, false, false, false, false, false, false, false, false, false, false, false, false, false, false, false, false, false, false, false, false, false, false, false, false, false, false] rfl rfl (by kernel_rfl) (fun _ _ _ h => h) (Or.inl ⟨by rfl, ?_⟩) ?_ ?_
          rotate_left
          · intro w'
            go_simp
            with_reducible rfl
          rotate_left
          · simp only [Act.put, List.setIfInBounds_toArray, List.set_cons_zero, List.set_cons_succ, i64_w, i32_w]
            rfl
          refine pure_ (i := 11) (N := some 78) (v := ?_) (a' := ?_) #[true, true, true, true, true, true, true, true, true, true, true, true, false, false, false, false, false, false, false, false, false, false, false, false, false, false, false, false, false, false, false, false, false, false, false, false, false] rfl rfl (by kernel_rfl) (fun _ _ _ h => h) (Or.inl ⟨by rfl, ?_⟩) ?_ ?_
          rotate_left
          · intro w'
            go_simp
            with_reducible rfl
          rotate_left
          · simp only [Act.put, List.setIfInBounds_toArray, List.set_cons_zero, List.set_cons_succ, i64_w, i32_w]
            rfl
          refine pure_ (i := 12) (N := some 79) (v := ?_) (a' := ?_) #[true, true, true, true, true, true, true, true, true, true, true, true, true, false, false, false, false, false, false, false, false, false, false, false, false, false, false, false, false, false, false, false, false, false, false, false, false] rfl rfl (by kernel_rfl) (fun _ _ _ h => h) (Or.inl ⟨by rfl, ?_⟩) ?_ ?_
          rotate_left
          · intro w'
            go_simp
            with_reducible rfl
          rotate_left
          · simp only [Act.put, List.setIfInBounds_toArray, List.set_cons_zero, List.set_cons_succ, i64_w, i32_w]
            rfl
          refine pure_ (i := 13) (N := some 80) (v := ?_) (a' := ?_) #[true, true, true, true, true, true, true, true, true, true, true, true, true, true, false, false, false, false, false, false, false, false, false, false, false, false, false, false, false, false, false, false, false, false, false, false, false] rfl rfl (by kernel_rfl) (fun _ _ _ h => h) (Or.inl ⟨by rfl, ?_⟩) ?_ ?_
          rotate_left
          · intro w'
            go_simp
            with_reducible rfl
          rotate_left
          · simp only [Act.put, List.setIfInBounds_toArray, List.set_cons_zero, List.set_cons_succ, i64_w, i32_w]
            rfl
          refine pure_ (i := 14) (N := some 81) (v := ?_) (a' := ?_) #[true, true, true, true, true, true, true, true, true, true, true, true, true, true, true, false, false, false, false, false, false, false, false, false, false, false, false, false, false, false, false, false, false, false, false, false, false] rfl rfl (by kernel_rfl) (fun _ _ _ h => h) (Or.inl ⟨by rfl, ?_⟩) ?_ ?_
          rotate_left
          · intro w'
            go_simp
            with_reducible rfl
          rotate_left
          · simp only [Act.put, List.setIfInBounds_toArray, List.set_cons_zero, List.set_cons_succ, i64_w, i32_w]
            rfl
          refine pure_ (i := 15) (N := some 82) (v := ?_) (a' := ?_) #[true, true, true, true, true, true, true, true, true, true, true, true, true, true, true, true, false, false, false, false, false, false, false, false, false, false, false, false, false, false, false, false, false, false, false, false, false] rfl rfl (by kernel_rfl) (fun _ _ _ h => h) (Or.inl ⟨by rfl, ?_⟩) ?_ ?_
          rotate_left
          · intro w'
            go_simp
            with_reducible rfl
          rotate_left
          · simp only [Act.put, List.setIfInBounds_toArray, List.set_cons_zero, List.set_cons_succ, i64_w, i32_w]
            rfl
          refine pure_ (i := 16) (N := some 83) (v := ?_) (a' := ?_) #[true, true, true, true, true, true, true, true, true, true, true, true, true, true, true, true, true, false, false, false, false, false, false, false, false, false, false, false, false, false, false, false, false, false, false, false, false] rfl rfl (by kernel_rfl) (fun _ _ _ h => h) (Or.inl ⟨by rfl, ?_⟩) ?_ ?_
          rotate_left
          · intro w'
            go_simp
            with_reducible rfl
          rotate_left
          · simp only [Act.put, List.setIfInBounds_toArray, List.set_cons_zero, List.set_cons_succ, i64_w, i32_w]
            rfl
          refine pure_ (i := 17) (N := some 84) (v := ?_) (a' := ?_) #[true, true, true, true, true, true, true, true, true, true, true, true, true, true, true, true, true, true, false, false, false, false, false, false, false, false, false, false, false, false, false, false, false, false, false, false, false] rfl rfl (by kernel_rfl) (fun _ _ _ h => h) (Or.inl ⟨by rfl, ?_⟩) ?_ ?_
          rotate_left
          · intro w'
            go_simp
            with_reducible rfl
          rotate_left
          · simp only [Act.put, List.setIfInBounds_toArray, List.set_cons_zero, List.set_cons_succ, i64_w, i32_w]
            rfl
          refine pure_ (i := 18) (N := some 85) (v := ?_) (a' := ?_) #[true, true, true, true, true, true, true, true, true, true, true, true, true, true, true, true, true, true, true, false, false, false, false, false, false, false, false, false, false, false, false, false, false, false, false, false, false] rfl rfl (by kernel_rfl) (fun _ _ _ h => h) (Or.inl ⟨by rfl, ?_⟩) ?_ ?_
          rotate_left
          · intro w'
            go_simp
            with_reducible rfl
          rotate_left
          · simp only [Act.put, List.setIfInBounds_toArray, List.set_cons_zero, List.set_cons_succ, i64_w, i32_w]
            rfl
          refine pure_ (i := 19) (N := some 86) (v := ?_) (a' := ?_) #[true, true, true, true, true, true, true, true, true, true, true, true, true, true, true, true, true, true, true, true, false, false, false, false, false, false, false, false, false, false, false, false, false, false, false, false, false] rfl rfl (by kernel_rfl) (fun _ _ _ h => h) (Or.inl ⟨by rfl, ?_⟩) ?_ ?_
          rotate_left
          · intro w'
            go_simp
            with_reducible rfl
          rotate_left
          · simp only [Act.put, List.setIfInBounds_toArray, List.set_cons_zero, List.set_cons_succ, i64_w, i32_w]
            rfl
          refine pure_ (i := 20) (N := some 87) (v := ?_) (a' := ?_) #[true, true, true, true, true, true, true, true, true, true, true, true, true, true, true, true, true, true, true, true, true, false, false, false, false, false, false, false, false, false, false, false, false, false, false, false, false] rfl rfl (by kernel_rfl) (fun _ _ _ h => h) (Or.inl ⟨by rfl, ?_⟩) ?_ ?_
          rotate_left
          · intro w'
            go_simp
            with_reducible rfl
          rotate_left
          · simp only [Act.put, List.setIfInBounds_toArray, List.set_cons_zero, List.set_cons_succ, i64_w, i32_w]
            rfl
          refine pure_ (i := 21) (N := some 88) (v := undef) (a' := ?_) #[true, true, true, true, true, true, true, true, true, true, true, true, true, true, true, true, true, true, true, true, true, true, false, false, false, false, false, false, false, false, false, false, false, false, false, false, false] rfl rfl (by kernel_rfl) (fun _ _ _ h => h) (Or.inr ⟨by rfl, rfl⟩) ?_ ?_
          rotate_left
          · simp only [Act.put, List.setIfInBounds_toArray, List.set_cons_zero, List.set_cons_succ, i64_w, i32_w]
            rfl
          refine pure_ (i := 22) (N := some 89) (v := undef) (a' := ?_) #[true, true, true, true, true, true, true, true, true, true, true, true, true, true, true, true, true, true, true, true, true, true, true, false, false, false, false, false, false, false, false, false, false, false, false, false, false] rfl rfl (by kernel_rfl) (fun _ _ _ h => h) (Or.inr ⟨by rfl, rfl⟩) ?_ ?_
          rotate_left
          · simp only [Act.put, List.setIfInBounds_toArray, List.set_cons_zero, List.set_cons_succ, i64_w, i32_w]
            rfl
          refine pure_ (i := 23) (N := some 90) (v := undef) (a' := ?_) #[true, true, true, true, true, true, true, true, true, true, true, true, true, true, true, true, true, true, true, true, true, true, true, true, false, false, false, false, false, false, false, false, false, false, false, false, false] rfl rfl (by kernel_rfl) (fun _ _ _ h => h) (Or.inr ⟨by rfl, rfl⟩) ?_ ?_
          rotate_left
          · simp only [Act.put, List.setIfInBounds_toArray, List.set_cons_zero, List.set_cons_succ, i64_w, i32_w]
            rfl
          refine pure_ (i := 24) (N := some 91) (v := undef) (a' := ?_) #[true, true, true, true, true, true, true, true, true, true, true, true, true, true, true, true, true, true, true, true, true, true, true, true, true, false, false, false, false, false, false, false, false, false, false, false, false] rfl rfl (by kernel_rfl) (fun _ _ _ h => h) (Or.inr ⟨by rfl, rfl⟩) ?_ ?_
          rotate_left
          · simp only [Act.put, List.setIfInBounds_toArray, List.set_cons_zero, List.set_cons_succ, i64_w, i32_w]
            rfl
          refine pure_ (i := 25) (N := some 92) (v := undef) (a' := ?_) #[true, true, true, true, true, true, true, true, true, true, true, true, true, true, true, true, true, true, true, true, true, true, true, true, true, true, false, false, false, false, false, false, false, false, false, false, false] rfl rfl (by kernel_rfl) (fun _ _ _ h => h) (Or.inr ⟨by rfl, rfl⟩) ?_ ?_
          rotate_left
          · simp only [Act.put, List.setIfInBounds_toArray, List.set_cons_zero, List.set_cons_succ, i64_w, i32_w]
            rfl
          refine pure_ (i := 26) (N := some 93) (v := ?_) (a' := ?_) #[true, true, true, true, true, true, true, true, true, true, true, true, true, true, true, true, true, true, true, true, true, true, true, true, true, true, true, false, false, false, false, false, false, false, false, false, false] rfl rfl (by kernel_rfl) (fun _ _ _ h => h) (Or.inl ⟨by rfl, ?_⟩) ?_ ?_
          rotate_left
          · intro w'
            go_simp
            with_reducible rfl
          rotate_left
          · simp only [Act.put, List.setIfInBounds_toArray, List.set_cons_zero, List.set_cons_succ, i64_w, i32_w]
            rfl
          refine pure_ (i := 27) (N := some 94) (v := ?_) (a' := ?_) #[true, true, true, true, true, true, true, true, true, true, true, true, true, true, true, true, true, true, true, true, true, true, true, true, true, true, true, true, false, false, false, false, false, false, false, false, false] rfl rfl (by kernel_rfl) (fun _ _ _ h => h) (Or.inl ⟨by rfl, ?_⟩) ?_ ?_
          rotate_left
          · intro w'
            go_simp
            with_reducible rfl
          rotate_left
          · simp only [Act.put, List.setIfInBounds_toArray, List.set_cons_zero, List.set_cons_succ, i64_w, i32_w]
            rfl
          refine pure_ (i := 28) (N := some 95) (v := ?_) (a' := ?_) #[true, true, true, true, true, true, true, true, true, true, true, true, true, true, true, true, true, true, true, true, true, true, true, true, true, true, true, true, true, false, false, false, false, false, false, false, false] rfl rfl (by kernel_rfl) (fun _ _ _ h => h) (Or.inl ⟨by rfl, ?_⟩) ?_ ?_
          rotate_left
          · intro w'
            go_simp
            with_reducible rfl
          rotate_left
          · simp only [Act.put, List.setIfInBounds_toArray, List.set_cons_zero, List.set_cons_succ, i64_w, i32_w]
            rfl
          refine pure_ (i := 29) (N := some 96) (v := ?_) (a' := ?_) #[true, true, true, true, true, true, true, true, true, true, true, true, true, true, true, true, true, true, true, true, true, true, true, true, true, true, true, true, true, true, false, false, false, false, false, false, false] rfl rfl (by kernel_rfl) (fun _ _ _ h => h) (Or.inl ⟨by rfl, ?_⟩) ?_ ?_
          rotate_left
          · intro w'
            go_simp
            with_reducible rfl
          rotate_left
          · simp only [Act.put, List.setIfInBounds_toArray, List.set_cons_zero, List.set_cons_succ, i64_w, i32_w]
            rfl
          refine pure_ (i := 30) (N := some 97) (v := ?_) (a' := ?_) #[true, true, true, true, true, true, true, true, true, true, true, true, true, true, true, true, true, true, true, true, true, true, true, true, true, true, true, true, true, true, true, false, false, false, false, false, false] rfl rfl (by kernel_rfl) (fun _ _ _ h => h) (Or.inl ⟨by rfl, ?_⟩) ?_ ?_
          rotate_left
          · intro w'
            go_simp
            with_reducible rfl
          rotate_left
          · simp only [Act.put, List.setIfInBounds_toArray, List.set_cons_zero, List.set_cons_succ, i64_w, i32_w]
            rfl
          refine pure_ (i := 31) (N := some 98) (v := ?_) (a' := ?_) #[true, true, true, true, true, true, true, true, true, true, true, true, true, true, true, true, true, true, true, true, true, true, true, true, true, true, true, true, true, true, true, true, false, false, false, false, false] rfl rfl (by kernel_rfl) (fun _ _ _ h => h) (Or.inl ⟨by rfl, ?_⟩) ?_ ?_
          rotate_left
          · intro w'
            go_simp
            with_reducible rfl
          rotate_left
          · simp only [Act.put, List.setIfInBounds_toArray, List.set_cons_zero, List.set_cons_succ, i64_w, i32_w]
            rfl
          refine pure_ (i := 33) (N := some 100) (v := ?_) (a' := ?_) #[true, true, true, true, true, true, true, true, true, true, true, true, true, true, true, true, true, true, true, true, true, true, true, true, true, true, true, true, true, true, true, true, false, true, false, false, false] rfl rfl (by kernel_rfl) (fun _ _ _ h => h) (Or.inl ⟨by rfl, ?_⟩) ?_ ?_
          rotate_left
          · intro w'
            go_simp
            with_reducible rfl
          rotate_left
          · simp only [Act.put, List.setIfInBounds_toArray, List.set_cons_zero, List.set_cons_succ, i64_w, i32_w]
            rfl
          refine take_ (i := 32) (N := some 99) (v := ?_) (a' := ?_) #[true, true, true, true, true, true, true, true, true, true, true, true, true, true, true, true, true, true, true, true, true, true, true, true, true, true, true, true, true, true, true, true, true, true, false, false, false] rfl rfl (by kernel_rfl) (fun _ _ _ h => h) (Or.inl ⟨by rfl, ?_⟩) hHeld ?_ ?_
          rotate_left
          · rintro w' ⟨s0, s1⟩
            go_simp
            with_reducible rfl
          rotate_left
          · simp only [Act.put, List.setIfInBounds_toArray, List.set_cons_zero, List.set_cons_succ, i64_w, i32_w]
            rfl
          refine pure_ (i := 34) (N := some 101) (v := ?_) (a' := ?_) #[true, true, true, true, true, true, true, true, true, true, true, true, true, true, true, true, true, true, true, true, true, true, true, true, true, true, true, true, true, true, true, true, true, true, true, false, false] rfl rfl (by kernel_rfl) (fun _ _ _ h => h) (Or.inl ⟨by rfl, ?_⟩) ?_ ?_
          rotate_left
          · intro w'
            go_simp
            with_reducible rfl
          rotate_left
          · simp only [Act.put, List.setIfInBounds_toArray, List.set_cons_zero, List.set_cons_succ, i64_w, i32_w]
            rfl
          refine pure_ (i := 35) (N := some 102) (v := ?_) (a' := ?_) #[true, true, true, true, true, true, true, true, true, true, true, true, true, true, true, true, true, true, true, true, true, true, true, true, true, true, true, true, true, true, true, true, true, true, true, true, false] rfl rfl (by kernel_rfl) (fun _ _ _ h => h) (Or.inl ⟨by rfl, ?_⟩) ?_ ?_
          rotate_left
          · intro w'
            go_simp
            with_reducible rfl
          rotate_left
          · simp only [Act.put, List.setIfInBounds_toArray, List.set_cons_zero, List.set_cons_succ, i64_w, i32_w]
            rfl
          refine pure_ (i := 36) (N := some 103) (v := ?_) (a' := ?_) #[true, true, true, true, true, true, true, true, true, true, true, true, true, true, true, true, true, true, true, true, true, true, true, true, true, true, true, true, true, true, true, true, true, true, true, true, true] rfl rfl (by kernel_rfl) (fun _ _ _ h => h) (Or.inl ⟨by rfl, ?_⟩) ?_ ?_
          rotate_left
          · intro w'
            go_simp
            with_reducible rfl
          rotate_left
          · simp only [Act.put, List.setIfInBounds_toArray, List.set_cons_zero, List.set_cons_succ, i64_w, i32_w]
            rfl
          refine done_ (by kernel_rfl) ?_

          clear HSM HLN q10 q11
          have HA8 : Aside0 (∃ m : List S29, m.length = ([] : List S29).length ∧ Has W.heap.size (w5.drew.drewN n8) [rowT k29 29 (.slice Aa 0 ca) m, heapT p ([] : List S29), boxT b #[.int .u32 0, .int .i64 0] 29, rowT k29 29 (.slice Aw 0 cw) ([] : List S29)]) := ⟨⟨([] : List S29), rfl, (HA5.out.drew.drewN n8).third⟩⟩
          have HB8 : Aside0 (Below W.heap.size W (w5.drew.drewN n8)) := ⟨pw_below_drewN (below_drew HB5.out) n8⟩
          generalize w5.drew.drewN n8 = w8 at HA8 HB8 ⊢
          clear HA5 HB5
          go_wp2_with fail
          go_loopw [13] (fun k wr => ∃ j : Nat, k = .int .i64 j ∧ j ≤ 0 ∧ Aside0 (∃ m : List S29, m.length = ([] : List S29).length ∧ Has W.heap.size wr [rowT k29 29 (.slice Aa 0 ca) m, heapT p ([] : List S29), boxT b #[.int .u32 0, .int .i64 0] 29, rowT k29 29 (.slice Aw 0 cw) ([] : List S29)]) ∧ Aside0 (Below W.heap.size W wr)) (fun k _ => 0 - (intOf k).toNat)
          case atStart => exact ⟨0, rfl, by omega, HA8, HB8⟩
          case round =>
            clear HA8 HB8
            obtain ⟨j, rfl, hj, HA, HB⟩ := hrel
            by_cases hjt : j < 0
            · omega
            · have d5 : decide ((j : Int) < 0) = false := decide_eq_false (by omega)
              have d6 : ¬ (j : Int) < 0 := by omega
              have HA9 : Aside0 (Has W.heap.size wr [heapT p ([] : List S29), boxT b #[.int .u32 0, .int .i64 0] 29, rowT k29 29 (.slice Aw 0 cw) ([] : List S29)]) := ⟨by obtain ⟨m, hm, hA⟩ := HA.out; exact hA.tail⟩
              clear HA
              by_cases hnl : n = l1.length
              · have e9 : ((n : Int) == (l1.length : Int)) = true := beq_iff_eq.2 (by omega)
                have HBX := HB
                clear HB HA9 hnl
                go_wp2_with fail
                go_ret
                exact ⟨rfl, HBX.out⟩
              · have e9 : ((n : Int) == (l1.length : Int)) = false := beq_eq_false_iff_ne.2 (by omega)
                have hnt : n < l1.length := by omega
                have d7 : (n : Int) < (l1.length : Int) := by omega
                obtain ⟨ad1, rfl, ha2, ha3, ha4⟩ := at_T49 HD.out (n : Int) (by omega) (by omega)
                rw [Int.toNat_natCast] at ha2 ha3 ha4
                have p2 := pw_cell_below HB.out ha2
                have p3 := pw_cell_below HB.out ha3
                have p4 := pw_cell_below HB.out ha4
                have hym : rd_T49 l1 (n : Int) ∈ l1 := by
                  unfold rd_T49
                  rw [Int.toNat_natCast, List.getD_eq_getElem?_getD, List.getElem?_eq_getElem hnt]
                  exact List.getElem_mem hnt
                have hy := HG1.out _ hym
                generalize rd_T49 l1 (n : Int) = a at p2 p3 p4 ha2 ha3 ha4 hy hym
                obtain ⟨kd, y0, y1⟩ := a
                dsimp only at p2 p3 p4 hy
                have HY := Aside0.mk hy
                clear ha2 ha3 ha4 hym hy hnl
                by_cases h0 : kd = 0
                · subst h0
                  have HA10 := Aside0.mk ((HA9.out.third.box #[.int .i64 0, .int .u32 y0, .int .i64 y1] 49).swap)
                  have HB10 := Aside0.mk (HB.out.alloc HA9.out.size (.cells #[.int .i64 0, .int .u32 y0, .int .i64 y1] 49))
                  have HW := Aside0.mk (with_calls HA10.out HB10.out ⟨y0, y1⟩ HY.out HGS.out.good HGS.out.few)
                  clear HA9 HB
                  go_wp2_with fail
                  generalize wr.alloc (.cells #[.int .i64 0, .int .u32 y0, .int .i64 y1] 49) = w10 at HA10 HB10 HW ⊢
                  generalize wr.heap.size = ba at HA10 HW ⊢
                  refine HW.out.mono ?_
                  rintro e w11 ⟨v11, rfl, hA11, hB11⟩
                  have HA11 := Aside0.mk hA11.third
                  have HB11 := Aside0.mk hB11
                  clear hA11 hB11 HW HA10 HB10 p2 p3 p4
                  have q1 := (Has.box_cell HA11.out (b := ba) (cs := #[.int .i64 0, .int .u32 y0, .int .i64 y1]) (t := 49) (by simp)).1
                  have r1 : w11.cell? ⟨ba, 1, none⟩ = some (.int .u32 y0) := q1 1
                  have r2 : w11.cell? ⟨ba, 2, none⟩ = some (.int .i64 y1) := q1 2
                  have hs4 : ([] : List S29).length < 1000000 := by have := HSL.out; omega
                  have HP := Aside0.mk (push_calls HA11.out ⟨y0, y1⟩ HY.out hs4)
                  have hpl := push_length ([] : List S29) ⟨y0, y1⟩
                  have HPL : Aside0 ((pushS ([] : List S29) ⟨y0, y1⟩).length ≤ 300 + (n + 1)) := ⟨by have := HSL.out; omega⟩
                  generalize pushE ([] : List S29) ⟨y0, y1⟩ = pe at HP ⊢
                  clear q1 hs4 hpl
                  go_wp2_with fail
                  refine HP.out.mono ?_
                  rintro e w12 ⟨rfl, hA12, hB12⟩
                  have HR12 : Aside0 (MainRel W p (n + 1) v11 (pushS ([] : List S29) ⟨y0, y1⟩) w12) := ⟨hA12.third.tail.third.tail.swap, HB11.out.trans hB12, HPL.out⟩
                  clear hA12 hB12 HP HA11 HB11 r1 r2 HPL
                  go_wp2_with fail
                  go_roundw
                  case rel => exact ⟨n + 1, v11, pushS ([] : List S29) ⟨y0, y1⟩, rfl, rfl, by omega, HR12⟩
                  case measure => simp [intOf]; omega
                have e0 : (kd == 0) = false := beq_eq_false_iff_ne.2 h0
                by_cases h1 : kd = 1
                · subst h1
                  have HA10 := Aside0.mk ((HA9.out.third.box #[.int .i64 1, .int .u32 y0, .int .i64 y1] 49).swap)
                  have HB10 := Aside0.mk (HB.out.alloc HA9.out.size (.cells #[.int .i64 1, .int .u32 y0, .int .i64 y1] 49))
                  have HW := Aside0.mk (with_calls HA10.out HB10.out ⟨y0, y1⟩ HY.out HGS.out.good HGS.out.few)
                  clear HA9 HB
                  go_wp2_with fail
                  generalize wr.alloc (.cells #[.int .i64 1, .int .u32 y0, .int .i64 y1] 49) = w10 at HA10 HB10 HW ⊢
                  generalize wr.heap.size = ba at HA10 HW ⊢
                  refine HW.out.mono ?_
                  rintro e w11 ⟨v11, rfl, hA11, hB11⟩
                  have HA11 := Aside0.mk hA11.third
                  have HB11 := Aside0.mk hB11
                  clear hA11 hB11 HW HA10 HB10 p2 p3 p4
                  have q1 := (Has.box_cell HA11.out (b := ba) (cs := #[.int .i64 1, .int .u32 y0, .int .i64 y1]) (t := 49) (by simp)).1
                  have r1 : w11.cell? ⟨ba, 1, none⟩ = some (.int .u32 y0) := q1 1
                  have r2 : w11.cell? ⟨ba, 2, none⟩ = some (.int .i64 y1) := q1 2
                  have hs4 : ([] : List S29).length < 1000000 := by have := HSL.out; omega
                  have HP := Aside0.mk (push_calls HA11.out ⟨y0, y1⟩ HY.out hs4)
                  have hpl := push_length ([] : List S29) ⟨y0, y1⟩
                  have HPL : Aside0 ((pushS ([] : List S29) ⟨y0, y1⟩).length ≤ 300 + (n + 1)) := ⟨by have := HSL.out; omega⟩
                  generalize pushE ([] : List S29) ⟨y0, y1⟩ = pe at HP ⊢
                  clear q1 hs4 hpl
                  go_wp2_with fail
                  refine HP.out.mono ?_
                  rintro e w12 ⟨rfl, hA12, hB12⟩
                  have HR12 : Aside0 (MainRel W p (n + 1) v11 (pushS ([] : List S29) ⟨y0, y1⟩) w12) := ⟨hA12.third.tail.third.tail.swap, HB11.out.trans hB12, HPL.out⟩
                  clear hA12 hB12 HP HA11 HB11 r1 r2 HPL
                  go_wp2_with fail
                  go_roundw
                  case rel => exact ⟨n + 1, v11, pushS ([] : List S29) ⟨y0, y1⟩, rfl, rfl, by omega, HR12⟩
                  case measure => simp [intOf]; omega
                have e1 : (kd == 1) = false := beq_eq_false_iff_ne.2 h1
                by_cases h2 : kd = 2
                · subst h2
                  have HA10 := Aside0.mk ((HA9.out.box #[.int .i64 2, .int .u32 y0, .int .i64 y1] 49).swap)
                  have HB10 := Aside0.mk (HB.out.alloc HA9.out.size (.cells #[.int .i64 2, .int .u32 y0, .int .i64 y1] 49))
                  have HP := Aside0.mk (pop_calls HA10.out)
                  rw [show pairV (List.headD ([] : List S29) z29) (!List.isEmpty ([] : List S29)) = .tuple #[.agg #[.int .u32 0, .int .i64 0], .bool false] by rfl] at HP
                  clear HA9 HB
                  go_wp2_with fail
                  generalize wr.alloc (.cells #[.int .i64 2, .int .u32 y0, .int .i64 y1] 49) = w10 at HA10 HB10 HP ⊢
                  generalize wr.heap.size = ba at HA10 HP ⊢
                  refine HP.out.mono ?_
                  rintro e w11 ⟨rfl, hA11, hB11⟩
                  have HA12 := Aside0.mk (hA11.box #[.int .u32 0, .int .i64 0] 29)
                  have HB12 := Aside0.mk ((HB10.out.trans hB11).alloc hA11.size (.cells #[.int .u32 0, .int .i64 0] 29))
                  obtain ⟨q1, -, q3, -⟩ := Has.box_cell hA11 (b := b) (cs := #[.int .u32 0, .int .i64 0]) (t := 29) (by simp)
                  have r1 : w11.cell? ⟨b, 0, none⟩ = some (.int .u32 0) := q1 0
                  have r2 : w11.cell? ⟨b, 1, none⟩ = some (.int .i64 0) := q1 1
                  clear q1 hA11 hB11 HP HA10 HB10 p2 p3 p4
                  go_wp2_with fail
                  have HR13 : Aside0 (MainRel W p (n + 1) (.slice Aw 0 cw) [] (w11.alloc (.cells #[.int .u32 0, .int .i64 0] 29))) := ⟨keep2 HA12.out, HB12.out, by simp⟩
                  go_roundw
                  case rel => exact ⟨n + 1, _, [], rfl, rfl, by omega, HR13⟩
                  case measure => simp [intOf]; omega
                have e2 : (kd == 2) = false := beq_eq_false_iff_ne.2 h2
                by_cases h3 : kd = 3
                · subst h3
                  have HA10 := Aside0.mk ((HA9.out.box #[.int .i64 3, .int .u32 y0, .int .i64 y1] 49).swap)
                  have HB10 := Aside0.mk (HB.out.alloc HA9.out.size (.cells #[.int .i64 3, .int .u32 y0, .int .i64 y1] 49))
                  clear HA9 HB
                  go_wp2_with fail
                  generalize wr.alloc (.cells #[.int .i64 3, .int .u32 y0, .int .i64 y1] 49) = w10 at HA10 HB10 ⊢
                  generalize wr.heap.size = ba at HA10 ⊢
                  clear p2 p3 p4
                  have q1 := (Has.box_cell HA10.out (b := ba) (cs := #[.int .i64 3, .int .u32 y0, .int .i64 y1]) (t := 49) (by simp)).1
                  have r1 : w10.cell? ⟨ba, 1, none⟩ = some (.int .u32 y0) := q1 1
                  clear q1
                  have hs4 : ([] : List S29).length ≤ 1000000 := HGS.out.few
                  have HRM := Aside0.mk (remove_calls HA10.out.drew y0)
                  have HHS : Aside0 (∀ w11, Has W.heap.size w11 [heapT p (withoutL ([] : List S29) y0), boxT ba #[.int .i64 3, .int .u32 y0, .int .i64 y1] 49, boxT b #[.int .u32 0, .int .i64 0] 29, rowT k29 29 (.slice Aw 0 cw) ([] : List S29)] → Calls Try.prog 20 #[.slice Aw 0 cw, .int .u32 y0] w11 fun e w' => e = .returned (.bool (hasL ([] : List S29) y0)) ∧ ∃ n, w' = w11.drewN n) := ⟨fun w11 h => has_calls (s := ([] : List S29)) h (by simp) hs4 y0⟩
                  have HWO : Aside0 (∀ w11, Has W.heap.size w11 [heapT p (withoutL ([] : List S29) y0), boxT ba #[.int .i64 3, .int .u32 y0, .int .i64 y1] 49, boxT b #[.int .u32 0, .int .i64 0] 29, rowT k29 29 (.slice Aw 0 cw) ([] : List S29)] → Calls Try.prog 23 #[.slice Aw 0 cw, .int .u32 y0] w11 (RowPost w11 (withoutL ([] : List S29) y0))) := ⟨fun w11 h => without_calls (s := ([] : List S29)) h (by simp) hs4 y0⟩
                  generalize hasL ([] : List S29) y0 = hh at HRM HHS
                  clear hs4
                  refine start_ (n := 11) (S := fun w' => w'.cell? ⟨ba, 1, none⟩ = some (.int .u32 y0)) (ds := []) #[false, false, false, false, false, false, false, false, false, false, false] (by kernel_rfl) rfl rfl (r1) (fun hHeld => ?_)
                  refine pure_ (i := 0) (N := some 162) (v := ?_) (a' := ?_) #[true, false, false, false, false, false, false, false, false, false, false] rfl rfl (by kernel_rfl) (fun _ _ _ h => h) (Or.inl ⟨by rfl, ?_⟩) ?_ ?_
                  rotate_left
                  · intro w'
                    go_simp
                    with_reducible rfl
                  rotate_left
                  · simp only [Act.put, List.setIfInBounds_toArray, List.set_cons_zero, List.set_cons_succ, i64_w, i32_w]
                    rfl
                  refine pure_ (i := 1) (N := some 163) (v := ?_) (a' := ?_) #[true, true, false, false, false, false, false, false, false, false, false] rfl rfl (by kernel_rfl) (fun _ _ _ h => h) (Or.inl ⟨by rfl, ?_⟩) ?_ ?_
                  rotate_left
                  · intro w'
                    go_simp
                    with_reducible rfl
                  rotate_left
                  · simp only [Act.put, List.setIfInBounds_toArray, List.set_cons_zero, List.set_cons_succ, i64_w, i32_w]
                    rfl
                  refine pure_ (i := 2) (N := some 164) (v := ?_) (a' := ?_) #[true, true, true, false, false, false, false, false, false, false, false] rfl rfl (by kernel_rfl) (fun _ _ _ h => h) (Or.inl ⟨by rfl, ?_⟩) ?_ ?_
                  rotate_left
                  · intro w'
                    go_simp
                    with_reducible rfl
                  rotate_left
                  · simp only [Act.put, List.setIfInBounds_toArray, List.set_cons_zero, List.set_cons_succ, i64_w, i32_w]
                    rfl
                  refine pure_ (i := 5) (N := some 167) (v := ?_) (a' := ?_) #[true, true, true, false, false, true, false, false, false, false, false] rfl rfl (by kernel_rfl) (fun _ _ _ h => h) (Or.inl ⟨by rfl, ?_⟩) ?_ ?_
                  rotate_left
                  · intro w'
                    go_simp
                    with_reducible rfl
                  rotate_left
                  · simp only [Act.put, List.setIfInBounds_toArray, List.set_cons_zero, List.set_cons_succ, i64_w, i32_w]
                    rfl
                  refine pure_ (i := 6) (N := some 168) (v := ?_) (a' := ?_) #[true, true, true, false, false, true, true, false, false, false, false] rfl rfl (by kernel_rfl) (fun _ _ _ h => h) (Or.inl ⟨by rfl, ?_⟩) ?_ ?_
                  rotate_left
                  · intro w'
                    go_simp
                    with_reducible rfl
                  rotate_left
                  · simp only [Act.put, List.setIfInBounds_toArray, List.set_cons_zero, List.set_cons_succ, i64_w, i32_w]
                    rfl
                  refine pure_ (i := 7) (N := some 169) (v := ?_) (a' := ?_) #[true, true, true, false, false, true, true, true, false, false, false] rfl rfl (by kernel_rfl) (fun _ _ _ h => h) (Or.inl ⟨by rfl, ?_⟩) ?_ ?_
                  rotate_left
                  · intro w'
                    go_simp
                    with_reducible rfl
                  rotate_left
                  · simp only [Act.put, List.setIfInBounds_toArray, List.set_cons_zero, List.set_cons_succ, i64_w, i32_w]
                    rfl
                  refine take_ (i := 3) (N := some 165) (v := ?_) (a' := ?_) #[true, true, true, true, false, true, true, true, false, false, false] rfl rfl (by kernel_rfl) (fun _ _ _ h => h) (Or.inl ⟨by rfl, ?_⟩) hHeld ?_ ?_
                  rotate_left
                  · intro w' s0
                    go_simp
                    with_reducible rfl
                  rotate_left
                  · simp only [Act.put, List.setIfInBounds_toArray, List.set_cons_zero, List.set_cons_succ, i64_w, i32_w]
                    rfl
                  refine take_ (i := 8) (N := some 170) (v := ?_) (a' := ?_) #[true, true, true, true, false, true, true, true, true, false, false] rfl rfl (by kernel_rfl) (fun _ _ _ h => h) (Or.inl ⟨by rfl, ?_⟩) hHeld ?_ ?_
                  rotate_left
                  · intro w' s0
                    go_simp
                    with_reducible rfl
                  rotate_left
                  · simp only [Act.put, List.setIfInBounds_toArray, List.set_cons_zero, List.set_cons_succ, i64_w, i32_w]
                    rfl
                  refine one_ (i := 4) (N := some 166) #[true, true, true, true, true, true, true, true, true, false, false] rfl rfl (by kernel_rfl) (by decide) (fun K hK => ?_)
                  refine goes_ Try.func15 (by kernel_rfl) rfl #[ptr p, .int .u32 y0] (by rfl) rfl rfl (by simp only [List.map_toArray, List.map_cons, List.map_nil]; rfl) ?_
                  with_reducible refine (HRM.out).mono ?_
                  rintro e w11 ⟨rfl, hA11, hB11⟩
                  refine ⟨_, rfl, ?_⟩
                  have s1 : w11.cell? ⟨ba, 1, none⟩ = some (.int .u32 y0) := (Has.box_cell hA11 (b := ba) (cs := #[.int .i64 3, .int .u32 y0, .int .i64 y1]) (t := 49) (by simp)).1 1
                  refine hK.out _ _ (s1) (fun hHeld => ?_)
                  clear hK K
                  refine norm_ (a' := ?_) ?_ ?_
                  rotate_left
                  · show Act.put _ (some 166) _ = _
                    simp only [Act.put, List.setIfInBounds_toArray, List.set_cons_zero, List.set_cons_succ, i64_w, i32_w]
                    rfl
                  refine one_ (i := 9) (N := some 171) #[true, true, true, true, true, true, true, true, true, true, false] rfl rfl (by kernel_rfl) (by decide) (fun K hK => ?_)
                  refine goes_ Try.func20 (by kernel_rfl) rfl #[.slice Aw 0 cw, .int .u32 y0] (by rfl) rfl rfl (by simp only [List.map_toArray, List.map_cons, List.map_nil]; rfl) ?_
                  with_reducible refine (HHS.out _ hA11).mono ?_
                  rintro e w12 ⟨rfl, n12, rfl⟩
                  refine ⟨_, rfl, ?_⟩
                  refine hK.out _ _ (s1) (fun hHeld => ?_)
                  clear hK K
                  refine norm_ (a' := ?_) ?_ ?_
                  rotate_left
                  · show Act.put _ (some 171) _ = _
                    simp only [Act.put, List.setIfInBounds_toArray, List.set_cons_zero, List.set_cons_succ, i64_w, i32_w]
                    rfl
                  refine pure_ (i := 10) (N := some 172) (v := ?_) (a' := ?_) #[true, true, true, true, true, true, true, true, true, true, true] rfl rfl (by kernel_rfl) (fun _ _ _ h => h) (Or.inl ⟨by rfl, ?_⟩) ?_ ?_
                  rotate_left
                  · intro w'
                    go_simp
                    with_reducible rfl
                  rotate_left
                  · simp only [Act.put, List.setIfInBounds_toArray, List.set_cons_zero, List.set_cons_succ, i64_w, i32_w]
                    rfl
                  refine done_ (by kernel_rfl) ?_

                  have HA12 := Aside0.mk (hA11.drewN n12)
                  have HB12 := Aside0.mk (pw_below_drewN ((below_drew HB10.out).trans hB11) n12)
                  have s2 : (w11.drewN n12).cell? ⟨ba, 1, none⟩ = some (.int .u32 y0) := s1
                  generalize w11.drewN n12 = w12 at HA12 HB12 s2 ⊢
                  clear hA11 hB11 s1 r1 HA10 HB10 HRM HHS
                  go_wp2_with fail
                  refine (HWO.out _ HA12.out).mono ?_
                  rintro e w13 ⟨v13, rfl, hr13, hb13⟩
                  have HR13 : Aside0 (MainRel W p (n + 1) v13 (withoutL ([] : List S29) y0) w13) := ⟨keep4 (HA12.out.row hb13 hr13), HB12.out.trans (hb13.mono HA12.out.size), by have h1 := HSL.out; have h2 : (withoutL ([] : List S29) y0).length ≤ ([] : List S29).length := List.length_filter_le _ _; omega⟩
                  clear hr13 hb13 HWO HA12 HB12 s2
                  go_wp2_with fail
                  go_roundw
                  case rel => exact ⟨n + 1, v13, withoutL ([] : List S29) y0, rfl, rfl, by omega, HR13⟩
                  case measure => simp [intOf]; omega
                have e3 : (kd == 3) = false := beq_eq_false_iff_ne.2 h3
                clear h0 h1 h2 h3
                have HR13 : Aside0 (MainRel W p (n + 1) (.slice Aw 0 cw) ([] : List S29) (wr.alloc (.cells #[.int .i64 kd, .int .u32 y0, .int .i64 y1] 49))) := ⟨(HA9.out.alloc _).swap.tail.swap, HB.out.alloc HA9.out.size _, by have := HSL.out; omega⟩
                go_wp2_with fail
                go_roundw
                case rel => exact ⟨n + 1, _, ([] : List S29), rfl, rfl, by omega, HR13⟩
                case measure => simp [intOf]; omega
        · have d4 : 0 < s.length := by rw [hst]; simp
          rw [show pairV (List.headD s z29) (!List.isEmpty s) = .tuple #[.agg #[.int .u32 x0, .int .i64 x1], .bool true] by rw [hst]; rfl]
          have HST := Aside0.mk hst
          clear hst
          have HA5 := Aside0.mk (HA4.out.box #[.int .u32 x0, .int .i64 x1] 29).swap
          have HB5 := Aside0.mk (HB4.out.alloc HA4.out.size (.cells #[.int .u32 x0, .int .i64 x1] 29))
          clear HA4 HB4
          go_wp2_with fail
          generalize w4.alloc (.cells #[.int .u32 x0, .int .i64 x1] 29) = w5 at HA5 HB5 ⊢
          generalize w4.heap.size = b at HA5 ⊢
          obtain ⟨q1, -, -, -⟩ := Has.box_cell HA5.out (b := b) (cs := #[.int .u32 x0, .int .i64 x1]) (t := 29) (by simp)
          have q10 : w5.cell? ⟨b, 0, none⟩ = some (.int .u32 x0) := q1 0
          have q11 : w5.cell? ⟨b, 1, none⟩ = some (.int .i64 x1) := q1 1
          clear q1
          obtain ⟨A_, c_, ev_, -, hCw⟩ := HA5.out.reads (d := k29) (e := 29) (v := .slice Aw s.length cw) (xs := s) (by simp)
          cases ev_
          have hs3 : s.length ≤ 1000000 := HGS.out.few
          have HSM : Aside0 (Calls Try.prog 19 #[.slice Aa s.length ca, .slice Aw s.length cw] w5.drew fun e w' => e = .returned (.bool true) ∧ ∃ n, w' = w5.drew.drewN n) := ⟨by have h := same_calls (s := s) (t := s) HA5.out.drew (v := .slice Aa s.length ca) (u := .slice Aw s.length cw) (by simp) (by simp) hs3; rwa [decide_eq_true rfl] at h⟩
          have HLN : Aside0 (∀ n8, Calls Try.prog 16 #[ptr p] (w5.drew.drewN n8) fun e w' => e = .returned (.int .i64 s.length) ∧ w5.drew.drewN n8 = w') := ⟨fun n8 => len_calls (HA5.out.drew.drewN n8)⟩
          obtain ⟨adw, rfl, k2, k3⟩ := at_T29 hCw 0 (by omega) (by omega)
          have hrd : rd_T29 s 0 = (⟨x0, x1⟩ : S29) := by rw [HST.out]; rfl
          rw [hrd] at k2 k3
          replace k2 : w5.cell? adw = some (.int .u32 x0) := k2
          replace k3 : w5.cell? ⟨adw.block, adw.off + 1, none⟩ = some (.int .i64 x1) := k3
          have d8 : (0 : Int) < (s.length : Int) := by omega
          clear hCw hrd
          refine start_ (n := 37) (S := fun w' => w'.cell? ⟨b, 0, none⟩ = some (.int .u32 x0) ∧ w'.cell? ⟨b, 1, none⟩ = some (.int .i64 x1) ∧ w'.cell? adw = some (.int .u32 x0) ∧ w'.cell? ⟨adw.block, adw.off + 1, none⟩ = some (.int .i64 x1)) (ds := []) #[false, false, false, false, false, false, false, false, false, false, false, false, false, false, false, false, false, false, false, false, false, false, false, false, false, false, false, false, false, false, false, false, false, false, false, false, false] (by kernel_rfl) rfl rfl ⟨q10, q11, k2, k3⟩ (fun hHeld => ?_)
          refine pure_ (i := 0) (N := some 67) (v := ?_) (a' := ?_) #[true, false, false, false, false, false, false, false, false, false, false, false, false, false, false, false, false, false, false, false, false, false, false, false, false, false, false, false, false, false, false, false, false, false, false, false, false] rfl rfl (by kernel_rfl) (fun _ _ _ h => h) (Or.inl ⟨by rfl, ?_⟩) ?_ ?_
          rotate_left
          · intro w'
            go_simp
            with_reducible rfl
          rotate_left
          · simp only [Act.put, List.setIfInBounds_toArray, List.set_cons_zero, List.set_cons_succ, i64_w, i32_w]
            rfl
          refine pure_ (i := 1) (N := some 68) (v := ?_) (a' := ?_) #[true, true, false, false, false, false, false, false, false, false, false, false, false, false, false, false, false, false, false, false, false, false, false, false, false, false, false, false, false, false, false, false, false, false, false, false, false] rfl rfl (by kernel_rfl) (fun _ _ _ h => h) (Or.inl ⟨by rfl, ?_⟩) ?_ ?_
          rotate_left
          · intro w'
            go_simp
            with_reducible rfl
          rotate_left
          · simp only [Act.put, List.setIfInBounds_toArray, List.set_cons_zero, List.set_cons_succ, i64_w, i32_w]
            rfl
          refine one_ (i := 2) (N := some 69) #[true, true, true, false, false, false, false, false, false, false, false, false, false, false, false, false, false, false, false, false, false, false, false, false, false, false, false, false, false, false, false, false, false, false, false, false, false] rfl rfl (by kernel_rfl) (by decide) (fun K hK => ?_)
          refine goes_ Try.func19 (by kernel_rfl) rfl #[.slice Aa s.length ca, .slice (some adw) s.length cw] (by rfl) rfl rfl (by simp only [List.map_toArray, List.map_cons, List.map_nil]; rfl) ?_
          with_reducible refine (HSM.out).mono ?_
          rintro e w8 ⟨rfl, n8, rfl⟩
          refine ⟨_, rfl, ?_⟩
          refine hK.out _ _ ⟨q10, q11, k2, k3⟩ (fun hHeld => ?_)
          clear hK K
          refine norm_ (a' := ?_) ?_ ?_
          rotate_left
          · show Act.put _ (some 69) _ = _
            simp only [Act.put, List.setIfInBounds_toArray, List.set_cons_zero, List.set_cons_succ, i64_w, i32_w]
            rfl
          refine pure_ (i := 3) (N := some 70) (v := ?_) (a' := ?_) #[true, true, true, true, false, false, false, false, false, false, false, false, false, false, false, false, false, false, false, false, false, false, false, false, false, false, false, false, false, false, false, false, false, false, false, false, false] rfl rfl (by kernel_rfl) (fun _ _ _ h => h) (Or.inl ⟨by rfl, ?_⟩) ?_ ?_
          rotate_left
          · intro w'
            go_simp
            with_reducible rfl
          rotate_left
          · simp only [Act.put, List.setIfInBounds_toArray, List.set_cons_zero, List.set_cons_succ, i64_w, i32_w]
            rfl
          refine pure_ (i := 4) (N := some 71) (v := ?_) (a' := ?_) #[true, true, true, true, true, false, false, false, false, false, false, false, false, false, false, false, false, false, false, false, false, false, false, false, false, false, false, false, false, false, false, false, false, false, false, false, false] rfl rfl (by kernel_rfl) (fun _ _ _ h => h) (Or.inl ⟨by rfl, ?_⟩) ?_ ?_
          rotate_left
          · intro w'
            go_simp
            with_reducible rfl
          rotate_left
          · simp only [Act.put, List.setIfInBounds_toArray, List.set_cons_zero, List.set_cons_succ, i64_w, i32_w]
            rfl
          refine pure_ (i := 5) (N := some 72) (v := ?_) (a' := ?_) #[true, true, true, true, true, true, false, false, false, false, false, false, false, false, false, false, false, false, false, false, false, false, false, false, false, false, false, false, false, false, false, false, false, false, false, false, false] rfl rfl (by kernel_rfl) (fun _ _ _ h => h) (Or.inl ⟨by rfl, ?_⟩) ?_ ?_
          rotate_left
          · intro w'
            go_simp
            with_reducible rfl
          rotate_left
          · simp only [Act.put, List.setIfInBounds_toArray, List.set_cons_zero, List.set_cons_succ, i64_w, i32_w]
            rfl
          refine pure_ (i := 7) (N := some 74) (v := ?_) (a' := ?_) #[true, true, true, true, true, true, false, true, false, false, false, false, false, false, false, false, false, false, false, false, false, false, false, false, false, false, false, false, false, false, false, false, false, false, false, false, false] rfl rfl (by kernel_rfl) (fun _ _ _ h => h) (Or.inl ⟨by rfl, ?_⟩) ?_ ?_
          rotate_left
          · intro w'
            go_simp
            with_reducible rfl
          rotate_left
          · simp only [Act.put, List.setIfInBounds_toArray, List.set_cons_zero, List.set_cons_succ, i64_w, i32_w]
            rfl
          refine pure_ (i := 8) (N := some 75) (v := ?_) (a' := ?_) #[true, true, true, true, true, true, false, true, true, false, false, false, false, false, false, false, false, false, false, false, false, false, false, false, false, false, false, false, false, false, false, false, false, false, false, false, false] rfl rfl (by kernel_rfl) (fun _ _ _ h => h) (Or.inl ⟨by rfl, ?_⟩) ?_ ?_
          rotate_left
          · intro w'
            go_simp
            with_reducible rfl
          rotate_left
          · simp only [Act.put, List.setIfInBounds_toArray, List.set_cons_zero, List.set_cons_succ, i64_w, i32_w]
            rfl
          refine one_ (i := 6) (N := some 73) #[true, true, true, true, true, true, true, true, true, false, false, false, false, false, false, false, false, false, false, false, false, false, false, false, false, false, false, false, false, false, false, false, false, false, false, false, false] rfl rfl (by kernel_rfl) (by decide) (fun K hK => ?_)
          refine goes_ Try.func16 (by kernel_rfl) rfl #[ptr p] (by rfl) rfl rfl (by simp only [List.map_toArray, List.map_cons, List.map_nil]; rfl) ?_
          with_reducible refine (HLN.out n8).mono ?_
          rintro e w9 ⟨rfl, rfl⟩
          refine ⟨_, rfl, ?_⟩
          refine hK.out _ _ ⟨q10, q11, k2, k3⟩ (fun hHeld => ?_)
          clear hK K
          refine norm_ (a' := ?_) ?_ ?_
          rotate_left
          · show Act.put _ (some 73) _ = _
            simp only [Act.put, List.setIfInBounds_toArray, List.set_cons_zero, List.set_cons_succ, i64_w, i32_w]
            rfl
          refine pure_ (i := 9) (N := some 76) (v := ?_) (a' := ?_) #[true, true, true, true, true, true, true, true, true, true, false, false, false, false, false, false, false, false, false, false, false, false, false, false, false, false, false, false, false, false, false, false, false, false, false, false, false] rfl rfl (by kernel_rfl) (fun _ _ _ h => h) (Or.inl ⟨by rfl, ?_⟩) ?_ ?_
          rotate_left
          · intro w'
            go_simp
            with_reducible rfl
          rotate_left
          · simp only [Act.put, List.setIfInBounds_toArray, List.set_cons_zero, List.set_cons_succ, i64_w, i32_w]
            rfl
          refine pure_ (i := 10) (N := some 77) (v := ?_) (a' := ?_) #[true, true, true, true, true, true, true, true, true, true, true, false, false, false, false, false, false, false, false, false, false, false, false, false, false, false, false, false, false, false, false, false, false, false, false, false, false] rfl rfl (by kernel_rfl) (fun _ _ _ h => h) (Or.inl ⟨by rfl, ?_⟩) ?_ ?_
          rotate_left
          · intro w'
            go_simp
            with_reducible rfl
          rotate_left
          · simp only [Act.put, List.setIfInBounds_toArray, List.set_cons_zero, List.set_cons_succ, i64_w, i32_w]
            rfl
          refine pure_ (i := 11) (N := some 78) (v := ?_) (a' := ?_) #[true, true, true, true, true, true, true, true, true, true, true, true, false, false, false, false, false, false, false, false, false, false, false, false, false, false, false, false, false, false, false, false, false, false, false, false, false] rfl rfl (by kernel_rfl) (fun _ _ _ h => h) (Or.inl ⟨by rfl, ?_⟩) ?_ ?_
          rotate_left
          · intro w'
            go_simp
            with_reducible rfl
          rotate_left
          · simp only [Act.put, List.setIfInBounds_toArray, List.set_cons_zero, List.set_cons_succ, i64_w, i32_w]
            rfl
          refine pure_ (i := 12) (N := some 79) (v := ?_) (a' := ?_) #[true, true, true, true, true, true, true, true, true, true, true, true, true, false, false, false, false, false, false, false, false, false, false, false, false, false, false, false, false, false, false, false, false, false, false, false, false] rfl rfl (by kernel_rfl) (fun _ _ _ h => h) (Or.inl ⟨by rfl, ?_⟩) ?_ ?_
          rotate_left
          · intro w'
            go_simp
            with_reducible rfl
          rotate_left
          · simp only [Act.put, List.setIfInBounds_toArray, List.set_cons_zero, List.set_cons_succ, i64_w, i32_w]
            rfl
          refine pure_ (i := 13) (N := some 80) (v := ?_) (a' := ?_) #[true, true, true, true, true, true, true, true, true, true, true, true, true, true, false, false, false, false, false, false, false, false, false, false, false, false, false, false, false, false, false, false, false, false, false, false, false] rfl rfl (by kernel_rfl) (fun _ _ _ h => h) (Or.inl ⟨by rfl, ?_⟩) ?_ ?_
          rotate_left
          · intro w'
            go_simp
            with_reducible rfl
          rotate_left
          · simp only [Act.put, List.setIfInBounds_toArray, List.set_cons_zero, List.set_cons_succ, i64_w, i32_w]
            rfl
          refine pure_ (i := 14) (N := some 81) (v := ?_) (a' := ?_) #[true, true, true, true, true, true, true, true, true, true, true, true, true, true, true, false, false, false, false, false, false, false, false, false, false, false, false, false, false, false, false, false, false, false, false, false, false] rfl rfl (by kernel_rfl) (fun _ _ _ h => h) (Or.inl ⟨by rfl, ?_⟩) ?_ ?_
          rotate_left
          · intro w'
            go_simp
            with_reducible rfl
          rotate_left
          · simp only [Act.put, List.setIfInBounds_toArray, List.set_cons_zero, List.set_cons_succ, i64_w, i32_w]
            rfl
          refine pure_ (i := 15) (N := some 82) (v := ?_) (a' := ?_) #[true, true, true, true, true, true, true, true, true, true, true, true, true, true, true, true, false, false, false, false, false, false, false, false, false, false, false, false, false, false, false, false, false, false, false, false, false] rfl rfl (by kernel_rfl) (fun _ _ _ h => h) (Or.inl ⟨by rfl, ?_⟩) ?_ ?_
          rotate_left
          · intro w'
            go_simp
            with_reducible rfl
          rotate_left
          · simp only [Act.put, List.setIfInBounds_toArray, List.set_cons_zero, List.set_cons_succ, i64_w, i32_w]
            rfl
          refine pure_ (i := 16) (N := some 83) (v := ?_) (a' := ?_) #[true, true, true, true, true, true, true, true, true, true, true, true, true, true, true, true, true, false, false, false, false, false, false, false, false, false, false, false, false, false, false, false, false, false, false, false, false] rfl rfl (by kernel_rfl) (fun _ _ _ h => h) (Or.inl ⟨by rfl, ?_⟩) ?_ ?_
          rotate_left
          · intro w'
            go_simp
            with_reducible rfl
          rotate_left
          · simp only [Act.put, List.setIfInBounds_toArray, List.set_cons_zero, List.set_cons_succ, i64_w, i32_w]
            rfl
          refine pure_ (i := 17) (N := some 84) (v := ?_) (a' := ?_) #[true, true, true, true, true, true, true, true, true, true, true, true, true, true, true, true, true, true, false, false, false, false, false, false, false, false, false, false, false, false, false, false, false, false, false, false, false] rfl rfl (by kernel_rfl) (fun _ _ _ h => h) (Or.inl ⟨by rfl, ?_⟩) ?_ ?_
          rotate_left
          · intro w'
            go_simp
            with_reducible rfl
          rotate_left
          · simp only [Act.put, List.setIfInBounds_toArray, List.set_cons_zero, List.set_cons_succ, i64_w, i32_w]
            rfl
          refine pure_ (i := 18) (N := some 85) (v := ?_) (a' := ?_) #[true, true, true, true, true, true, true, true, true, true, true, true, true, true, true, true, true, true, true, false, false, false, false, false, false, false, false, false, false, false, false, false, false, false, false, false, false] rfl rfl (by kernel_rfl) (fun _ _ _ h => h) (Or.inl ⟨by rfl, ?_⟩) ?_ ?_
          rotate_left
          · intro w'
            go_simp
            with_reducible rfl
          rotate_left
          · simp only [Act.put, List.setIfInBounds_toArray, List.set_cons_zero, List.set_cons_succ, i64_w, i32_w]
            rfl
          refine pure_ (i := 19) (N := some 86) (v := ?_) (a' := ?_) #[true, true, true, true, true, true, true, true, true, true, true, true, true, true, true, true, true, true, true, true, false, false, false, false, false, false, false, false, false, false, false, false, false, false, false, false, false] rfl rfl (by kernel_rfl) (fun _ _ _ h => h) (Or.inl ⟨by rfl, ?_⟩) ?_ ?_
          rotate_left
          · intro w'
            go_simp
            with_reducible rfl
          rotate_left
          · simp only [Act.put, List.setIfInBounds_toArray, List.set_cons_zero, List.set_cons_succ, i64_w, i32_w]
            rfl
          refine pure_ (i := 20) (N := some 87) (v := ?_) (a' := ?_) #[true, true, true, true, true, true, true, true, true, true, true, true, true, true, true, true, true, true, true, true, true, false, false, false, false, false, false, false, false, false, false, false, false, false, false, false, false] rfl rfl (by kernel_rfl) (fun _ _ _ h => h) (Or.inl ⟨by rfl, ?_⟩) ?_ ?_
          rotate_left
          · intro w'
            go_simp
            with_reducible rfl
          rotate_left
          · simp only [Act.put, List.setIfInBounds_toArray, List.set_cons_zero, List.set_cons_succ, i64_w, i32_w]
            rfl
          refine pure_ (i := 22) (N := some 89) (v := ?_) (a' := ?_) #[true, true, true, true, true, true, true, true, true, true, true, true, true, true, true, true, true, true, true, true, true, false, true, false, false, false, false, false, false, false, false, false, false, false, false, false, false] rfl rfl (by kernel_rfl) (fun _ _ _ h => h) (Or.inl ⟨by rfl, ?_⟩) ?_ ?_
          rotate_left
          · intro w'
            go_simp
            with_reducible rfl
          rotate_left
          · simp only [Act.put, List.setIfInBounds_toArray, List.set_cons_zero, List.set_cons_succ, i64_w, i32_w]
            rfl
          refine pure_ (i := 23) (N := some 90) (v := ?_) (a' := ?_) #[true, true, true, true, true, true, true, true, true, true, true, true, true, true, true, true, true, true, true, true, true, false, true, true, false, false, false, false, false, false, false, false, false, false, false, false, false] rfl rfl (by kernel_rfl) (fun _ _ _ h => h) (Or.inl ⟨by rfl, ?_⟩) ?_ ?_
          rotate_left
          · intro w'
            go_simp
            with_reducible rfl
          rotate_left
          · simp only [Act.put, List.setIfInBounds_toArray, List.set_cons_zero, List.set_cons_succ, i64_w, i32_w]
            rfl
          refine take_ (i := 21) (N := some 88) (v := ?_) (a' := ?_) #[true, true, true, true, true, true, true, true, true, true, true, true, true, true, true, true, true, true, true, true, true, true, true, true, false, false, false, false, false, false, false, false, false, false, false, false, false] rfl rfl (by kernel_rfl) (fun _ _ _ h => h) (Or.inl ⟨by rfl, ?_⟩) hHeld ?_ ?_
          rotate_left
          · rintro w' ⟨s0, s1, s2, s3⟩
            go_simp
            with_reducible rfl
          rotate_left
          · simp only [Act.put, List.setIfInBounds_toArray, List.set_cons_zero, List.set_cons_succ, i64_w, i32_w]
            rfl
          refine take_ (i := 24) (N := some 91) (v := ?_) (a' := ?_) #[true, true, true, true, true, true, true, true, true, true, true, true, true, true, true, true, true, true, true, true, true, true, true, true, true, false, false, false, false, false, false, false, false, false, false, false, false] rfl rfl (by kernel_rfl) (fun _ _ _ h => h) (Or.inl ⟨by rfl, ?_⟩) hHeld ?_ ?_
          rotate_left
          · rintro w' ⟨s0, s1, s2, s3⟩
            go_simp
            with_reducible rfl
          rotate_left
          · simp only [Act.put, List.setIfInBounds_toArray, List.set_cons_zero, List.set_cons_succ, i64_w, i32_w]
            rfl
          refine pure_ (i := 25) (N := some 92) (v := ?_) (a' := ?_) #[true, true, true, true, true, true, true, true, true, true, true, true, true, true, true, true, true, true, true, true, true, true, true, true, true, true, false, false, false, false, false, false, false, false, false, false, false] rfl rfl (by kernel_rfl) (fun _ _ _ h => h) (Or.inl ⟨by rfl, ?_⟩) ?_ ?_
          rotate_left
          · intro w'
            go_simp
            with_reducible rfl
          rotate_left
          · simp only [Act.put, List.setIfInBounds_toArray, List.set_cons_zero, List.set_cons_succ, i64_w, i32_w]
            rfl
          refine pure_ (i := 26) (N := some 93) (v := ?_) (a' := ?_) #[true, true, true, true, true, true, true, true, true, true, true, true, true, true, true, true, true, true, true, true, true, true, true, true, true, true, true, false, false, false, false, false, false, false, false, false, false] rfl rfl (by kernel_rfl) (fun _ _ _ h => h) (Or.inl ⟨by rfl, ?_⟩) ?_ ?_
          rotate_left
          · intro w'
            go_simp
            with_reducible rfl
          rotate_left
          · simp only [Act.put, List.setIfInBounds_toArray, List.set_cons_zero, List.set_cons_succ, i64_w, i32_w]
            rfl
          refine pure_ (i := 27) (N := some 94) (v := ?_) (a' := ?_) #[true, true, true, true, true, true, true, true, true, true, true, true, true, true, true, true, true, true, true, true, true, true, true, true, true, true, true, true, false, false, false, false, false, false, false, false, false] rfl rfl (by kernel_rfl) (fun _ _ _ h => h) (Or.inl ⟨by rfl, ?_⟩) ?_ ?_
          rotate_left
          · intro w'
            go_simp
            with_reducible rfl
          rotate_left
          · simp only [Act.put, List.setIfInBounds_toArray, List.set_cons_zero, List.set_cons_succ, i64_w, i32_w]
            rfl
          refine pure_ (i := 28) (N := some 95) (v := ?_) (a' := ?_) #[true, true, true, true, true, true, true, true, true, true, true, true, true, true, true, true, true, true, true, true, true, true, true, true, true, true, true, true, true, false, false, false, false, false, false, false, false] rfl rfl (by kernel_rfl) (fun _ _ _ h => h) (Or.inl ⟨by rfl, ?_⟩) ?_ ?_
          rotate_left
          · intro w'
            go_simp
            with_reducible rfl
          rotate_left
          · simp only [Act.put, List.setIfInBounds_toArray, List.set_cons_zero, List.set_cons_succ, i64_w, i32_w]
            rfl
          refine pure_ (i := 29) (N := some 96) (v := ?_) (a' := ?_) #[true, true, true, true, true, true, true, true, true, true, true, true, true, true, true, true, true, true, true, true, true, true, true, true, true, true, true, true, true, true, false, false, false, false, false, false, false] rfl rfl (by kernel_rfl) (fun _ _ _ h => h) (Or.inl ⟨by rfl, ?_⟩) ?_ ?_
          rotate_left
          · intro w'
            go_simp
            with_reducible rfl
          rotate_left
          · simp only [Act.put, List.setIfInBounds_toArray, List.set_cons_zero, List.set_cons_succ, i64_w, i32_w]
            rfl
          refine pure_ (i := 30) (N := some 97) (v := ?_) (a' := ?_) #[true, true, true, true, true, true, true, true, true, true, true, true, true, true, true, true, true, true, true, true, true, true, true, true, true, true, true, true, true, true, true, false, false, false, false, false, false] rfl rfl (by kernel_rfl) (fun _ _ _ h => h) (Or.inl ⟨by rfl, ?_⟩) ?_ ?_
          rotate_left
          · intro w'
            go_simp
            with_reducible rfl
          rotate_left
          · simp only [Act.put, List.setIfInBounds_toArray, List.set_cons_zero, List.set_cons_succ, i64_w, i32_w]
            rfl
          refine pure_ (i := 31) (N := some 98) (v := ?_) (a' := ?_) #[true, true, true, true, true, true, true, true, true, true, true, true, true, true, true, true, true, true, true, true, true, true, true, true, true, true, true, true, true, true, true, true, false, false, false, false, false] rfl rfl (by kernel_rfl) (fun _ _ _ h => h) (Or.inl ⟨by rfl, ?_⟩) ?_ ?_
          rotate_left
          · intro w'
            go_simp
            with_reducible rfl
          rotate_left
          · simp only [Act.put, List.setIfInBounds_toArray, List.set_cons_zero, List.set_cons_succ, i64_w, i32_w]
            rfl
          refine pure_ (i := 32) (N := some 99) (v := undef) (a' := ?_) #[true, true, true, true, true, true, true, true, true, true, true, true, true, true, true, true, true, true, true, true, true, true, true, true, true, true, true, true, true, true, true, true, true, false, false, false, false] rfl rfl (by kernel_rfl) (fun _ _ _ h => h) (Or.inr ⟨by rfl, rfl⟩) ?_ ?_
          rotate_left
          · simp only [Act.put, List.setIfInBounds_toArray, List.set_cons_zero, List.set_cons_succ, i64_w, i32_w]
            rfl
          refine pure_ (i := 33) (N := some 100) (v := undef) (a' := ?_) #[true, true, true, true, true, true, true, true, true, true, true, true, true, true, true, true, true, true, true, true, true, true, true, true, true, true, true, true, true, true, true, true, true, true, false, false, false] rfl rfl (by kernel_rfl) (fun _ _ _ h => h) (Or.inr ⟨by rfl, rfl⟩) ?_ ?_
          rotate_left
          · simp only [Act.put, List.setIfInBounds_toArray, List.set_cons_zero, List.set_cons_succ, i64_w, i32_w]
            rfl
          refine pure_ (i := 34) (N := some 101) (v := undef) (a' := ?_) #[true, true, true, true, true, true, true, true, true, true, true, true, true, true, true, true, true, true, true, true, true, true, true, true, true, true, true, true, true, true, true, true, true, true, true, false, false] rfl rfl (by kernel_rfl) (fun _ _ _ h => h) (Or.inr ⟨by rfl, rfl⟩) ?_ ?_
          rotate_left
          · simp only [Act.put, List.setIfInBounds_toArray, List.set_cons_zero, List.set_cons_succ, i64_w, i32_w]
            rfl
          refine pure_ (i := 35) (N := some 102) (v := ?_) (a' := ?_) #[true, true, true, true, true, true, true, true, true, true, true, true, true, true, true, true, true, true, true, true, true, true, true, true, true, true, true, true, true, true, true, true, true, true, true, true, false] rfl rfl (by kernel_rfl) (fun _ _ _ h => h) (Or.inl ⟨by rfl, ?_⟩) ?_ ?_
          rotate_left
          · intro w'
            go_simp
            with_reducible rfl
          rotate_left
          · simp only [Act.put, List.setIfInBounds_toArray, List.set_cons_zero, List.set_cons_succ, i64_w, i32_w]
            rfl
          refine pure_ (i := 36) (N := some 103) (v := ?_) (a' := ?_) #[true, true, true, true, true, true, true, true, true, true, true, true, true, true, true, true, true, true, true, true, true, true, true, true, true, true, true, true, true, true, true, true, true, true, true, true, true] rfl rfl (by kernel_rfl) (fun _ _ _ h => h) (Or.inl ⟨by rfl, ?_⟩) ?_ ?_
          rotate_left
          · intro w'
            go_simp
            with_reducible rfl
          rotate_left
          · simp only [Act.put, List.setIfInBounds_toArray, List.set_cons_zero, List.set_cons_succ, i64_w, i32_w]
            rfl
          refine done_ (by kernel_rfl) ?_

          clear HSM HLN q10 q11 k2 k3 d8
          have HA8 : Aside0 (∃ m : List S29, m.length = s.length ∧ Has W.heap.size (w5.drew.drewN n8) [rowT k29 29 (.slice Aa s.length ca) m, heapT p s, boxT b #[.int .u32 x0, .int .i64 x1] 29, rowT k29 29 (.slice (some adw) s.length cw) s]) := ⟨⟨s, rfl, (HA5.out.drew.drewN n8).third⟩⟩
          have HB8 : Aside0 (Below W.heap.size W (w5.drew.drewN n8)) := ⟨pw_below_drewN (below_drew HB5.out) n8⟩
          generalize w5.drew.drewN n8 = w8 at HA8 HB8 ⊢
          clear HA5 HB5
          go_wp2_with fail
          go_loopw [13] (fun k wr => ∃ j : Nat, k = .int .i64 j ∧ j ≤ s.length ∧ Aside0 (∃ m : List S29, m.length = s.length ∧ Has W.heap.size wr [rowT k29 29 (.slice Aa s.length ca) m, heapT p s, boxT b #[.int .u32 x0, .int .i64 x1] 29, rowT k29 29 (.slice (some adw) s.length cw) s]) ∧ Aside0 (Below W.heap.size W wr)) (fun k _ => s.length - (intOf k).toNat)
          case atStart => exact ⟨0, rfl, by omega, HA8, HB8⟩
          case round =>
            clear HA8 HB8
            obtain ⟨j, rfl, hj, HA, HB⟩ := hrel
            by_cases hjt : j < s.length
            · have d5 : decide ((j : Int) < (s.length : Int)) = true := decide_eq_true (by omega)
              have d6 : (j : Int) < (s.length : Int) := by omega
              obtain ⟨m, hm, hA⟩ := HA.out
              obtain ⟨g, c9, e0, -⟩ := row_addr hA (v := .slice Aa s.length ca) (l := m) (by simp) (by omega)
              injection e0 with e1 e2 e3
              subst e1
              clear e2 e3
              obtain ⟨⟨m', hm', hA4⟩, hB4, hf, hcell⟩ := row_put hA j (by omega) (-5)
              have HA4 : Aside0 (∃ m : List S29, m.length = s.length ∧ Has W.heap.size (wr.setCell ⟨g, j * 2 + 1, none⟩ (.int .i64 (-5))) [rowT k29 29 (.slice (some ⟨g, 0, none⟩) s.length ca) m, heapT p s, boxT b #[.int .u32 x0, .int .i64 x1] 29, rowT k29 29 (.slice (some adw) s.length cw) s]) := ⟨⟨m', hm'.trans hm, hA4⟩⟩
              have HB4 := Aside0.mk (HB.out.trans hB4)
              clear hm hA hA4 hB4 hm'
              go_wp2_with fail
              go_roundw
              case rel => exact ⟨j + 1, rfl, by omega, HA4, HB4⟩
              case measure => simp [intOf]; omega
            · have d5 : decide ((j : Int) < (s.length : Int)) = false := decide_eq_false (by omega)
              have HA9 : Aside0 (Has W.heap.size wr [heapT p s, boxT b #[.int .u32 x0, .int .i64 x1] 29, rowT k29 29 (.slice (some adw) s.length cw) s]) := ⟨by obtain ⟨m, hm, hA⟩ := HA.out; exact hA.tail⟩
              clear HA
              by_cases hnl : n = l1.length
              · have e9 : ((n : Int) == (l1.length : Int)) = true := beq_iff_eq.2 (by omega)
                have HBX := HB
                clear HB HA9 hnl
                go_wp2_with fail
                go_ret
                exact ⟨rfl, HBX.out⟩
              · have e9 : ((n : Int) == (l1.length : Int)) = false := beq_eq_false_iff_ne.2 (by omega)
                have hnt : n < l1.length := by omega
                have d7 : (n : Int) < (l1.length : Int) := by omega
                obtain ⟨ad1, rfl, ha2, ha3, ha4⟩ := at_T49 HD.out (n : Int) (by omega) (by omega)
                rw [Int.toNat_natCast] at ha2 ha3 ha4
                have p2 := pw_cell_below HB.out ha2
                have p3 := pw_cell_below HB.out ha3
                have p4 := pw_cell_below HB.out ha4
                have hym : rd_T49 l1 (n : Int) ∈ l1 := by
                  unfold rd_T49
                  rw [Int.toNat_natCast, List.getD_eq_getElem?_getD, List.getElem?_eq_getElem hnt]
                  exact List.getElem_mem hnt
                have hy := HG1.out _ hym
                generalize rd_T49 l1 (n : Int) = a at p2 p3 p4 ha2 ha3 ha4 hy hym
                obtain ⟨kd, y0, y1⟩ := a
                dsimp only at p2 p3 p4 hy
                have HY := Aside0.mk hy
                clear ha2 ha3 ha4 hym hy hnl
                by_cases h0 : kd = 0
                · subst h0
                  have HA10 := Aside0.mk ((HA9.out.third.box #[.int .i64 0, .int .u32 y0, .int .i64 y1] 49).swap)
                  have HB10 := Aside0.mk (HB.out.alloc HA9.out.size (.cells #[.int .i64 0, .int .u32 y0, .int .i64 y1] 49))
                  have HW := Aside0.mk (with_calls HA10.out HB10.out ⟨y0, y1⟩ HY.out HGS.out.good HGS.out.few)
                  clear HA9 HB
                  go_wp2_with fail
                  generalize wr.alloc (.cells #[.int .i64 0, .int .u32 y0, .int .i64 y1] 49) = w10 at HA10 HB10 HW ⊢
                  generalize wr.heap.size = ba at HA10 HW ⊢
                  refine HW.out.mono ?_
                  rintro e w11 ⟨v11, rfl, hA11, hB11⟩
                  have HA11 := Aside0.mk hA11.third
                  have HB11 := Aside0.mk hB11
                  clear hA11 hB11 HW HA10 HB10 p2 p3 p4
                  have q1 := (Has.box_cell HA11.out (b := ba) (cs := #[.int .i64 0, .int .u32 y0, .int .i64 y1]) (t := 49) (by simp)).1
                  have r1 : w11.cell? ⟨ba, 1, none⟩ = some (.int .u32 y0) := q1 1
                  have r2 : w11.cell? ⟨ba, 2, none⟩ = some (.int .i64 y1) := q1 2
                  have hs4 : s.length < 1000000 := by have := HSL.out; omega
                  have HP := Aside0.mk (push_calls HA11.out ⟨y0, y1⟩ HY.out hs4)
                  have hpl := push_length s ⟨y0, y1⟩
                  have HPL : Aside0 ((pushS s ⟨y0, y1⟩).length ≤ 300 + (n + 1)) := ⟨by have := HSL.out; omega⟩
                  generalize pushE s ⟨y0, y1⟩ = pe at HP ⊢
                  clear q1 hs4 hpl
                  go_wp2_with fail
                  refine HP.out.mono ?_
                  rintro e w12 ⟨rfl, hA12, hB12⟩
                  have HR12 : Aside0 (MainRel W p (n + 1) v11 (pushS s ⟨y0, y1⟩) w12) := ⟨hA12.third.tail.third.tail.swap, HB11.out.trans hB12, HPL.out⟩
                  clear hA12 hB12 HP HA11 HB11 r1 r2 HPL
                  go_wp2_with fail
                  go_roundw
                  case rel => exact ⟨n + 1, v11, pushS s ⟨y0, y1⟩, rfl, rfl, by omega, HR12⟩
                  case measure => simp [intOf]; omega
                have e0 : (kd == 0) = false := beq_eq_false_iff_ne.2 h0
                by_cases h1 : kd = 1
                · subst h1
                  have HA10 := Aside0.mk ((HA9.out.third.box #[.int .i64 1, .int .u32 y0, .int .i64 y1] 49).swap)
                  have HB10 := Aside0.mk (HB.out.alloc HA9.out.size (.cells #[.int .i64 1, .int .u32 y0, .int .i64 y1] 49))
                  have HW := Aside0.mk (with_calls HA10.out HB10.out ⟨y0, y1⟩ HY.out HGS.out.good HGS.out.few)
                  clear HA9 HB
                  go_wp2_with fail
                  generalize wr.alloc (.cells #[.int .i64 1, .int .u32 y0, .int .i64 y1] 49) = w10 at HA10 HB10 HW ⊢
                  generalize wr.heap.size = ba at HA10 HW ⊢
                  refine HW.out.mono ?_
                  rintro e w11 ⟨v11, rfl, hA11, hB11⟩
                  have HA11 := Aside0.mk hA11.third
                  have HB11 := Aside0.mk hB11
                  clear hA11 hB11 HW HA10 HB10 p2 p3 p4
                  have q1 := (Has.box_cell HA11.out (b := ba) (cs := #[.int .i64 1, .int .u32 y0, .int .i64 y1]) (t := 49) (by simp)).1
                  have r1 : w11.cell? ⟨ba, 1, none⟩ = some (.int .u32 y0) := q1 1
                  have r2 : w11.cell? ⟨ba, 2, none⟩ = some (.int .i64 y1) := q1 2
                  have hs4 : s.length < 1000000 := by have := HSL.out; omega
                  have HP := Aside0.mk (push_calls HA11.out ⟨y0, y1⟩ HY.out hs4)
                  have hpl := push_length s ⟨y0, y1⟩
                  have HPL : Aside0 ((pushS s ⟨y0, y1⟩).length ≤ 300 + (n + 1)) := ⟨by have := HSL.out; omega⟩
                  generalize pushE s ⟨y0, y1⟩ = pe at HP ⊢
                  clear q1 hs4 hpl
                  go_wp2_with fail
                  refine HP.out.mono ?_
                  rintro e w12 ⟨rfl, hA12, hB12⟩
                  have HR12 : Aside0 (MainRel W p (n + 1) v11 (pushS s ⟨y0, y1⟩) w12) := ⟨hA12.third.tail.third.tail.swap, HB11.out.trans hB12, HPL.out⟩
                  clear hA12 hB12 HP HA11 HB11 r1 r2 HPL
                  go_wp2_with fail
                  go_roundw
                  case rel => exact ⟨n + 1, v11, pushS s ⟨y0, y1⟩, rfl, rfl, by omega, HR12⟩
                  case measure => simp [intOf]; omega
                have e1 : (kd == 1) = false := beq_eq_false_iff_ne.2 h1
                by_cases h2 : kd = 2
                · subst h2
                  have HA10 := Aside0.mk ((HA9.out.box #[.int .i64 2, .int .u32 y0, .int .i64 y1] 49).swap)
                  have HB10 := Aside0.mk (HB.out.alloc HA9.out.size (.cells #[.int .i64 2, .int .u32 y0, .int .i64 y1] 49))
                  have HP := Aside0.mk (pop_calls HA10.out)
                  rw [show pairV (List.headD s z29) (!List.isEmpty s) = .tuple #[.agg #[.int .u32 x0, .int .i64 x1], .bool true] by rw [HST.out]; rfl] at HP
                  clear HA9 HB
                  go_wp2_with fail
                  generalize wr.alloc (.cells #[.int .i64 2, .int .u32 y0, .int .i64 y1] 49) = w10 at HA10 HB10 HP ⊢
                  generalize wr.heap.size = ba at HA10 HP ⊢
                  refine HP.out.mono ?_
                  rintro e w11 ⟨rfl, hA11, hB11⟩
                  have HA12 := Aside0.mk (hA11.box #[.int .u32 x0, .int .i64 x1] 29)
                  have HB12 := Aside0.mk ((HB10.out.trans hB11).alloc hA11.size (.cells #[.int .u32 x0, .int .i64 x1] 29))
                  obtain ⟨q1, -, q3, -⟩ := Has.box_cell hA11 (b := b) (cs := #[.int .u32 x0, .int .i64 x1]) (t := 29) (by simp)
                  have r1 : w11.cell? ⟨b, 0, none⟩ = some (.int .u32 x0) := q1 0
                  have r2 : w11.cell? ⟨b, 1, none⟩ = some (.int .i64 x1) := q1 1
                  clear q1 hA11 hB11 HP HA10 HB10 p2 p3 p4
                  go_wp2_with fail
                  have HWO := Aside0.mk (without_calls (s := s) HA12.out (v := .slice (some adw) s.length cw) (by simp) (by have := HGS.out.few; exact this) x0)
                  rw [show withoutL s x0 = t by have h := HGS.out; rw [HST.out] at h ⊢; exact without_first h] at HWO
                  have hts : s.tail = t := by rw [HST.out]; rfl
                  have hlt2 : t.length + 1 = s.length := by rw [HST.out]; rfl
                  rw [hts] at HA12
                  have HLT : Aside0 (t.length ≤ 300 + (n + 1)) := ⟨by have := HSL.out; omega⟩
                  clear hts hlt2
                  refine HWO.out.mono ?_
                  rintro e w13 ⟨v13, rfl, hr13, hb13⟩
                  have HR13 : Aside0 (MainRel W p (n + 1) v13 t w13) := ⟨keep3 (HA12.out.row hb13 hr13), HB12.out.trans (hb13.mono HA12.out.size), HLT.out⟩
                  clear hr13 hb13 HWO HA12 HB12 r1 r2 q3 HLT
                  go_wp2_with fail
                  go_roundw
                  case rel => exact ⟨n + 1, v13, t, rfl, rfl, by omega, HR13⟩
                  case measure => simp [intOf]; omega
                have e2 : (kd == 2) = false := beq_eq_false_iff_ne.2 h2
                by_cases h3 : kd = 3
                · subst h3
                  have HA10 := Aside0.mk ((HA9.out.box #[.int .i64 3, .int .u32 y0, .int .i64 y1] 49).swap)
                  have HB10 := Aside0.mk (HB.out.alloc HA9.out.size (.cells #[.int .i64 3, .int .u32 y0, .int .i64 y1] 49))
                  clear HA9 HB
                  go_wp2_with fail
                  generalize wr.alloc (.cells #[.int .i64 3, .int .u32 y0, .int .i64 y1] 49) = w10 at HA10 HB10 ⊢
                  generalize wr.heap.size = ba at HA10 ⊢
                  clear p2 p3 p4
                  have q1 := (Has.box_cell HA10.out (b := ba) (cs := #[.int .i64 3, .int .u32 y0, .int .i64 y1]) (t := 49) (by simp)).1
                  have r1 : w10.cell? ⟨ba, 1, none⟩ = some (.int .u32 y0) := q1 1
                  clear q1
                  have hs4 : s.length ≤ 1000000 := HGS.out.few
                  have HRM := Aside0.mk (remove_calls HA10.out.drew y0)
                  have HHS : Aside0 (∀ w11, Has W.heap.size w11 [heapT p (withoutL s y0), boxT ba #[.int .i64 3, .int .u32 y0, .int .i64 y1] 49, boxT b #[.int .u32 x0, .int .i64 x1] 29, rowT k29 29 (.slice (some adw) s.length cw) s] → Calls Try.prog 20 #[.slice (some adw) s.length cw, .int .u32 y0] w11 fun e w' => e = .returned (.bool (hasL s y0)) ∧ ∃ n, w' = w11.drewN n) := ⟨fun w11 h => has_calls (s := s) h (by simp) hs4 y0⟩
                  have HWO : Aside0 (∀ w11, Has W.heap.size w11 [heapT p (withoutL s y0), boxT ba #[.int .i64 3, .int .u32 y0, .int .i64 y1] 49, boxT b #[.int .u32 x0, .int .i64 x1] 29, rowT k29 29 (.slice (some adw) s.length cw) s] → Calls Try.prog 23 #[.slice (some adw) s.length cw, .int .u32 y0] w11 (RowPost w11 (withoutL s y0))) := ⟨fun w11 h => without_calls (s := s) h (by simp) hs4 y0⟩
                  generalize hasL s y0 = hh at HRM HHS
                  clear hs4
                  refine start_ (n := 11) (S := fun w' => w'.cell? ⟨ba, 1, none⟩ = some (.int .u32 y0)) (ds := []) #[false, false, false, false, false, false, false, false, false, false, false] (by kernel_rfl) rfl rfl (r1) (fun hHeld => ?_)
                  refine pure_ (i := 0) (N := some 162) (v := ?_) (a' := ?_) #[true, false, false, false, false, false, false, false, false, false, false] rfl rfl (by kernel_rfl) (fun _ _ _ h => h) (Or.inl ⟨by rfl, ?_⟩) ?_ ?_
                  rotate_left
                  · intro w'
                    go_simp
                    with_reducible rfl
                  rotate_left
                  · simp only [Act.put, List.setIfInBounds_toArray, List.set_cons_zero, List.set_cons_succ, i64_w, i32_w]
                    rfl
                  refine pure_ (i := 1) (N := some 163) (v := ?_) (a' := ?_) #[true, true, false, false, false, false, false, false, false, false, false] rfl rfl (by kernel_rfl) (fun _ _ _ h => h) (Or.inl ⟨by rfl, ?_⟩) ?_ ?_
                  rotate_left
                  · intro w'
                    go_simp
                    with_reducible rfl
                  rotate_left
                  · simp only [Act.put, List.setIfInBounds_toArray, List.set_cons_zero, List.set_cons_succ, i64_w, i32_w]
                    rfl
                  refine pure_ (i := 2) (N := some 164) (v := ?_) (a' := ?_) #[true, true, true, false, false, false, false, false, false, false, false] rfl rfl (by kernel_rfl) (fun _ _ _ h => h) (Or.inl ⟨by rfl, ?_⟩) ?_ ?_
                  rotate_left
                  · intro w'
                    go_simp
                    with_reducible rfl
                  rotate_left
                  · simp only [Act.put, List.setIfInBounds_toArray, List.set_cons_zero, List.set_cons_succ, i64_w, i32_w]
                    rfl
                  refine pure_ (i := 5) (N := some 167) (v := ?_) (a' := ?_) #[true, true, true, false, false, true, false, false, false, false, false] rfl rfl (by kernel_rfl) (fun _ _ _ h => h) (Or.inl ⟨by rfl, ?_⟩) ?_ ?_
                  rotate_left
                  · intro w'
                    go_simp
                    with_reducible rfl
                  rotate_left
                  · simp only [Act.put, List.setIfInBounds_toArray, List.set_cons_zero, List.set_cons_succ, i64_w, i32_w]
                    rfl
                  refine pure_ (i := 6) (N := some 168) (v := ?_) (a' := ?_) #[true, true, true, false, false, true, true, false, false, false, false] rfl rfl (by kernel_rfl) (fun _ _ _ h => h) (Or.inl ⟨by rfl, ?_⟩) ?_ ?_
                  rotate_left
                  · intro w'
                    go_simp
                    with_reducible rfl
                  rotate_left
                  · simp only [Act.put, List.setIfInBounds_toArray, List.set_cons_zero, List.set_cons_succ, i64_w, i32_w]
                    rfl
                  refine pure_ (i := 7) (N := some 169) (v := ?_) (a' := ?_) #[true, true, true, false, false, true, true, true, false, false, false] rfl rfl (by kernel_rfl) (fun _ _ _ h => h) (Or.inl ⟨by rfl, ?_⟩) ?_ ?_
                  rotate_left
                  · intro w'
                    go_simp
                    with_reducible rfl
                  rotate_left
                  · simp only [Act.put, List.setIfInBounds_toArray, List.set_cons_zero, List.set_cons_succ, i64_w, i32_w]
                    rfl
                  refine take_ (i := 3) (N := some 165) (v := ?_) (a' := ?_) #[true, true, true, true, false, true, true, true, false, false, false] rfl rfl (by kernel_rfl) (fun _ _ _ h => h) (Or.inl ⟨by rfl, ?_⟩) hHeld ?_ ?_
                  rotate_left
                  · intro w' s0
                    go_simp
                    with_reducible rfl
                  rotate_left
                  · simp only [Act.put, List.setIfInBounds_toArray, List.set_cons_zero, List.set_cons_succ, i64_w, i32_w]
                    rfl
                  refine take_ (i := 8) (N := some 170) (v := ?_) (a' := ?_) #[true, true, true, true, false, true, true, true, true, false, false] rfl rfl (by kernel_rfl) (fun _ _ _ h => h) (Or.inl ⟨by rfl, ?_⟩) hHeld ?_ ?_
                  rotate_left
                  · intro w' s0
                    go_simp
                    with_reducible rfl
                  rotate_left
                  · simp only [Act.put, List.setIfInBounds_toArray, List.set_cons_zero, List.set_cons_succ, i64_w, i32_w]
                    rfl
                  refine one_ (i := 4) (N := some 166) #[true, true, true, true, true, true, true, true, true, false, false] rfl rfl (by kernel_rfl) (by decide) (fun K hK => ?_)
                  refine goes_ Try.func15 (by kernel_rfl) rfl #[ptr p, .int .u32 y0] (by rfl) rfl rfl (by simp only [List.map_toArray, List.map_cons, List.map_nil]; rfl) ?_
                  with_reducible refine (HRM.out).mono ?_
                  rintro e w11 ⟨rfl, hA11, hB11⟩
                  refine ⟨_, rfl, ?_⟩
                  have s1 : w11.cell? ⟨ba, 1, none⟩ = some (.int .u32 y0) := (Has.box_cell hA11 (b := ba) (cs := #[.int .i64 3, .int .u32 y0, .int .i64 y1]) (t := 49) (by simp)).1 1
                  refine hK.out _ _ (s1) (fun hHeld => ?_)
                  clear hK K
                  refine norm_ (a' := ?_) ?_ ?_
                  rotate_left
                  · show Act.put _ (some 166) _ = _
                    simp only [Act.put, List.setIfInBounds_toArray, List.set_cons_zero, List.set_cons_succ, i64_w, i32_w]
                    rfl
                  refine one_ (i := 9) (N := some 171) #[true, true, true, true, true, true, true, true, true, true, false] rfl rfl (by kernel_rfl) (by decide) (fun K hK => ?_)
                  refine goes_ Try.func20 (by kernel_rfl) rfl #[.slice (some adw) s.length cw, .int .u32 y0] (by rfl) rfl rfl (by simp only [List.map_toArray, List.map_cons, List.map_nil]; rfl) ?_
                  with_reducible refine (HHS.out _ hA11).mono ?_
                  rintro e w12 ⟨rfl, n12, rfl⟩
                  refine ⟨_, rfl, ?_⟩
                  refine hK.out _ _ (s1) (fun hHeld => ?_)
                  clear hK K
                  refine norm_ (a' := ?_) ?_ ?_
                  rotate_left
                  · show Act.put _ (some 171) _ = _
                    simp only [Act.put, List.setIfInBounds_toArray, List.set_cons_zero, List.set_cons_succ, i64_w, i32_w]
                    rfl
                  refine pure_ (i := 10) (N := some 172) (v := ?_) (a' := ?_) #[true, true, true, true, true, true, true, true, true, true, true] rfl rfl (by kernel_rfl) (fun _ _ _ h => h) (Or.inl ⟨by rfl, ?_⟩) ?_ ?_
                  rotate_left
                  · intro w'
                    go_simp
                    with_reducible rfl
                  rotate_left
                  · simp only [Act.put, List.setIfInBounds_toArray, List.set_cons_zero, List.set_cons_succ, i64_w, i32_w]
                    rfl
                  refine done_ (by kernel_rfl) ?_

                  have HA12 := Aside0.mk (hA11.drewN n12)
                  have HB12 := Aside0.mk (pw_below_drewN ((below_drew HB10.out).trans hB11) n12)
                  have s2 : (w11.drewN n12).cell? ⟨ba, 1, none⟩ = some (.int .u32 y0) := s1
                  generalize w11.drewN n12 = w12 at HA12 HB12 s2 ⊢
                  clear hA11 hB11 s1 r1 HA10 HB10 HRM HHS
                  go_wp2_with fail
                  refine (HWO.out _ HA12.out).mono ?_
                  rintro e w13 ⟨v13, rfl, hr13, hb13⟩
                  have HR13 : Aside0 (MainRel W p (n + 1) v13 (withoutL s y0) w13) := ⟨keep4 (HA12.out.row hb13 hr13), HB12.out.trans (hb13.mono HA12.out.size), by have h1 := HSL.out; have h2 : (withoutL s y0).length ≤ s.length := List.length_filter_le _ _; omega⟩
                  clear hr13 hb13 HWO HA12 HB12 s2
                  go_wp2_with fail
                  go_roundw
                  case rel => exact ⟨n + 1, v13, withoutL s y0, rfl, rfl, by omega, HR13⟩
                  case measure => simp [intOf]; omega
                have e3 : (kd == 3) = false := beq_eq_false_iff_ne.2 h3
                clear h0 h1 h2 h3
                have HR13 : Aside0 (MainRel W p (n + 1) (.slice (some adw) s.length cw) s (wr.alloc (.cells #[.int .i64 kd, .int .u32 y0, .int .i64 y1] 49))) := ⟨(HA9.out.alloc _).swap.tail.swap, HB.out.alloc HA9.out.size _, by have := HSL.out; omega⟩
                go_wp2_with fail
                go_roundw
                case rel => exact ⟨n + 1, _, s, rfl, rfl, by omega, HR13⟩
                case measure => simp [intOf]; omega
end Go.Proofs.Ytigdpkofceghlaa.Hp
