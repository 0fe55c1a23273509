/- The heap's own methods, by its rising tasks. No law is proved here. -/
import Derived.Test.YtpnoghnhlddjeaaHeapS
namespace Go.Proofs.Ytpnoghnhlddjeaa.Hp
open Go.RowKit Go.Proofs.YtpnoghnhlddjeaaW.PrintWords Go.Proofs.YtpnoghnhlddjeaaW.PrintLast Go.Proofs.YtpnoghnhlddjeaaW.PrintMore Go.Proofs.Ytpnoghnhlddjeaa.Q Go.Proofs.Ytpnoghnhlddjeaa.Own
set_option linter.unusedVariables false
set_option linter.unusedSimpArgs false
attribute [local go_sem ↓] Go.wp_at_zero Go.wp_at_succ

/-- The first of a heap's row is the first task. -/
theorem heap_first {l : List S31} {x : S31} {s : List S31} (hk : HpK.HeapK (keyL l) l.length) (hp : l.Perm (x :: s)) (hg : GoodS (x :: s)) : rd_T31 l (0 : Nat) = x := by
  have hlen : l.length = s.length + 1 := by rw [hp.length_eq]; rfl
  have hmem : rd_T31 l (0 : Nat) ∈ x :: s := hp.subset (rd_mem (by omega))
  rcases List.mem_cons.1 hmem with e | e
  · exact e
  · have h1 := (List.pairwise_cons.1 hg.rise).1 _ e
    obtain ⟨j, hj, hx⟩ := List.getElem_of_mem (hp.symm.subset (List.mem_cons_self (a := x) (l := s)))
    have h2 := HpK.heap_min hk j hj
    unfold keyL at h2
    rw [rd_nat l hj, hx] at h2
    omega
theorem push_calls {B : Nat} {w : World} {Ts : List Th} {p : Nat} {s : List S31} (h : Has B w (heapT p s :: Ts)) (x : S31) (hx : GoodT x) (hm : s.length < 1000000) :
    Calls Try.prog 29 #[ptr p, aggT x] w (StayPost B w (heapT p (pushS s x) :: Ts) (.int .i64 (pushE s x))) := by
  obtain ⟨l, h1, hk, hp, hg⟩ := heap_row h
  unfold pushE pushS
  cases hn : hasL s x.f0 with
  | true =>
    rw [if_pos rfl, if_pos rfl]
    refine (push_old h1 x ((hasL_perm hp _).trans hn)).mono ?_
    rintro e w' ⟨rfl, a, b⟩
    exact ⟨rfl, row_heap a hk hp hg, b⟩
  | false =>
    rw [if_neg (by simp), if_neg (by simp)]
    refine (push_new h1 x ((hasL_perm hp _).trans hn) (fun y hy => ?_) (by rw [hp.length_eq]; exact hm) hk).mono ?_
    · rcases List.mem_append.1 hy with q | q
      · exact hg.good y (hp.subset q)
      · rw [List.mem_singleton.1 q]; exact hx
    · rintro e w' ⟨l', rfl, a, b, c, d⟩
      refine ⟨rfl, row_heap a d ?_ (good_with hg hx hn hm), b⟩
      exact c.trans ((List.perm_append_comm.trans (List.Perm.cons x hp)).trans (with_perm s x).symm)
def pairV (x : S31) (b : Bool) : Value := .tuple #[aggT x, .bool b]
set_option maxHeartbeats 4000000 in
set_option maxRecDepth 100000 in
theorem min_calls {B : Nat} {w : World} {Ts : List Th} {p : Nat} {s : List S31} (h : Has B w (heapT p s :: Ts)) :
    Calls Try.prog 53 #[ptr p] w (StayPost B w (heapT p s :: Ts) (pairV (s.headD z31) (!s.isEmpty))) := by
  obtain ⟨l, h1, hk, hp, hg⟩ := heap_row h
  have HH := Aside0.mk h
  have HA : Aside0 (Has B (w.alloc (.cells #[.int .u32 0, .int .i64 0] 31)) (boxT w.heap.size #[.int .u32 0, .int .i64 0] 31 :: heapT p s :: Ts)) := ⟨h.box _ _⟩
  have HN := Aside0.mk (none_calls (h1.box #[.int .u32 0, .int .i64 0] 31).swap)
  have HBl : Aside0 (Below B w (w.alloc (.cells #[.int .u32 0, .int .i64 0] 31))) := ⟨(Below.refl B w).alloc h.size _⟩
  have hu29 := Try.underlying31
  cases s with
  | nil =>
    obtain rfl := List.Perm.eq_nil hp
    rw [decide_eq_true rfl] at HN
    clear h h1 hk hp hg
    go_enter Try.func53, Try.ntmps53
    go_wp2_with (refine HN.out.mono ?_; rintro e w1 ⟨rfl, rfl⟩)
    refine bodyPost_ret (v := pairV z31 false) (by simp [results, Try.results53, go_sem, pairV, z31]) rfl ?_
    exact ⟨rfl, HA.out.tail, HBl.out⟩
  | cons x s =>
    have hx := heap_first hk hp hg
    have hl : l ≠ [] := fun q => by rw [q] at hp; exact absurd hp.symm.eq_nil (by simp)
    rw [decide_eq_false hl] at HN
    have hlen : 0 < l.length := List.length_pos_iff.2 hl
    obtain ⟨F, ⟨hF, v, hb, hr⟩, hFb, put⟩ := h1.head
    obtain ⟨g, c, rfl, hcc⟩ := row_pos hr hlen
    have c0 : w.cell? ⟨p, 0, none⟩ = some (.slice (some ⟨g, 0, none⟩) l.length c) := by rw [blk_cell hb]; rfl
    obtain ⟨_, _, hC⟩ := Kd.R_reads' hr
    obtain ⟨ad, e0, hi2, hi3⟩ := at_T31 hC ((0 : Nat) : Int) (by omega) (by omega)
    cases e0
    rw [add_plain, hx] at hi2 hi3
    dsimp only [Int.toNat_natCast, Nat.zero_mul, Nat.zero_add] at hi2 hi3
    have hp1 := (hFb p hF).2
    have hg1 := (hFb g (hr.1 g (by simp [Value.ownBlock])).1).2
    have d0 : decide (0 < l.length) = true := decide_eq_true hlen
    clear h h1 hk hp hg hx hl hb hr hC put hFb hF
    go_enter Try.func53, Try.ntmps53
    go_wp2_with (refine HN.out.mono ?_; rintro e w1 ⟨rfl, rfl⟩)
    refine bodyPost_ret (v := pairV x true) (by simp [results, Try.results53, go_sem, pairV]) rfl ?_
    exact ⟨rfl, HH.out.alloc _, (Below.refl B w).alloc HH.out.size _⟩
set_option maxHeartbeats 4000000 in
set_option maxRecDepth 100000 in
theorem pop_calls {B : Nat} {w : World} {Ts : List Th} {p : Nat} {s : List S31} (h : Has B w (heapT p s :: Ts)) :
    Calls Try.prog 54 #[ptr p] w (StayPost B w (heapT p s.tail :: Ts) (pairV (s.headD z31) (!s.isEmpty))) := by
  obtain ⟨l, h1, hk, hp, hg⟩ := heap_row h
  have HH := Aside0.mk h
  have HA : Aside0 (Has B (w.alloc (.cells #[.int .u32 0, .int .i64 0] 31)) (rowH p l :: boxT w.heap.size #[.int .u32 0, .int .i64 0] 31 :: Ts)) := ⟨(h1.box _ _).swap⟩
  have HN := Aside0.mk (none_calls HA.out)
  have HBl : Aside0 (Below B w (w.alloc (.cells #[.int .u32 0, .int .i64 0] 31))) := ⟨(Below.refl B w).alloc h.size _⟩
  have hu29 := Try.underlying31
  cases s with
  | nil =>
    obtain rfl := List.Perm.eq_nil hp
    rw [decide_eq_true rfl] at HN
    clear h h1 hk hp hg
    go_enter Try.func54, Try.ntmps54
    go_wp2_with (refine HN.out.mono ?_; rintro e w1 ⟨rfl, rfl⟩)
    refine bodyPost_ret (v := pairV z31 false) (by simp [results, Try.results54, go_sem, pairV, z31]) rfl ?_
    exact ⟨rfl, HH.out.alloc _, HBl.out⟩
  | cons x s =>
    have hx := heap_first hk hp hg
    have hl : l ≠ [] := fun q => by rw [q] at hp; exact absurd hp.symm.eq_nil (by simp)
    rw [decide_eq_false hl] at HN
    have hlen : 0 < l.length := List.length_pos_iff.2 hl
    have HC := Aside0.mk (cut_calls HA.out 0 hlen (fun y hy => hg.good y (hp.subset hy)) (by rw [hp.length_eq]; exact hg.few) hk)
    rw [hx] at HC
    have HP := Aside0.mk hp
    have HG := Aside0.mk hg
    clear h h1 hk hp hg hx hl
    generalize hW : w.alloc (.cells #[.int .u32 0, .int .i64 0] 31) = W at HN HC HA HBl
    go_enter Try.func54, Try.ntmps54
    go_wp2_with fail
    clear hW
    refine HN.out.mono ?_
    rintro e w1 ⟨rfl, rfl⟩
    go_wp2_with fail
    refine HC.out.mono ?_
    rintro e w2 ⟨l2, rfl, hA2, hB2, hp2, hk2⟩
    have HA2 := Aside0.mk hA2
    have HB2 := Aside0.mk hB2
    have HP2 := Aside0.mk hp2
    have HK2 := Aside0.mk hk2
    clear hA2 hB2 hp2 hk2 HC HN
    obtain ⟨r1, r2, r3, r4⟩ := Has.box_cell HA2.out (b := w.heap.size) (cs := #[.int .u32 0, .int .i64 0]) (t := 31) (by simp)
    have r10 : w2.cell? ⟨w.heap.size, 0, none⟩ = some (.int .u32 0) := r1 0
    have r11 : w2.cell? ⟨w.heap.size, 1, none⟩ = some (.int .i64 0) := r1 1
    have r20 := r2 0
    have r21 := r2 1
    clear r1 r2 r4
    go_wp2
    have hz := Has.box_set HA2.out.swap 0 (.int .u32 x.f0)
    have hz2 := Has.box_set hz.1 1 (.int .i64 x.f1)
    have HB4 : Aside0 (Below B w _) := ⟨((HBl.out.trans HB2.out).trans hz.2).trans hz2.2⟩
    have HA4 := Aside0.mk hz2.1
    clear hz hz2 r10 r11 r20 r21
    generalize (w2.setCell ⟨w.heap.size, 0, none⟩ (.int .u32 x.f0)).setCell ⟨w.heap.size, 1, none⟩ (.int .i64 x.f1) = w4 at HA4 HB4 ⊢
    obtain ⟨q1, q2, q3, q4⟩ := Has.box_cell HA4.out List.mem_cons_self
    have q10 : w4.cell? ⟨w.heap.size, 0, none⟩ = some (.int .u32 x.f0) := q1 0
    have q11 : w4.cell? ⟨w.heap.size, 1, none⟩ = some (.int .i64 x.f1) := q1 1
    refine bodyPost_ret (v := pairV x true) (by simp [results, Try.results54, go_sem, pairV, q10, q11]) rfl ?_
    exact ⟨rfl, row_heap HA4.out.tail HK2.out (List.Perm.cons_inv (HP2.out.trans HP.out)) (good_tail HG.out), HB4.out⟩
set_option maxHeartbeats 4000000 in
set_option maxRecDepth 100000 in
theorem remove_calls {B : Nat} {w : World} {Ts : List Th} {p : Nat} {s : List S31} (h : Has B w (heapT p s :: Ts)) (r : Int) :
    Calls Try.prog 39 #[ptr p, .int .u32 r] w (StayPost B w (heapT p (withoutL s r) :: Ts) (.bool (hasL s r))) := by
  obtain ⟨l, h1, hk, hp, hg⟩ := heap_row h
  have HH := Aside0.mk h
  have HA := Aside0.mk h1
  have HN := Aside0.mk (none_calls h1)
  have HF := Aside0.mk (find_calls h1 r)
  have HP := Aside0.mk hp
  have HG := Aside0.mk hg
  have HK := Aside0.mk hk
  have hper := hasL_perm hp r
  cases hn : hasL s r with
  | false =>
    rw [hn] at hper
    have hf := findF_neg hper
    unfold FindPost at HF
    rw [hf] at HF
    have HW : Aside0 (withoutL s r = s) := ⟨List.filter_eq_self.2 fun y hy => by simpa [bne_iff_ne] using hasL_false.1 hn y hy⟩
    rw [HW.out]
    clear h h1 hk hp hg hf hper hn
    by_cases hl : l = []
    · rw [decide_eq_true hl] at HN
      clear hl
      go_enter Try.func39, Try.ntmps39
      go_wp2_with (refine HN.out.mono ?_; rintro e w1 ⟨rfl, rfl⟩)
      go_ret
      exact ⟨rfl, HH.out, Below.refl _ _⟩
    · rw [decide_eq_false hl] at HN
      clear hl
      go_enter Try.func39, Try.ntmps39
      go_wp2_with fail
      refine HN.out.mono ?_
      rintro e w1 ⟨rfl, rfl⟩
      go_wp2_with fail
      refine HF.out.mono ?_
      rintro e w1 ⟨rfl, hb1⟩
      go_wp2
      go_ret
      exact ⟨rfl, HH.out.below hb1, below_of HH.out.size hb1⟩
  | true =>
    rw [hn] at hper
    obtain ⟨k, hkl, hkr, hf⟩ := findF_pos hper
    unfold FindPost at HF
    rw [hf] at HF
    have hl : l ≠ [] := fun q => by rw [q] at hkl; simp at hkl
    rw [decide_eq_false hl] at HN
    have HKR : Aside0 ((rd_T31 l (k : Nat)).f0 = r) := ⟨by rw [rd_nat l hkl]; exact hkr⟩
    have HKL := Aside0.mk hkl
    have d0 : decide (0 ≤ (k : Int)) = true := decide_eq_true (by omega)
    clear h h1 hk hp hg hf hper hn hl hkr hkl
    go_enter Try.func39, Try.ntmps39
    go_wp2_with fail
    refine HN.out.mono ?_
    rintro e w1 ⟨rfl, rfl⟩
    go_wp2_with fail
    refine HF.out.mono ?_
    rintro e w1 ⟨rfl, hb1⟩
    go_wp2_with fail
    refine (cut_calls (HA.out.below hb1) k HKL.out (fun y hy => HG.out.good y (HP.out.subset hy)) (by rw [HP.out.length_eq]; exact HG.out.few) HK.out).mono ?_
    rintro e w2 ⟨l2, rfl, hA2, hB2, hp2, hk2⟩
    go_wp2
    go_ret
    refine ⟨rfl, row_heap hA2 hk2 ?_ (good_without HG.out r), (below_of HH.out.size hb1).trans hB2⟩
    have e1 : (rd_T31 l (k : Nat) :: l2).Perm s := hp2.trans HP.out
    have e2 := e1.filter fun x => x.f0 != r
    rw [List.filter_cons, HKR.out] at e2
    simp only [bne_self_eq_false, Bool.false_eq_true, if_false] at e2
    have e3 : (rd_T31 l (k : Nat) :: l2).Pairwise fun a b => a.f0 ≠ b.f0 := (e1.pairwise_iff (R := fun a b : S31 => a.f0 ≠ b.f0) (fun hab => Ne.symm hab)).2 HG.out.once
    have e4 : l2.filter (fun x => x.f0 != r) = l2 := List.filter_eq_self.2 fun y hy => by
      have := (List.pairwise_cons.1 e3).1 y hy
      rw [HKR.out] at this
      simpa [bne_iff_ne] using Ne.symm this
    rw [e4] at e2
    exact e2
end Go.Proofs.Ytpnoghnhlddjeaa.Hp
