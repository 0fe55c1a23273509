/- The heap's row of tasks behind a pointer: a task is taken out; where a rule's task is, walked. No law is proved here. -/
import Derived.Test.YtpnoghnhlddjeaaHeapC
namespace Go.Proofs.Ytpnoghnhlddjeaa.Hp
open Go.RowKit Go.Proofs.YtpnoghnhlddjeaaW.PrintWords Go.Proofs.Ytpnoghnhlddjeaa.Q Go.Proofs.Ytpnoghnhlddjeaa.Own
set_option linter.unusedVariables false
set_option linter.unusedSimpArgs false
attribute [local go_sem ↓] Go.wp_at_zero Go.wp_at_succ

theorem rd_take (l : List S31) (m j : Nat) (hj : j < m) : rd_T31 (l.take m) j = rd_T31 l j := by
  unfold rd_T31
  rw [Int.toNat_natCast, List.getD_eq_getElem?_getD, List.getD_eq_getElem?_getD, List.getElem?_take_of_lt hj]
theorem keyL_take (l : List S31) {m j : Nat} (hj : j < m) : keyL (l.take m) j = keyL l j := by
  unfold keyL
  rw [rd_take l m j hj]
theorem take_last (l : List S31) (m : Nat) (h : l.length = m + 1) : (rd_T31 l m :: l.take m).Perm l := by
  have e : l = l.take m ++ [rd_T31 l m] := by
    rw [rd_nat l (by omega)]
    have := List.take_append_drop m l
    rw [List.drop_eq_getElem_cons (by omega), List.drop_of_length_le (by omega)] at this
    exact this.symm
  rw [List.perm_comm]
  refine (List.Perm.of_eq e).trans ?_
  exact List.perm_append_comm.trans (List.Perm.refl _)
/-- Behind the change of places of what is taken out and the last one. -/
def CutMid (B : Nat) (w : World) (Ts : List Th) (p : Nat) (l : List S31) (i m : Nat) (x : S31) (e : Ending) (w' : World) : Prop :=
  e = .returned (.tuple #[]) ∧ ∃ l1, Has B w' (rowH p l1 :: Ts) ∧ Below B w w' ∧ l1.length = m + 1 ∧ (x :: l1.take m).Perm l ∧ (i < m → HpK.UpK (keyL (l1.take m)) m i i) ∧ (i = m → HpK.HeapK (keyL (l1.take m)) m)
theorem cut_mid {B : Nat} {w : World} {Ts : List Th} {p : Nat} {l : List S31} (h : Has B w (rowH p l :: Ts)) (i m : Nat) (hm : l.length = m + 1) (hi : i < l.length) (hh : HpK.HeapK (keyL l) l.length) :
    Calls Try.prog 58 #[ptr p, .int .i64 i, .int .i64 m] w (CutMid B w Ts p l i m (rd_T31 l i)) := by
  by_cases e : i = m
  · subst e
    refine (swap_same h i (by omega) (by omega)).mono ?_
    rintro e w' ⟨rfl, h1, h2⟩
    refine ⟨rfl, l, h1, h2, hm, take_last l i hm, fun q => absurd q (Nat.lt_irrefl _), fun _ j a b => ?_⟩
    rw [keyL_take l b, keyL_take l (by omega)]
    exact hh j a (by omega)
  · refine (swap_calls h i m (by omega) (by omega) (by omega) (by omega) (by omega)).mono ?_
    rintro e' w' ⟨rfl, h1, h2⟩
    have hl : (swapL l i m).length = m + 1 := (swapL_perm l hi (by omega)).length_eq.trans hm
    have hx : rd_T31 (swapL l i m) m = rd_T31 l i := by
      rw [swapL_nat, rd_set _ m (by rw [List.length_set]; omega), if_pos rfl]
    have hk : ∀ j, j < m → keyL ((swapL l i m).take m) j = if j = i then keyL l m else keyL l j := by
      intro j hj
      rw [keyL_take _ hj, keyL_swap l hi (by omega)]
      unfold HpK.swapK
      rw [if_neg (by omega)]
    refine ⟨rfl, _, h1, h2, hl, ?_, fun q => ⟨Nat.le_refl _, fun j a b d f => ?_, fun a j b d f => ?_⟩, fun q => absurd q e⟩
    · rw [← hx]
      exact (take_last _ m hl).trans (swapL_perm l hi (by omega))
    · rw [hk j b, hk _ (by omega), if_neg d, if_neg (f rfl)]
      exact hh j a (by omega)
    · rw [hk j d, hk _ (by omega), if_neg (by omega), if_neg (by omega)]
      have q1 := hh i a (by omega)
      have q2 := hh j b (by omega)
      rw [f] at q2
      omega
def CutPost (B : Nat) (w : World) (Ts : List Th) (p : Nat) (l : List S31) (x : S31) (e : Ending) (w' : World) : Prop :=
  ∃ l', e = .returned (.agg #[.int .u32 x.f0, .int .i64 x.f1]) ∧ Has B w' (rowH p l' :: Ts) ∧ Below B w w' ∧ (x :: l').Perm l ∧ HpK.HeapK (keyL l') l'.length
set_option maxHeartbeats 8000000 in
set_option maxRecDepth 100000 in
theorem cut_calls {B : Nat} {w : World} {Ts : List Th} {p : Nat} {l : List S31} (h : Has B w (rowH p l :: Ts)) (i : Nat) (hi : i < l.length) (hg : ∀ x ∈ l, GoodT x) (hn : l.length ≤ 1000000) (hh : HpK.HeapK (keyL l) l.length) :
    Calls Try.prog 55 #[ptr p, .int .i64 i] w (CutPost B w Ts p l (rd_T31 l i)) := by
  have HG := Aside0.mk hg
  have HH := Aside0.mk hh
  have hu29 := Try.underlying31
  obtain ⟨F, ⟨hF, v, hb, hr⟩, hFb, put⟩ := h.head
  obtain ⟨g, c, rfl, hcc⟩ := row_pos hr (by omega)
  have c0 : w.cell? ⟨p, 0, none⟩ = some (.slice (some ⟨g, 0, none⟩) l.length c) := by rw [blk_cell hb]; rfl
  obtain ⟨_, _, hC⟩ := Kd.R_reads' hr
  obtain ⟨ad, e0, hi2, hi3⟩ := at_T31 hC i (by omega) (by omega)
  cases e0
  rw [add_plain, Int.toNat_natCast] at hi2 hi3
  dsimp only at hi3
  have b0 : (0 : Int) ≤ (i : Int) := by omega
  have b1 : (i : Int) < (l.length : Int) := by omega
  have d1 : decide (i < l.length) = true := decide_eq_true hi
  obtain ⟨x, hx⟩ : ∃ x, x = rd_T31 l i := ⟨_, rfl⟩
  rw [← hx] at hi2 hi3 ⊢
  have HX := Aside0.mk hx
  have hp1 : p < w.heap.size := (hFb p hF).2
  have hg1 : g < w.heap.size := (hFb g (hr.1 g (by simp [Value.ownBlock])).1).2
  have H := Aside0.mk h
  clear put hr hb hC hFb hx hg hh h hF
  go_enter Try.func55, Try.ntmps55
  go_wp2_with fail
  have hA : Has B ((w.alloc (.cells #[.int .u32 0, .int .i64 0] 31)).alloc (.cells #[.int .u32 x.f0, .int .i64 x.f1] 31)) (rowH p l :: boxT (w.heap.size + 1) #[.int .u32 x.f0, .int .i64 x.f1] 31 :: boxT w.heap.size #[.int .u32 0, .int .i64 0] 31 :: Ts) := by
    have h1 := (H.out.box #[.int .u32 0, .int .i64 0] 31).box #[.int .u32 x.f0, .int .i64 x.f1] 31
    rw [World.size_alloc] at h1
    exact h1.third
  have hB : Below B w ((w.alloc (.cells #[.int .u32 0, .int .i64 0] 31)).alloc (.cells #[.int .u32 x.f0, .int .i64 x.f1] 31)) := ((Below.refl B w).alloc H.out.size _).alloc (Nat.le_trans H.out.size (by simp)) _
  have hR : w.heap.size + 2 ≤ ((w.alloc (.cells #[.int .u32 0, .int .i64 0] 31)).alloc (.cells #[.int .u32 x.f0, .int .i64 x.f1] 31)).heap.size := by simp
  generalize (w.alloc (.cells #[.int .u32 0, .int .i64 0] 31)).alloc (.cells #[.int .u32 x.f0, .int .i64 x.f1] 31) = W at hA hB hR ⊢
  have HA := Aside0.mk hA
  have HB := Aside0.mk hB
  have HPW := Aside0.mk hp1
  clear hA hB c0 hi2 hi3 H hg1 hp1
  refine (many_calls HA.out).mono ?_
  rintro e w' ⟨rfl, rfl⟩
  obtain ⟨m, hm⟩ : ∃ m, l.length = m + 1 := ⟨l.length - 1, by omega⟩
  have e1 : wrap64 ((l.length : Int) - 1) = (m : Int) := by unfold wrap64; omega
  have HM := Aside0.mk hm
  clear hm
  go_wp2_with fail
  clear e1
  rw [show (l.length : Int) - 1 = (m : Int) by have := HM.out; omega]
  refine (cut_mid HA.out i m HM.out hi HH.out).mono ?_
  rintro e w1 ⟨rfl, l1, hA1, hB1, hl1, hp1, hu1, hh1⟩
  rw [← HX.out] at hp1
  obtain ⟨F1, ⟨hF1, v1, hb1, hr1⟩, hFb1, put1⟩ := hA1.head
  obtain ⟨g1, c1, rfl, hcc1⟩ := row_pos hr1 (by omega)
  have c0 : w1.cell? ⟨p, 0, none⟩ = some (.slice (some ⟨g1, 0, none⟩) l1.length c1) := by rw [blk_cell hb1]; rfl
  have f0 : w1.frozen? ⟨p, 0, none⟩ = false := blk_frozen hb1 0
  have b2 : (0 : Int) ≤ (m : Int) := by omega
  have b3 : (m : Int) ≤ (c1 : Int) := by omega
  have hu22 := Try.underlying22
  have HA1 := Aside0.mk hA1
  have HB1 := Aside0.mk hb1
  have HR1 := Aside0.mk hr1
  have PUT1 := Aside0.mk put1
  have FB1 := Aside0.mk hFb1
  have HBW := Aside0.mk (HB.out.trans hB1)
  have HX1 := Aside0.mk (And.intro hp1 (And.intro hu1 hh1))
  have HL1 := Aside0.mk hl1
  clear hA1 hB1 hb1 hr1 put1 hFb1 hp1 hu1 hh1 hl1
  have HA2 : Aside0 (Has B (w1.setCell ⟨p, 0, none⟩ (.slice (some ⟨g1, 0, none⟩) m c1)) (rowH p (l1.take m) :: boxT (w.heap.size + 1) #[.int .u32 x.f0, .int .i64 x.f1] 31 :: boxT w.heap.size #[.int .u32 0, .int .i64 0] 31 :: Ts) ∧ Below B w1 (w1.setCell ⟨p, 0, none⟩ (.slice (some ⟨g1, 0, none⟩) m c1))) :=
    ⟨PUT1.out _ F1 _ ((KeepF.refl F1 w1).setCell (.inl hF1) _) ⟨hF1, .slice (some ⟨g1, 0, none⟩) m c1, blk_set HB1.out 0 _, Kd.R_far (Kd.R_take HR1.out (m := m) (by have := HL1.out; omega)) (fun k hk => hk.2) _⟩ (fun k hk => ⟨.inl hk, by have := (FB1.out k hk).2; simpa using this⟩)⟩
  have HT2 : Aside0 ((l1.take m).length = m) := ⟨by rw [List.length_take]; have := HL1.out; omega⟩
  by_cases hlt : i < m
  · have d5 : decide (i < m) = true := decide_eq_true hlt
    go_wp2_with fail
    have HG2 : Aside0 (∀ y ∈ l1.take m, GoodT y) := ⟨fun y hy => HG.out y (HX1.out.1.subset (List.mem_cons_of_mem _ hy))⟩
    generalize w1.setCell ⟨p, 0, none⟩ (.slice (some ⟨g1, 0, none⟩) m c1) = W2 at HA2 ⊢
    refine (up_calls HA2.out.1 i (by rw [HT2.out]; exact hlt) HG2.out).mono ?_
    rintro e w2 ⟨l2, rfl, hA, hB, hp, hk⟩
    have HA4 := Aside0.mk hA
    have HB4 := Aside0.mk hB
    have HP4 := Aside0.mk hp
    have HK4 := Aside0.mk hk
    clear hA hB hp hk
    go_wp2_with fail
    refine (down_calls HA4.out i (by rw [HP4.out.length_eq, HT2.out]; exact hlt) (fun y hy => HG2.out y (HP4.out.subset hy)) (by rw [HP4.out.length_eq, HT2.out]; have := HM.out; omega)).mono ?_
    rintro e w3 ⟨l3, rfl, hA, hB, hp, hk⟩
    have HA3 := Aside0.mk hA
    have HB3 : Aside0 (Below B w w3) := ⟨((HBW.out.trans HA2.out.2).trans HB4.out).trans hB⟩
    have HE3 : Aside0 ((x :: l3).Perm l ∧ HpK.HeapK (keyL l3) l3.length) := ⟨(List.Perm.cons x (hp.trans HP4.out)).trans HX1.out.1, by
      rw [hp.length_eq]
      refine hk ?_
      have := HK4.out
      rw [HP4.out.length_eq]
      rw [HT2.out] at this ⊢
      exact this (HX1.out.2.1 hlt)⟩
    clear hA hB hp hk HA4 HB4 HK4 HP4 HA2
    obtain ⟨q1, q2, q3, q4⟩ := Has.box_cell HA3.out (b := w.heap.size + 1) (cs := #[.int .u32 x.f0, .int .i64 x.f1]) (t := 31) (by simp)
    obtain ⟨r1, r2, r3, r4⟩ := Has.box_cell HA3.out (b := w.heap.size) (cs := #[.int .u32 0, .int .i64 0]) (t := 31) (by simp)
    have q10 : w3.cell? ⟨w.heap.size + 1, 0, none⟩ = some (.int .u32 x.f0) := q1 0
    have q11 : w3.cell? ⟨w.heap.size + 1, 1, none⟩ = some (.int .i64 x.f1) := q1 1
    have r10 : w3.cell? ⟨w.heap.size, 0, none⟩ = some (.int .u32 0) := r1 0
    have r11 : w3.cell? ⟨w.heap.size, 1, none⟩ = some (.int .i64 0) := r1 1
    have r20 := r2 0
    have r21 := r2 1
    clear q1 q2 q4 r1 r2 r4
    go_wp2
    have hz := Has.box_set HA3.out.third 0 (.int .u32 x.f0)
    have hz2 := Has.box_set hz.1 1 (.int .i64 x.f1)
    have HB4 : Aside0 (Below B w _) := ⟨(HB3.out.trans hz.2).trans hz2.2⟩
    have HA4 := Aside0.mk hz2.1
    clear hz hz2 q10 q11 r10 r11 r20 r21
    generalize (w3.setCell ⟨w.heap.size, 0, none⟩ (.int .u32 x.f0)).setCell ⟨w.heap.size, 1, none⟩ (.int .i64 x.f1) = w4 at HA4 HB4 ⊢
    obtain ⟨q1, q2, q3, q4⟩ := Has.box_cell HA4.out List.mem_cons_self
    have q10 : w4.cell? ⟨w.heap.size, 0, none⟩ = some (.int .u32 x.f0) := q1 0
    have q11 : w4.cell? ⟨w.heap.size, 1, none⟩ = some (.int .i64 x.f1) := q1 1
    refine bodyPost_ret (v := .agg #[.int .u32 x.f0, .int .i64 x.f1]) (by simp [results, Try.results55, go_sem, q10, q11]) rfl ?_
    exact ⟨l3, rfl, HA4.out.tail.swap.tail, HB4.out, HE3.out.1, HE3.out.2⟩
  · have d5 : decide (i < m) = false := decide_eq_false hlt
    have HA3 := Aside0.mk HA2.out.1
    have HB3 : Aside0 (Below B w _) := ⟨HBW.out.trans HA2.out.2⟩
    have HE3 : Aside0 ((x :: l1.take m).Perm l ∧ HpK.HeapK (keyL (l1.take m)) (l1.take m).length) := ⟨HX1.out.1, by rw [HT2.out]; exact HX1.out.2.2 (by have := HM.out; omega)⟩
    have n1 : ¬ p = w.heap.size := by have := HPW.out; omega
    have n2 : ¬ w.heap.size = p := by have := HPW.out; omega
    have n3 : ¬ p = w.heap.size + 1 := by have := HPW.out; omega
    have n4 : ¬ w.heap.size + 1 = p := by have := HPW.out; omega
    clear HA2
    obtain ⟨q1, q2, q3, q4⟩ := Has.box_cell HA1.out (b := w.heap.size + 1) (cs := #[.int .u32 x.f0, .int .i64 x.f1]) (t := 31) (by simp)
    obtain ⟨r1, r2, r3, r4⟩ := Has.box_cell HA1.out (b := w.heap.size) (cs := #[.int .u32 0, .int .i64 0]) (t := 31) (by simp)
    have q10 : w1.cell? ⟨w.heap.size + 1, 0, none⟩ = some (.int .u32 x.f0) := q1 0
    have q11 : w1.cell? ⟨w.heap.size + 1, 1, none⟩ = some (.int .i64 x.f1) := q1 1
    have r10 : w1.cell? ⟨w.heap.size, 0, none⟩ = some (.int .u32 0) := r1 0
    have r11 : w1.cell? ⟨w.heap.size, 1, none⟩ = some (.int .i64 0) := r1 1
    have r20 := r2 0
    have r21 := r2 1
    clear q1 q2 q4 r1 r2 r4
    go_wp2
    have hz := Has.box_set HA3.out.third 0 (.int .u32 x.f0)
    have hz2 := Has.box_set hz.1 1 (.int .i64 x.f1)
    have HB4 : Aside0 (Below B w _) := ⟨(HB3.out.trans hz.2).trans hz2.2⟩
    have HA4 := Aside0.mk hz2.1
    clear hz hz2 q10 q11 r10 r11 r20 r21
    generalize ((w1.setCell ⟨p, 0, none⟩ (.slice (some ⟨g1, 0, none⟩) m c1)).setCell ⟨w.heap.size, 0, none⟩ (.int .u32 x.f0)).setCell ⟨w.heap.size, 1, none⟩ (.int .i64 x.f1) = w4 at HA4 HB4 ⊢
    obtain ⟨q1, q2, q3, q4⟩ := Has.box_cell HA4.out List.mem_cons_self
    have q10 : w4.cell? ⟨w.heap.size, 0, none⟩ = some (.int .u32 x.f0) := q1 0
    have q11 : w4.cell? ⟨w.heap.size, 1, none⟩ = some (.int .i64 x.f1) := q1 1
    refine bodyPost_ret (v := .agg #[.int .u32 x.f0, .int .i64 x.f1]) (by simp [results, Try.results55, go_sem, q10, q11]) rfl ?_
    exact ⟨l1.take m, rfl, HA4.out.tail.swap.tail, HB4.out, HE3.out.1, HE3.out.2⟩
end Go.Proofs.Ytpnoghnhlddjeaa.Hp
