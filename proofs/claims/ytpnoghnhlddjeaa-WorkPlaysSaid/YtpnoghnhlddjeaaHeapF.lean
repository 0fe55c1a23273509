/- The heap's own methods, walked. No law is proved here. -/
import Derived.Test.YtpnoghnhlddjeaaHeapE
import Derived.Deep.AppendLies
import Derived.Test.YtpnoghnhlddjeaaWLast
import Derived.Test.YtpnoghnhlddjeaaWMore
namespace Go.Proofs.Ytpnoghnhlddjeaa.Hp
open Go.RowKit Go.Proofs.YtpnoghnhlddjeaaW.PrintWords Go.Proofs.YtpnoghnhlddjeaaW.PrintLast Go.Proofs.YtpnoghnhlddjeaaW.PrintMore Go.Proofs.Ytpnoghnhlddjeaa.Q Go.Proofs.Ytpnoghnhlddjeaa.Own
set_option linter.unusedVariables false
set_option linter.unusedSimpArgs false
attribute [local go_sem ↓] Go.wp_at_zero Go.wp_at_succ

theorem cell_al {W : World} {a : Addr} {v : Value} (o : Obj) (h : W.cell? a = some v) : (W.alloc o).cell? a = some v := (World.cell?_alloc_some W a o (by rw [h]; rfl)).trans h
theorem cell_al_drew {W : World} {a : Addr} {v : Value} (o : Obj) (h : W.drew.cell? a = some v) : (W.alloc o).drew.cell? a = some v := cell_al (W := W) o h
abbrev aggT (x : S31) : Value := .agg #[.int .u32 x.f0, .int .i64 x.f1]
/-- A row with one task more, at its end: as the append and the store leave it. -/
theorem push_row {B : Nat} {W w1 : World} {Ts : List Th} {p : Nat} {l : List S31} {x : S31} {F : Nat → Prop} {v v1 : Value} (hF : F p) (hFb : ∀ k, F k → B ≤ k ∧ k < W.heap.size)
    (put : ∀ (w' : World) (F' : Nat → Prop) (T' : Th), KeepF F W w' → T'.on w' F' → (∀ k, F' k → (F k ∨ W.heap.size ≤ k) ∧ k < w'.heap.size) → Has B w' (T' :: Ts) ∧ Below B W w')
    (hb : W.heap[p]? = some (.cells #[v, .bool true] 77 (0, 0))) (hv : ∀ k, v.ownBlock = some k → F k ∧ k ≠ p) (hg : W.grownBy w1 v.ownBlock)
    (hr : Kd.R k31 31 w1 0 (fun k => (F k ∧ k ≠ p) ∨ W.heap.size ≤ k) v1 (l ++ [x])) :
    Has B (w1.setCell ⟨p, 0, none⟩ v1) (rowH p (l ++ [x]) :: Ts) ∧ Below B W (w1.setCell ⟨p, 0, none⟩ v1) := by
  have hpl : p < W.heap.size := (hFb p hF).2
  have hb1 : w1.heap[p]? = some (.cells #[v, .bool true] 77 (0, 0)) := blk_grown hb hg (fun e => (hv p e.symm).2 rfl)
  refine put _ (fun k => (F k ∨ W.heap.size ≤ k) ∧ k < w1.heap.size) _ ((KeepF.grown (KeepF.refl F W) hg fun k e => .inl (hv k e).1).setCell (.inl hF) v1) ⟨⟨.inl hF, Nat.lt_of_lt_of_le hpl hg.size⟩, v1, blk_set hb1 0 v1, ?_⟩ (fun k hk => ⟨hk.1, by simpa using hk.2⟩)
  refine Kd.R_far ?_ (fun k hk => hk.2) v1
  refine Kd.R_mono (Kd.R_bound hr) fun k hk => ⟨⟨hk.1.elim (fun q => .inl q.1) .inr, hk.2.2.1⟩, ?_⟩
  rcases hk.1 with q | q
  · exact q.2
  · omega
def hasL (s : List S31) (r : Int) : Bool := s.any fun x => x.f0 == r
theorem findF_pos {l : List S31} {r : Int} (h : hasL l r = true) : ∃ k : Nat, ∃ hk : k < l.length, l[k].f0 = r ∧ findF r 0 l = k := by
  have key : ∀ (l : List S31) (i : Nat), hasL l r = true → ∃ k : Nat, ∃ hk : k < l.length, l[k].f0 = r ∧ findF r i l = ((i + k : Nat) : Int) := by
    intro l
    induction l with
    | nil => intro i h; simp [hasL] at h
    | cons x l ih =>
      intro i h
      unfold findF
      by_cases e : x.f0 = r
      · rw [if_pos e]
        exact ⟨0, by simp, by simpa using e, rfl⟩
      · rw [if_neg e]
        have h' : hasL l r = true := by
          unfold hasL at h ⊢
          rw [List.any_cons, beq_eq_false_iff_ne.2 e, Bool.false_or] at h
          exact h
        obtain ⟨k, hk, h1, h2⟩ := ih (i + 1) h'
        exact ⟨k + 1, by simpa using hk, by simpa using h1, by rw [h2]; congr 1; omega⟩
  obtain ⟨k, hk, h1, h2⟩ := key l 0 h
  exact ⟨k, hk, h1, by rw [h2]; congr 1; omega⟩
theorem findF_neg {l : List S31} {r : Int} (h : hasL l r = false) : findF r 0 l = -1 := by
  refine findF_miss r l 0 fun x hx e => ?_
  have : hasL l r = true := List.any_eq_true.2 ⟨x, hx, by simpa using e⟩
  rw [h] at this
  cases this
theorem hasL_perm {l s : List S31} (h : l.Perm s) (r : Int) : hasL l r = hasL s r := by
  rw [Bool.eq_iff_iff]
  unfold hasL
  simp only [List.any_eq_true]
  exact ⟨fun ⟨x, a, b⟩ => ⟨x, h.subset a, b⟩, fun ⟨x, a, b⟩ => ⟨x, h.symm.subset a, b⟩⟩
def PushPost (B : Nat) (w : World) (Ts : List Th) (p : Nat) (l : List S31) (x : S31) (e : Ending) (w' : World) : Prop :=
  ∃ l', e = .returned (.int .i64 0) ∧ Has B w' (rowH p l' :: Ts) ∧ Below B w w' ∧ l'.Perm (l ++ [x]) ∧ HpK.HeapK (keyL l') l'.length
set_option maxHeartbeats 8000000 in
set_option maxRecDepth 100000 in
theorem push_new {B : Nat} {w : World} {Ts : List Th} {p : Nat} {l : List S31} (h : Has B w (rowH p l :: Ts)) (x : S31) (hn : hasL l x.f0 = false) (hg : ∀ y ∈ l ++ [x], GoodT y) (hm : l.length < 1000000) (hh : HpK.HeapK (keyL l) l.length) :
    Calls Try.prog 29 #[ptr p, aggT x] w (PushPost B w Ts p l x) := by
  have HG := Aside0.mk hg
  have HH := Aside0.mk hh
  have HN := Aside0.mk (findF_neg hn)
  have hu29 := Try.underlying31
  have hu22 := Try.underlying22
  have hA : Has B (w.alloc (.cells #[.int .u32 x.f0, .int .i64 x.f1] 31)) (rowH p l :: boxT w.heap.size #[.int .u32 x.f0, .int .i64 x.f1] 31 :: Ts) := (h.box #[.int .u32 x.f0, .int .i64 x.f1] 31).swap
  have hBl : Below B w (w.alloc (.cells #[.int .u32 x.f0, .int .i64 x.f1] 31)) := (Below.refl B w).alloc h.size _
  obtain ⟨F, ⟨hF, v, hb, hr⟩, hFb, put⟩ := h.head
  have hp1 : p < w.heap.size := (hFb p hF).2
  have c1 : w.cell? ⟨p, 1, none⟩ = some (.bool true) := by rw [blk_cell hb]; rfl
  clear put hr hb hFb hg hh hn h hF
  have HA := Aside0.mk hA
  have HBl := Aside0.mk hBl
  clear hA hBl
  go_enter Try.func29, Try.ntmps29
  go_wp2_with fail
  generalize w.alloc (.cells #[.int .u32 x.f0, .int .i64 x.f1] 31) = W at HA HBl ⊢
  obtain ⟨q1, q2, q3, q4⟩ := Has.box_cell HA.out (b := w.heap.size) (cs := #[.int .u32 x.f0, .int .i64 x.f1]) (t := 31) (by simp)
  have q10 : W.cell? ⟨w.heap.size, 0, none⟩ = some (.int .u32 x.f0) := q1 0
  clear q1 q2 q4 c1
  go_region_held3 (fun w' => w'.cell? ⟨w.heap.size, 0, none⟩ = some (.int .u32 x.f0)) (first | exact q10 | assumption) (first | (go_at_call 44; refine (find_calls HA.out.drew x.f0).mono ?_; rintro e w1 ⟨rfl, hb1⟩; rw [HN.out]; have q11 := pw_cell_below hb1 (show W.drew.cell? _ = _ from q10)))
  go_wp2_with fail
  have HB1 : Aside0 (Below B w w1) := ⟨HBl.out.trans (below_of HA.out.size ⟨hb1.os, hb1.tape, hb1.output, hb1.size, hb1.block⟩)⟩
  have HA1 : Aside0 (Has B w1.drew (rowH p l :: boxT w.heap.size #[.int .u32 x.f0, .int .i64 x.f1] 31 :: Ts)) := ⟨(HA.out.drew.below hb1).drew⟩
  clear q10 q11 hb1 HA HBl q3
  obtain ⟨q1, q2, q3, q4⟩ := Has.box_cell HA1.out (b := w.heap.size) (cs := #[.int .u32 x.f0, .int .i64 x.f1]) (t := 31) (by simp)
  have q10 : w1.drew.cell? ⟨w.heap.size, 0, none⟩ = some (.int .u32 x.f0) := q1 0
  have q11 : w1.drew.cell? ⟨w.heap.size, 1, none⟩ = some (.int .i64 x.f1) := q1 1
  clear q1 q2 q4
  obtain ⟨F, ⟨hF, v, hb, hr⟩, hFb, put, hap⟩ := HA1.out.headA
  have hbx : w1.drew.heap[w.heap.size]? = some (.cells #[.int .u32 x.f0, .int .i64 x.f1] 31 (0, 0)) := by
    obtain ⟨G, g1, _⟩ := HA1.out.mem (T := boxT w.heap.size #[.int .u32 x.f0, .int .i64 x.f1] 31) (by simp)
    exact g1.2
  have hnx : some w.heap.size ≠ v.ownBlock := fun e => hap w.heap.size _ _ List.mem_cons_self (hr.1 w.heap.size e.symm).1
  have HBX := Aside0.mk hbx
  have HNX := Aside0.mk hnx
  have c0 : w1.drew.cell? ⟨p, 0, none⟩ = some v := by rw [blk_cell hb]; rfl
  have hv : ∀ k, v.ownBlock = some k → F k ∧ k ≠ p := fun k hk => hr.1 k hk
  have hr2 : Kd.R k31 31 w1.drew 0 (fun k => (F k ∧ k ≠ p) ∨ w1.drew.heap.size ≤ k) v l := Kd.R_mono hr fun k hk => .inl hk
  have HBK := Aside0.mk hb
  have HV := Aside0.mk hv
  have HR := Aside0.mk hr2
  have HFB := Aside0.mk hFb
  have PUT := Aside0.mk put
  have HF := Aside0.mk hF
  clear hb hv hr hr2 hFb put hF hap hbx hnx
  have f0 : w1.drew.frozen? ⟨p, 0, none⟩ = false := blk_frozen HBK.out 0
  refine start_ (n := 13) (S := fun w' => w'.cell? ⟨p, 0, none⟩ = some v ∧ w'.cell? ⟨w.heap.size, 0, none⟩ = some (.int .u32 x.f0) ∧ w'.cell? ⟨w.heap.size, 1, none⟩ = some (.int .i64 x.f1)) (ds := [12]) #[false, false, false, false, false, false, false, false, false, false, false, false, false] (by kernel_rfl) rfl rfl ⟨c0, q10, q11⟩ (fun hHeld => ?_)
  refine pure_ (i := 0) (N := some 24) (v := ?_) (a' := ?_) #[true, false, false, false, false, false, false, false, false, false, false, false, false] rfl rfl (by kernel_rfl) (fun _ _ _ h => h) (Or.inl ⟨by rfl, ?_⟩) ?_ ?_
  rotate_left
  · intro w'
    go_simp
    with_reducible rfl
  rotate_left
  · simp only [Act.put, List.setIfInBounds_toArray, List.set_cons_zero, List.set_cons_succ, i64_w, i32_w]
    rfl
  refine pure_ (i := 1) (N := some 25) (v := ?_) (a' := ?_) #[true, true, false, false, false, false, false, false, false, false, false, false, false] rfl rfl (by kernel_rfl) (fun _ _ _ h => h) (Or.inl ⟨by rfl, ?_⟩) ?_ ?_
  rotate_left
  · intro w'
    go_simp
    with_reducible rfl
  rotate_left
  · simp only [Act.put, List.setIfInBounds_toArray, List.set_cons_zero, List.set_cons_succ, i64_w, i32_w]
    rfl
  refine pure_ (i := 2) (N := some 26) (v := ?_) (a' := ?_) #[true, true, true, false, false, false, false, false, false, false, false, false, false] rfl rfl (by kernel_rfl) (fun _ _ _ h => h) (Or.inl ⟨by rfl, ?_⟩) ?_ ?_
  rotate_left
  · intro w'
    go_simp
    with_reducible rfl
  rotate_left
  · simp only [Act.put, List.setIfInBounds_toArray, List.set_cons_zero, List.set_cons_succ, i64_w, i32_w]
    rfl
  refine pure_ (i := 3) (N := some 27) (v := ?_) (a' := ?_) #[true, true, true, true, false, false, false, false, false, false, false, false, false] rfl rfl (by kernel_rfl) (fun _ _ _ h => h) (Or.inl ⟨by rfl, ?_⟩) ?_ ?_
  rotate_left
  · intro w'
    go_simp
    with_reducible rfl
  rotate_left
  · simp only [Act.put, List.setIfInBounds_toArray, List.set_cons_zero, List.set_cons_succ, i64_w, i32_w]
    rfl
  refine pure_ (i := 4) (N := some 28) (v := ?_) (a' := ?_) #[true, true, true, true, true, false, false, false, false, false, false, false, false] rfl rfl (by kernel_rfl) (fun _ _ _ h => h) (Or.inl ⟨by rfl, ?_⟩) ?_ ?_
  rotate_left
  · intro w'
    go_simp
    with_reducible rfl
  rotate_left
  · simp only [Act.put, List.setIfInBounds_toArray, List.set_cons_zero, List.set_cons_succ, i64_w, i32_w]
    rfl
  refine take_ (i := 5) (N := some 29) (v := ?_) (a' := ?_) #[true, true, true, true, true, true, false, false, false, false, false, false, false] rfl rfl (by kernel_rfl) (fun _ _ _ h => h) (Or.inl ⟨by rfl, ?_⟩) hHeld ?_ ?_
  rotate_left
  · rintro w' ⟨s0, s1, s2⟩
    go_simp
    with_reducible rfl
  rotate_left
  · simp only [Act.put, List.setIfInBounds_toArray, List.set_cons_zero, List.set_cons_succ, i64_w, i32_w]
    rfl
  refine take_ (i := 6) (N := some 30) (v := ?_) (a' := ?_) #[true, true, true, true, true, true, true, false, false, false, false, false, false] rfl rfl (by kernel_rfl) (fun _ _ _ h => h) (Or.inl ⟨by rfl, ?_⟩) hHeld ?_ ?_
  rotate_left
  · rintro w' ⟨s0, s1, s2⟩
    go_simp
    with_reducible rfl
  rotate_left
  · simp only [Act.put, List.setIfInBounds_toArray, List.set_cons_zero, List.set_cons_succ, i64_w, i32_w]
    rfl
  refine one_ (i := 7) (N := some 31) #[true, true, true, true, true, true, true, true, false, false, false, false, false] rfl rfl (by kernel_rfl) (by decide) (fun K hK => ?_)
  refine value_ (w1 := ?_) (v := ?_) (by rfl) rfl ?_ ?_
  rotate_left 2
  · go_simp
    constructor
    · rfl
    · rfl
  refine hK.out _ _ ⟨cell_al_drew _ c0, cell_al_drew _ q10, cell_al_drew _ q11⟩ (fun hHeld => ?_)
  clear hK K
  refine norm_ (a' := ?_) ?_ ?_
  rotate_left
  · show Act.put _ (some 31) _ = _
    simp only [Act.put, List.setIfInBounds_toArray, List.set_cons_zero, List.set_cons_succ, i64_w, i32_w]
    rfl
  refine one_ (i := 8) (N := some 32) #[true, true, true, true, true, true, true, true, true, false, false, false, false] rfl rfl (by kernel_rfl) (by decide) (fun K hK => ?_)
  refine Kd.R_append_step k31 (w0 := w1.drew) (W := w1.drew) 0 (by rfl) (.tmp 29) (.tmp 31) 22 31 (.agg #[(.int .u32 0), (.int .i64 0)]) 16 (by rfl) Try.underlying22 info31 (by rfl) (by decide) (by decide) v l x [.int .u32 x.f0, .int .i64 x.f1] (fun k => (F k ∧ k ≠ p) ∨ w1.drew.heap.size ≤ k) (fun _ => False) (by rfl) (by rfl) (k31_mkM _ _ _ x) (fun _ f => f.elim) (fun k hk => .inr hk) HR.out (Below.refl _ _) (Nat.zero_le _) (by omega) ?_
  intro v1 w2 hr3 hb3 hg3 hat3
  obtain ⟨A1, cc1, rfl⟩ := Kd.R_slice hr3
  have f1 : w2.frozen? ⟨p, 0, none⟩ = false := blk_frozen (blk_grown HBK.out hg3 (fun e => (HV.out p e.symm).2 rfl)) 0
  have s0 : w2.cell? ⟨p, 0, none⟩ = some v := (blk_cell (blk_grown HBK.out hg3 (fun e => (HV.out p e.symm).2 rfl)) 0).trans rfl
  have s1 : w2.cell? ⟨w.heap.size, 0, none⟩ = some (.int .u32 x.f0) := (blk_cell (blk_grown HBX.out hg3 HNX.out) 0).trans rfl
  have s2 : w2.cell? ⟨w.heap.size, 1, none⟩ = some (.int .i64 x.f1) := (blk_cell (blk_grown HBX.out hg3 HNX.out) 1).trans rfl
  refine hK.out _ _ ⟨s0, s1, s2⟩ (fun hHeld => ?_)
  clear hK K
  refine norm_ (a' := ?_) ?_ ?_
  rotate_left
  · show Act.put _ (some 32) _ = _
    simp only [Act.put, List.setIfInBounds_toArray, List.set_cons_zero, List.set_cons_succ, i64_w, i32_w]
    rfl
  refine pure_ (i := 9) (N := some 33) (v := ?_) (a' := ?_) #[true, true, true, true, true, true, true, true, true, true, false, false, false] rfl rfl (by kernel_rfl) (fun _ _ _ h => h) (Or.inl ⟨by rfl, ?_⟩) ?_ ?_
  rotate_left
  · intro w'
    go_simp
    with_reducible rfl
  rotate_left
  · simp only [Act.put, List.setIfInBounds_toArray, List.set_cons_zero, List.set_cons_succ, i64_w, i32_w]
    rfl
  refine pure_ (i := 10) (N := some 34) (v := ?_) (a' := ?_) #[true, true, true, true, true, true, true, true, true, true, true, false, false] rfl rfl (by kernel_rfl) (fun _ _ _ h => h) (Or.inl ⟨by rfl, ?_⟩) ?_ ?_
  rotate_left
  · intro w'
    go_simp
    with_reducible rfl
  rotate_left
  · simp only [Act.put, List.setIfInBounds_toArray, List.set_cons_zero, List.set_cons_succ, i64_w, i32_w]
    rfl
  refine pure_ (i := 11) (N := some 35) (v := ?_) (a' := ?_) #[true, true, true, true, true, true, true, true, true, true, true, true, false] rfl rfl (by kernel_rfl) (fun _ _ _ h => h) (Or.inl ⟨by rfl, ?_⟩) ?_ ?_
  rotate_left
  · intro w'
    go_simp
    with_reducible rfl
  rotate_left
  · simp only [Act.put, List.setIfInBounds_toArray, List.set_cons_zero, List.set_cons_succ, i64_w, i32_w]
    rfl
  refine last_ (i := 12) (N := none) #[true, true, true, true, true, true, true, true, true, true, true, true, true] rfl rfl (by kernel_rfl) (by decide) (fun K hK => ?_)
  refine skip_ (w1 := ?_) (by rfl) rfl ?_ ?_
  rotate_left
  · go_simp
    rfl
  refine hK.out _ _ ?_
  clear hK K
  refine done_ (by kernel_rfl) ?_

  have hlen : (l ++ [x]).length = l.length + 1 := by simp
  have hpush := push_row HF.out HFB.out PUT.out HBK.out HV.out hg3 hr3
  rw [hlen] at hpush
  have HA3 : Aside0 (Has B (w2.setCell ⟨p, 0, none⟩ (.slice A1 (l.length + 1) cc1)) (rowH p (l ++ [x]) :: boxT w.heap.size #[.int .u32 x.f0, .int .i64 x.f1] 31 :: Ts)) := ⟨hpush.1⟩
  have HB3 : Aside0 (Below B w (w2.setCell ⟨p, 0, none⟩ (.slice A1 (l.length + 1) cc1))) := ⟨HB1.out.trans (Below.trans (b := w1.drew) ⟨rfl, rfl, rfl, Nat.le_refl _, fun _ _ => rfl⟩ hpush.2)⟩
  clear hpush hr3 hb3 hg3 hat3 f0 f1 c0 q10 q11 hlen
  clear s0 s1 s2
  generalize w2.setCell ⟨p, 0, none⟩ (.slice A1 (l.length + 1) cc1) = w3 at HA3 HB3 ⊢
  have HU : Aside0 (HpK.UpK (keyL (l ++ [x])) (l ++ [x]).length l.length l.length) := ⟨by
    have hk : ∀ j, j < l.length → keyL (l ++ [x]) j = keyL l j := by
      intro j hj
      unfold keyL rd_T31
      rw [Int.toNat_natCast, List.getD_eq_getElem?_getD, List.getD_eq_getElem?_getD, List.getElem?_append_left hj]
    rw [List.length_append, List.length_singleton]
    refine ⟨Nat.le_refl _, fun j a b d _ => ?_, fun a j b c d => ?_⟩
    · rw [hk j (by omega), hk _ (by omega)]
      exact HH.out j a (by omega)
    · omega⟩
  go_wp2_with fail
  have HUP : Aside0 (Calls Try.prog 45 #[ptr p, .int .i64 (wrap64 (l.length : Int))] w3.drew (UpPost B w3.drew (boxT w.heap.size #[.int .u32 x.f0, .int .i64 x.f1] 31 :: Ts) p (l ++ [x]) l.length)) :=
    ⟨by rw [show wrap64 (l.length : Int) = (l.length : Int) by unfold wrap64; omega]; exact up_calls HA3.out.drew l.length (by simp) HG.out⟩
  refine start_ (n := 9) (S := fun w' => True) (ds := []) #[false, false, false, false, false, false, false, false, false] (by kernel_rfl) rfl rfl trivial (fun hHeld => ?_)
  refine pure_ (i := 0) (N := some 36) (v := ?_) (a' := ?_) #[true, false, false, false, false, false, false, false, false] rfl rfl (by kernel_rfl) (fun _ _ _ h => h) (Or.inl ⟨by rfl, ?_⟩) ?_ ?_
  rotate_left
  · intro w'
    go_simp
    with_reducible rfl
  rotate_left
  · simp only [Act.put, List.setIfInBounds_toArray, List.set_cons_zero, List.set_cons_succ, i64_w, i32_w]
    rfl
  refine pure_ (i := 1) (N := some 37) (v := ?_) (a' := ?_) #[true, true, false, false, false, false, false, false, false] rfl rfl (by kernel_rfl) (fun _ _ _ h => h) (Or.inl ⟨by rfl, ?_⟩) ?_ ?_
  rotate_left
  · intro w'
    go_simp
    with_reducible rfl
  rotate_left
  · simp only [Act.put, List.setIfInBounds_toArray, List.set_cons_zero, List.set_cons_succ, i64_w, i32_w]
    rfl
  refine pure_ (i := 2) (N := some 38) (v := ?_) (a' := ?_) #[true, true, true, false, false, false, false, false, false] rfl rfl (by kernel_rfl) (fun _ _ _ h => h) (Or.inl ⟨by rfl, ?_⟩) ?_ ?_
  rotate_left
  · intro w'
    go_simp
    with_reducible rfl
  rotate_left
  · simp only [Act.put, List.setIfInBounds_toArray, List.set_cons_zero, List.set_cons_succ, i64_w, i32_w]
    rfl
  refine pure_ (i := 3) (N := some 39) (v := ?_) (a' := ?_) #[true, true, true, true, false, false, false, false, false] rfl rfl (by kernel_rfl) (fun _ _ _ h => h) (Or.inl ⟨by rfl, ?_⟩) ?_ ?_
  rotate_left
  · intro w'
    go_simp
    with_reducible rfl
  rotate_left
  · simp only [Act.put, List.setIfInBounds_toArray, List.set_cons_zero, List.set_cons_succ, i64_w, i32_w]
    rfl
  refine pure_ (i := 4) (N := some 40) (v := ?_) (a' := ?_) #[true, true, true, true, true, false, false, false, false] rfl rfl (by kernel_rfl) (fun _ _ _ h => h) (Or.inl ⟨by rfl, ?_⟩) ?_ ?_
  rotate_left
  · intro w'
    go_simp
    with_reducible rfl
  rotate_left
  · simp only [Act.put, List.setIfInBounds_toArray, List.set_cons_zero, List.set_cons_succ, i64_w, i32_w]
    rfl
  refine pure_ (i := 5) (N := some 41) (v := ?_) (a' := ?_) #[true, true, true, true, true, true, false, false, false] rfl rfl (by kernel_rfl) (fun _ _ _ h => h) (Or.inl ⟨by rfl, ?_⟩) ?_ ?_
  rotate_left
  · intro w'
    go_simp
    with_reducible rfl
  rotate_left
  · simp only [Act.put, List.setIfInBounds_toArray, List.set_cons_zero, List.set_cons_succ, i64_w, i32_w]
    rfl
  refine one_ (i := 6) (N := some 42) #[true, true, true, true, true, true, true, false, false] rfl rfl (by kernel_rfl) (by decide) (fun K hK => ?_)
  refine goes_ Try.func43 (by kernel_rfl) rfl #[ptr p] (by rfl) rfl rfl (by simp only [List.map_toArray, List.map_cons, List.map_nil]; rfl) ?_
  with_reducible refine (many_calls HA3.out.drew).mono ?_
  rintro e w' ⟨rfl, rfl⟩
  refine ⟨_, rfl, ?_⟩
  refine hK.out _ _ trivial (fun hHeld => ?_)
  clear hK K
  refine norm_ (a' := ?_) ?_ ?_
  rotate_left
  · show Act.put _ (some 42) _ = _
    simp only [Act.put, List.setIfInBounds_toArray, List.set_cons_zero, List.set_cons_succ, i64_w, i32_w]
    rfl
  refine pure_ (i := 7) (N := some 43) (v := ?_) (a' := ?_) #[true, true, true, true, true, true, true, true, false] rfl rfl (by kernel_rfl) (fun _ _ _ h => h) (Or.inl ⟨by rfl, ?_⟩) ?_ ?_
  rotate_left
  · intro w'
    go_simp
    with_reducible rfl
  rotate_left
  · simp only [Act.put, List.setIfInBounds_toArray, List.set_cons_zero, List.set_cons_succ, i64_w, i32_w]
    rfl
  refine one_ (i := 8) (N := some 44) #[true, true, true, true, true, true, true, true, true] rfl rfl (by kernel_rfl) (by decide) (fun K hK => ?_)
  refine goes_ Try.func45 (by kernel_rfl) rfl #[ptr p, .int .i64 (wrap64 (l.length : Int))] (by rfl) rfl rfl (by simp only [List.map_toArray, List.map_cons, List.map_nil]; rfl) ?_
  with_reducible refine (HUP.out).mono ?_
  rintro e w4 ⟨l4, rfl, hA4, hB4, hp4, hk4⟩
  refine ⟨_, rfl, ?_⟩
  refine hK.out _ _ trivial (fun hHeld => ?_)
  clear hK K
  refine norm_ (a' := ?_) ?_ ?_
  rotate_left
  · show Act.put _ (some 44) _ = _
    simp only [Act.put, List.setIfInBounds_toArray, List.set_cons_zero, List.set_cons_succ, i64_w, i32_w]
    rfl
  refine done_ (by kernel_rfl) ?_

  go_wp2
  go_ret
  refine ⟨l4, rfl, hA4.swap.tail, HB3.out.trans (Below.trans (b := w3.drew) ⟨rfl, rfl, rfl, Nat.le_refl _, fun _ _ => rfl⟩ hB4), hp4, ?_⟩
  rw [hp4.length_eq]
  refine HpK.down_stop (hk4 HU.out) fun j a b c => ?_
  rw [List.length_append, List.length_singleton] at b
  omega
def StayPost (B : Nat) (w : World) (Ts : List Th) (v : Value) (e : Ending) (w' : World) : Prop := e = .returned v ∧ Has B w' Ts ∧ Below B w w'
set_option maxHeartbeats 8000000 in
set_option maxRecDepth 100000 in
theorem push_old {B : Nat} {w : World} {Ts : List Th} {p : Nat} {l : List S31} (h : Has B w (rowH p l :: Ts)) (x : S31) (hn : hasL l x.f0 = true) :
    Calls Try.prog 29 #[ptr p, aggT x] w (StayPost B w (rowH p l :: Ts) (.int .i64 2)) := by
  obtain ⟨k, hk, _, hk2⟩ := findF_pos hn
  have HN := Aside0.mk hk2
  have hu29 := Try.underlying31
  have hA : Has B (w.alloc (.cells #[.int .u32 x.f0, .int .i64 x.f1] 31)) (rowH p l :: boxT w.heap.size #[.int .u32 x.f0, .int .i64 x.f1] 31 :: Ts) := (h.box #[.int .u32 x.f0, .int .i64 x.f1] 31).swap
  have hBl : Below B w (w.alloc (.cells #[.int .u32 x.f0, .int .i64 x.f1] 31)) := (Below.refl B w).alloc h.size _
  obtain ⟨F, ⟨hF, v, hb, hr⟩, hFb, put⟩ := h.head
  have hp1 : p < w.heap.size := (hFb p hF).2
  have c1 : w.cell? ⟨p, 1, none⟩ = some (.bool true) := by rw [blk_cell hb]; rfl
  clear put hr hb hFb hn h hF hk2
  have HA := Aside0.mk hA
  have HBl := Aside0.mk hBl
  clear hA hBl
  go_enter Try.func29, Try.ntmps29
  go_wp2_with fail
  generalize w.alloc (.cells #[.int .u32 x.f0, .int .i64 x.f1] 31) = W at HA HBl ⊢
  obtain ⟨q1, q2, q3, q4⟩ := Has.box_cell HA.out (b := w.heap.size) (cs := #[.int .u32 x.f0, .int .i64 x.f1]) (t := 31) (by simp)
  have q10 : W.cell? ⟨w.heap.size, 0, none⟩ = some (.int .u32 x.f0) := q1 0
  clear q1 q2 q4 c1
  have d0 : decide (0 ≤ (k : Int)) = true := decide_eq_true (by omega)
  go_region_held3 (fun w' => w'.cell? ⟨w.heap.size, 0, none⟩ = some (.int .u32 x.f0)) (first | exact q10 | assumption) (first | (go_at_call 44; refine (find_calls HA.out.drew x.f0).mono ?_; rintro e w1 ⟨rfl, hb1⟩; rw [HN.out]; have q11 := pw_cell_below hb1 (show W.drew.cell? _ = _ from q10)))
  go_wp2
  go_ret
  exact ⟨rfl, (HA.out.drew.below hb1).swap.tail, HBl.out.trans (below_of HA.out.size ⟨hb1.os, hb1.tape, hb1.output, hb1.size, hb1.block⟩)⟩
end Go.Proofs.Ytpnoghnhlddjeaa.Hp
