/- New workers; a turn in all its cases; the chapter's examples: walked. -/
import Derived.Test.YtpnoghnhlddjeaaWorkE
namespace Go.Proofs.Ytpnoghnhlddjeaa.Wk
open Go.RowKit Go.Proofs.YtpnoghnhlddjeaaW.PrintWords Go.Proofs.YtpnoghnhlddjeaaW.PrintLast Go.Proofs.YtpnoghnhlddjeaaW.PrintMore Go.Proofs.Ytpnoghnhlddjeaa.Q Go.Proofs.Ytpnoghnhlddjeaa.Own Go.Proofs.Ytpnoghnhlddjeaa.Hp
set_option linter.unusedVariables false
set_option linter.unusedSimpArgs false
attribute [local go_sem ↓] Go.wp_at_zero Go.wp_at_succ

theorem new_bad (n : Int) (h : n < 1 ∨ 4 < n) (w : World) : Calls Try.prog 7 #[.int .i64 n] w fun e w' => e = .returned (.tuple #[.pointer none, .int .i64 2]) ∧ w = w' := by
  by_cases h1 : n < 1
  · have d1 : decide (n < 1) = true := decide_eq_true h1
    clear h
    go_enter Try.func7, Try.ntmps7
    go_wp2
    refine bodyPost_ret (v := .tuple #[.pointer none, .int .i64 2]) (by simp [results, Try.results7, go_sem]) rfl ?_
    exact ⟨rfl, rfl⟩
  · have h2 : n > 4 := h.resolve_left h1
    have d1 : decide (n < 1) = false := decide_eq_false h1
    have d2 : decide (n > 4) = true := decide_eq_true h2
    clear h
    go_enter Try.func7, Try.ntmps7
    go_wp2
    refine bodyPost_ret (v := .tuple #[.pointer none, .int .i64 2]) (by simp [results, Try.results7, go_sem]) rfl ?_
    exact ⟨rfl, rfl⟩
theorem infoP : (Try.prog.info? 62).map (fun i => (i.zero, i.size, i.bytes)) = some (some (.pointer none), 1, 8) := by kernel_rfl
/-- A pair and its row of places, as one thing. -/
def pairT (p : Nat) (v : Value) (ps : List Nat) : Th where
  on w F := F p ∧ w.heap[p]? = some (.cells #[v, moreV] 56 (0, 0)) ∧ Kd.R kP 62 w 0 (fun k => F k ∧ k ≠ p) v ps
  loc := by
    rintro w w' F ⟨h0, h1, h2⟩ hm
    exact ⟨h0, (hm p h0).trans h1, Kd.R_move h2 fun k hk => hm k hk.1⟩
theorem pair_in {B : Nat} {w : World} {p : Nat} {v : Value} {ps : List Nat} {Us : List Th} : Has B w (boxT p #[v, moreV] 56 :: rowT kP 62 v ps :: Us) → Has B w (pairT p v ps :: Us) := by
  rintro ⟨h0, F1, ⟨f1, b1⟩, a1, F2, r2, a2, rest⟩
  refine ⟨h0, fun k => F1 k ∨ F2 k, ⟨.inl f1, b1, Kd.R_mono r2 fun k hk => ⟨.inr hk, fun e => (a2 k hk).1.2 (e ▸ f1)⟩⟩, fun k hk => ?_, rest.grow fun k hk _ => ⟨trivial, fun g => ?_⟩⟩
  · exact ⟨trivial, hk.elim (fun q => (a1 k q).2) (fun q => (a2 k q).2)⟩
  · exact g.elim hk.1.2 hk.2
theorem pair_out {B : Nat} {w : World} {p : Nat} {v : Value} {ps : List Nat} {Us : List Th} : Has B w (pairT p v ps :: Us) → Has B w (boxT p #[v, moreV] 56 :: rowT kP 62 v ps :: Us) := by
  rintro ⟨h0, F, ⟨f, b, r⟩, a, rest⟩
  refine ⟨h0, fun k => k = p, ⟨rfl, b⟩, fun k hk => ⟨trivial, (a k (hk ▸ f)).2⟩, fun k => F k ∧ k ≠ p, r, fun k hk => ⟨⟨trivial, hk.2⟩, (a k hk.1).2⟩, rest.grow fun k hk _ => ⟨⟨trivial, fun e => hk.2 (e ▸ f)⟩, fun g => hk.2 g.1⟩⟩
theorem push_ptr {B : Nat} {W w1 : World} {Ts : List Th} {p q : Nat} {ps : List Nat} {F : Nat → Prop} {v v1 : Value} (hF : F p) (hFb : ∀ k, F k → B ≤ k ∧ k < W.heap.size)
    (put : ∀ (w' : World) (F' : Nat → Prop) (T' : Th), KeepF F W w' → T'.on w' F' → (∀ k, F' k → (F k ∨ W.heap.size ≤ k) ∧ k < w'.heap.size) → Has B w' (T' :: Ts) ∧ Below B W w')
    (hb : W.heap[p]? = some (.cells #[v, moreV] 56 (0, 0))) (hv : ∀ k, v.ownBlock = some k → F k ∧ k ≠ p) (hg : W.grownBy w1 v.ownBlock)
    (hr : Kd.R kP 62 w1 0 (fun k => (F k ∧ k ≠ p) ∨ W.heap.size ≤ k) v1 (ps ++ [q])) :
    Has B (w1.setCell ⟨p, 0, none⟩ v1) (pairT p v1 (ps ++ [q]) :: Ts) ∧ Below B W (w1.setCell ⟨p, 0, none⟩ v1) := by
  have hpl : p < W.heap.size := (hFb p hF).2
  have hb1 : w1.heap[p]? = some (.cells #[v, moreV] 56 (0, 0)) := blk_grown hb hg (fun e => (hv p e.symm).2 rfl)
  refine put _ (fun k => (F k ∨ W.heap.size ≤ k) ∧ k < w1.heap.size) _ ((KeepF.grown (KeepF.refl F W) hg fun k e => .inl (hv k e).1).setCell (.inl hF) v1) ⟨⟨.inl hF, Nat.lt_of_lt_of_le hpl hg.size⟩, blk_set hb1 0 v1, ?_⟩ (fun k hk => ⟨hk.1, by simpa using hk.2⟩)
  refine Kd.R_far ?_ (fun k hk => hk.2) v1
  refine Kd.R_mono (Kd.R_bound hr) fun k hk => ⟨⟨hk.1.elim (fun q => .inl q.1) .inr, hk.2.2.1⟩, ?_⟩
  rcases hk.1 with q | q
  · exact q.2
  · omega
theorem zip_snoc : ∀ (ps : List Nat) (hs : List (List S31)) (q : Nat) (s : List S31), ps.length = hs.length → (heapT q s :: List.zipWith heapT ps hs).Perm (List.zipWith heapT (ps ++ [q]) (hs ++ [s]))
  | [], [], q, s, _ => List.Perm.refl _
  | p :: ps, h :: hs, q, s, hl => (List.Perm.swap _ _ _).trans (List.Perm.cons _ (zip_snoc ps hs q s (by simpa using hl)))
  | [], h :: hs, q, s, hl => by simp at hl
  | p :: ps, [], q, s, hl => by simp at hl
/-- One worker more. -/
theorem work_snoc {B : Nat} {w : World} {p q : Nat} {v : Value} {ps : List Nat} {hs : List (List S31)} {Ts : List Th} (hl : ps.length = hs.length) (h : Has B w (pairT p v (ps ++ [q]) :: heapT q [] :: (List.zipWith heapT ps hs ++ Ts))) : Has B w (workL p v (ps ++ [q]) (hs ++ [[]]) ++ Ts) := by
  refine (pair_out h).perm ?_
  unfold workL
  rw [List.cons_append, List.cons_append, ← List.cons_append]
  exact List.Perm.cons _ (List.Perm.cons _ ((zip_snoc ps hs q [] hl).append_right Ts))
set_option maxHeartbeats 4000000 in
set_option maxRecDepth 100000 in
theorem new_good (n : Nat) (h1 : 1 ≤ n) (h4 : n ≤ 4) {B : Nat} {w : World} {Ts : List Th} (h : Has B w Ts) : Calls Try.prog 7 #[.int .i64 (n : Int)] w fun e w' => ∃ p v ps, e = .returned (.tuple #[ptr p, .int .i64 0]) ∧ ps.length = n ∧ Has B w' (workL p v ps (List.replicate n []) ++ Ts) ∧ Below B w w' := by
  have H0 : Aside0 (Has B (w.alloc (.cells #[.slice none 0 0, moreV] 56)) (workL w.heap.size (.slice none 0 0) [] (List.replicate 0 []) ++ Ts)) := ⟨by
    have a := h.box #[.slice none 0 0, moreV] 56
    obtain ⟨a0, F, aF, b, c⟩ := a
    refine ⟨a0, F, aF, b, ⟨fun _ => False, Kd.R_nil _ _ _ _ _, fun k hk => hk.elim, c.grow fun k hk _ => ⟨hk, fun f => f⟩⟩⟩⟩
  have HB0 : Aside0 (Below B w (w.alloc (.cells #[.slice none 0 0, moreV] 56))) := ⟨(Below.refl _ w).alloc h.size _⟩
  have hu := Try.underlying56
  have d1 : decide ((n : Int) < 1) = false := decide_eq_false (by omega)
  have d2 : decide ((n : Int) > 4) = false := decide_eq_false (by omega)
  clear h
  go_enter Try.func7, Try.ntmps7
  go_wp2_with fail
  clear d1 d2
  generalize w.alloc (.cells #[.slice none 0 0, moreV] 56) = w0 at H0 HB0 ⊢
  generalize w.heap.size = p at H0 ⊢
  go_loopw [14] (fun i wr => ∃ (k : Nat) (v : Value) (ps : List Nat), i = .int .i64 k ∧ k ≤ n ∧ ps.length = k ∧ Aside0 (Has B wr (workL p v ps (List.replicate k []) ++ Ts)) ∧ Aside0 (Below B w wr)) (fun i _ => n - (intOf i).toNat)
  case atStart => exact ⟨0, _, [], rfl, by omega, rfl, H0, HB0⟩
  case round =>
    clear H0 HB0
    obtain ⟨k, v, ps, rfl, hk, hps, HA, HB⟩ := hrel
    by_cases hlt : k < n
    · have d1 : decide ((k : Int) < (n : Int)) = true := decide_eq_true (by omega)
      have HNW : Aside0 (Calls Try.prog 26 #[.slice none 0 0] wr.drew (NewPost wr.drew (newS []))) := ⟨new_calls (A := none) (c := 0) (l := []) (w := wr.drew) (Kd.C_nil _ _) (fun x h => absurd h List.not_mem_nil) (by decide)⟩
      obtain ⟨q0, -, -⟩ := work_cells HA.out
      have HPS := Aside0.mk hps
      clear hps
      go_wp2_with fail
      refine start_ (n := 11) (S := fun w' => w'.cell? ⟨p, 0, none⟩ = some v) (ds := [10]) #[false, false, false, false, false, false, false, false, false, false, false] (by kernel_rfl) rfl rfl (q0) (fun hHeld => ?_)
      refine pure_ (i := 0) (N := some 16) (v := ?_) (a' := ?_) #[true, false, false, false, false, false, false, false, false, false, false] rfl rfl (by kernel_rfl) (fun _ _ _ h => h) (Or.inl ⟨by rfl, ?_⟩) ?_ ?_
      rotate_left
      · intro w'
        go_simp
        with_reducible rfl
      rotate_left
      · simp only [Act.put, List.setIfInBounds_toArray, List.set_cons_zero, List.set_cons_succ, i64_w, i32_w]
        rfl
      refine pure_ (i := 1) (N := some 17) (v := ?_) (a' := ?_) #[true, true, false, false, false, false, false, false, false, false, false] rfl rfl (by kernel_rfl) (fun _ _ _ h => h) (Or.inl ⟨by rfl, ?_⟩) ?_ ?_
      rotate_left
      · intro w'
        go_simp
        with_reducible rfl
      rotate_left
      · simp only [Act.put, List.setIfInBounds_toArray, List.set_cons_zero, List.set_cons_succ, i64_w, i32_w]
        rfl
      refine pure_ (i := 2) (N := some 18) (v := ?_) (a' := ?_) #[true, true, true, false, false, false, false, false, false, false, false] rfl rfl (by kernel_rfl) (fun _ _ _ h => h) (Or.inl ⟨by rfl, ?_⟩) ?_ ?_
      rotate_left
      · intro w'
        go_simp
        with_reducible rfl
      rotate_left
      · simp only [Act.put, List.setIfInBounds_toArray, List.set_cons_zero, List.set_cons_succ, i64_w, i32_w]
        rfl
      refine pure_ (i := 3) (N := some 19) (v := ?_) (a' := ?_) #[true, true, true, true, false, false, false, false, false, false, false] rfl rfl (by kernel_rfl) (fun _ _ _ h => h) (Or.inl ⟨by rfl, ?_⟩) ?_ ?_
      rotate_left
      · intro w'
        go_simp
        with_reducible rfl
      rotate_left
      · simp only [Act.put, List.setIfInBounds_toArray, List.set_cons_zero, List.set_cons_succ, i64_w, i32_w]
        rfl
      refine take_ (i := 4) (N := some 20) (v := ?_) (a' := ?_) #[true, true, true, true, true, false, false, false, false, false, false] rfl rfl (by kernel_rfl) (fun _ _ _ h => h) (Or.inl ⟨by rfl, ?_⟩) hHeld ?_ ?_
      rotate_left
      · intro w' s0
        go_simp
        with_reducible rfl
      rotate_left
      · simp only [Act.put, List.setIfInBounds_toArray, List.set_cons_zero, List.set_cons_succ, i64_w, i32_w]
        rfl
      refine one_ (i := 5) (N := some 21) #[true, true, true, true, true, true, false, false, false, false, false] rfl rfl (by kernel_rfl) (by decide) (fun K hK => ?_)
      refine goes_ Try.func26 (by kernel_rfl) rfl #[.slice none 0 0] (by rfl) rfl rfl (by simp only [List.map_toArray, List.map_cons, List.map_nil]; rfl) ?_
      with_reducible refine (HNW.out).mono ?_
      rintro e w8 ⟨p8, rfl, hA8, hB8⟩
      refine ⟨_, rfl, ?_⟩
      have c0 := pw_cell_below hB8 (show wr.drew.cell? _ = _ from q0)
      have HA8 := Aside0.mk (has_new HA.out.drew hB8 hA8)
      obtain ⟨F, ⟨hF, hb, hr⟩, hFb, put⟩ := (pair_in (HA8.out.perm ((List.Perm.swap _ _ _).trans (List.Perm.cons _ (List.Perm.swap _ _ _))))).head
      have hv : ∀ k, v.ownBlock = some k → F k ∧ k ≠ p := fun k hk => hr.1 k hk
      have hr2 : Kd.R kP 62 w8 0 (fun k => (F k ∧ k ≠ p) ∨ w8.heap.size ≤ k) v ps := Kd.R_mono hr fun k hk => .inl hk
      have f0 : w8.frozen? ⟨p, 0, none⟩ = false := blk_frozen hb 0
      have HBK := Aside0.mk hb
      have HV := Aside0.mk hv
      have HR := Aside0.mk hr2
      have HFB := Aside0.mk hFb
      have PUT := Aside0.mk put
      have HF := Aside0.mk hF
      have HB8 := Aside0.mk hB8
      clear hb hv hr hr2 hFb put hF hA8 hB8
      refine hK.out _ _ (c0) (fun hHeld => ?_)
      clear hK K
      refine norm_ (a' := ?_) ?_ ?_
      rotate_left
      · show Act.put _ (some 21) _ = _
        simp only [Act.put, List.setIfInBounds_toArray, List.set_cons_zero, List.set_cons_succ, i64_w, i32_w]
        rfl
      refine one_ (i := 6) (N := some 22) #[true, true, true, true, true, true, true, false, false, false, false] rfl rfl (by kernel_rfl) (by decide) (fun K hK => ?_)
      refine value_ (w1 := ?_) (v := ?_) (by rfl) rfl ?_ ?_
      rotate_left 2
      · go_simp
        constructor
        · rfl
        · rfl
      refine hK.out _ _ (cell_al _ c0) (fun hHeld => ?_)
      clear hK K
      refine norm_ (a' := ?_) ?_ ?_
      rotate_left
      · show Act.put _ (some 22) _ = _
        simp only [Act.put, List.setIfInBounds_toArray, List.set_cons_zero, List.set_cons_succ, i64_w, i32_w]
        rfl
      refine one_ (i := 7) (N := some 23) #[true, true, true, true, true, true, true, true, false, false, false] rfl rfl (by kernel_rfl) (by decide) (fun K hK => ?_)
      refine Kd.R_append_step kP (w0 := w8) (W := w8) 0 (by rfl) (.tmp 20) (.tmp 22) 53 62 (.pointer none) 8 (by rfl) Try.underlying53 infoP (by rfl) (by decide) (by decide) v ps p8 [ptr p8] (fun k => (F k ∧ k ≠ p) ∨ w8.heap.size ≤ k) (fun _ => False) (by rfl) (by rfl) rfl (fun _ f => f.elim) (fun k hk => .inr hk) HR.out (Below.refl _ _) (Nat.zero_le _) (by have := HPS.out; omega) ?_
      intro v1 w2 hr3 hb3 hg3 hat3
      obtain ⟨A1, cc1, rfl⟩ := Kd.R_slice hr3
      have f1 : w2.frozen? ⟨p, 0, none⟩ = false := blk_frozen (blk_grown HBK.out hg3 (fun e => (HV.out p e.symm).2 rfl)) 0
      have s0 : w2.cell? ⟨p, 0, none⟩ = some v := (blk_cell (blk_grown HBK.out hg3 (fun e => (HV.out p e.symm).2 rfl)) 0).trans rfl
      refine hK.out _ _ (s0) (fun hHeld => ?_)
      clear hK K
      refine norm_ (a' := ?_) ?_ ?_
      rotate_left
      · show Act.put _ (some 23) _ = _
        simp only [Act.put, List.setIfInBounds_toArray, List.set_cons_zero, List.set_cons_succ, i64_w, i32_w]
        rfl
      refine pure_ (i := 8) (N := some 24) (v := ?_) (a' := ?_) #[true, true, true, true, true, true, true, true, true, false, false] rfl rfl (by kernel_rfl) (fun _ _ _ h => h) (Or.inl ⟨by rfl, ?_⟩) ?_ ?_
      rotate_left
      · intro w'
        go_simp
        with_reducible rfl
      rotate_left
      · simp only [Act.put, List.setIfInBounds_toArray, List.set_cons_zero, List.set_cons_succ, i64_w, i32_w]
        rfl
      refine pure_ (i := 9) (N := some 25) (v := ?_) (a' := ?_) #[true, true, true, true, true, true, true, true, true, true, false] rfl rfl (by kernel_rfl) (fun _ _ _ h => h) (Or.inl ⟨by rfl, ?_⟩) ?_ ?_
      rotate_left
      · intro w'
        go_simp
        with_reducible rfl
      rotate_left
      · simp only [Act.put, List.setIfInBounds_toArray, List.set_cons_zero, List.set_cons_succ, i64_w, i32_w]
        rfl
      refine last_ (i := 10) (N := none) #[true, true, true, true, true, true, true, true, true, true, true] rfl rfl (by kernel_rfl) (by decide) (fun K hK => ?_)
      refine skip_ (w1 := ?_) (by rfl) rfl ?_ ?_
      rotate_left
      · go_simp
        rfl
      refine hK.out _ _ ?_
      clear hK K
      refine done_ (by kernel_rfl) ?_

      have hpush := push_ptr HF.out HFB.out PUT.out HBK.out HV.out hg3 hr3
      have HA9 := Aside0.mk (work_snoc (hs := List.replicate k []) (by rw [List.length_replicate]; exact HPS.out) hpush.1)
      have HB9 := Aside0.mk ((HB.out.trans (below_drew (Below.refl _ _))).trans ((HB8.out.mono HA.out.drew.size).trans hpush.2))
      clear hpush hr3 hb3 hg3 hat3 f0 f1 c0 q0 s0
      rw [← List.replicate_succ'] at HA9
      rw [List.length_append, List.length_singleton] at HA9 HB9
      go_wp2_with fail
      go_roundw
      case rel => exact ⟨k + 1, _, ps ++ [p8], rfl, by omega, by rw [List.length_append, List.length_singleton, HPS.out], HA9, HB9⟩
      case measure => simp [intOf]; omega
    · have hkn : k = n := by omega
      subst hkn
      have d1 : decide ((k : Int) < (k : Int)) = false := decide_eq_false (by omega)
      go_wp2_with fail
      refine bodyPost_ret (v := .tuple #[ptr p, .int .i64 0]) (by simp [results, Try.results7, go_sem]) rfl ?_
      exact ⟨p, v, ps, rfl, hps, HA.out, HB.out⟩
end Go.Proofs.Ytpnoghnhlddjeaa.Wk
namespace Go.Proofs.Ytpnoghnhlddjeaa.Wk
open Go.RowKit Go.Proofs.YtpnoghnhlddjeaaW.PrintWords Go.Proofs.YtpnoghnhlddjeaaW.PrintLast Go.Proofs.YtpnoghnhlddjeaaW.PrintMore Go.Proofs.Ytpnoghnhlddjeaa.Q Go.Proofs.Ytpnoghnhlddjeaa.Own Go.Proofs.Ytpnoghnhlddjeaa.Hp
set_option linter.unusedVariables false
set_option linter.unusedSimpArgs false
attribute [local go_sem ↓] Go.wp_at_zero Go.wp_at_succ

/-- What a turn tells, and leaves. -/
structure TurnR where
  x : S31
  stolen : Bool
  ok : Bool
  hs : List (List S31)
def turnR (hs : List (List S31)) (i a : Int) : TurnR :=
  if i < 0 ∨ (hs.length : Int) ≤ i then ⟨z31, false, false, hs⟩
  else if turnOwn hs i.toNat a = true then ⟨takeX (hs.getD i.toNat []) a, false, true, hs.set i.toNat (takeS (hs.getD i.toNat []) a)⟩
  else if turnOther hs i.toNat a = true then ⟨takeX (hs.getD (mostF hs hs.length) []) a, true, true, hs.set (mostF hs hs.length) (takeS (hs.getD (mostF hs hs.length) []) a)⟩
  else ⟨z31, false, false, hs⟩
def countR (hs : List (List S31)) (i : Int) : Int := if i < 0 ∨ (hs.length : Int) ≤ i then 0 else ((hs.getD i.toNat []).length : Int)
theorem turnR_length (hs : List (List S31)) (i a : Int) : (turnR hs i a).hs.length = hs.length := by
  unfold turnR
  repeat' split
  all_goals simp
theorem putS_length (hs : List (List S31)) (x : S31) : (putS hs x).length = hs.length := by
  unfold putS
  split <;> simp
theorem turn_calls {B : Nat} {w : World} {p : Nat} {v : Value} {ps : List Nat} {hs : List (List S31)} {Ts : List Th} (h : Has B w (workL p v ps hs ++ Ts)) (hl : ps.length = hs.length) (i a : Int) :
    Calls Try.prog 12 #[ptr p, .int .i64 i, .int .i64 a] w (TurnPost B w p v ps (turnR hs i a).hs Ts (turnV (turnR hs i a).x (turnR hs i a).stolen (turnR hs i a).ok)) := by
  unfold turnR
  by_cases h0 : i < 0 ∨ (hs.length : Int) ≤ i
  · rw [if_pos h0]
    exact turn_out h i (by rw [hl]; exact h0) a
  · rw [if_neg h0]
    have hi : i.toNat < ps.length := by omega
    have e : i = ((i.toNat : Nat) : Int) := by omega
    generalize i.toNat = j at hi e ⊢
    subst e
    cases h1 : turnOwn hs j a
    · rw [if_neg (by decide)]
      cases h2 : turnOther hs j a
      · rw [if_neg (by decide)]
        exact turn_none h hl j hi a h1 h2
      · rw [if_pos rfl]
        exact turn_other h hl j hi a h1 h2
    · rw [if_pos rfl]
      exact turn_own h hl j hi a h1
theorem count_calls {B : Nat} {w : World} {p : Nat} {v : Value} {ps : List Nat} {hs : List (List S31)} {Ts : List Th} (h : Has B w (workL p v ps hs ++ Ts)) (hl : ps.length = hs.length) (i : Int) :
    Calls Try.prog 10 #[ptr p, .int .i64 i] w fun e w' => e = .returned (.int .i64 (countR hs i)) ∧ w = w' := by
  unfold countR
  by_cases h0 : i < 0 ∨ (hs.length : Int) ≤ i
  · rw [if_pos h0]
    exact count_out h i (by rw [hl]; exact h0)
  · rw [if_neg h0]
    have hi : i.toNat < ps.length := by omega
    have e : i = ((i.toNat : Nat) : Int) := by omega
    generalize i.toNat = j at hi e ⊢
    subst e
    exact count_in h hl j hi
def TrueW (w : World) (e : Ending) (w' : World) : Prop := e = .returned (.bool true) ∧ Below w.heap.size w w'
set_option maxHeartbeats 8000000 in
set_option maxRecDepth 100000 in
theorem awake_calls (w : World) : Calls Try.prog 14 #[] w (TrueW w) := by
  have hu := Try.underlying31
  have HN := Aside0.mk (new_good 2 (by decide) (by decide) (Has.nil w))
  rw [show ((2 : Nat) : Int) = 2 from rfl, show List.replicate 2 ([] : List S31) = [[], []] from rfl] at HN
  go_enter Try.func14, Try.ntmps14
  go_wp2_with fail
  refine HN.out.mono ?_
  rintro e w1 ⟨p, v, ps, rfl, hl, hA, hB⟩
  have HL := Aside0.mk hl
  have HA := Aside0.mk hA
  have HB := Aside0.mk hB
  clear hA hB HN hl
  have G : ∀ {hs : List (List S31)} {w2 : World} {Ts : List Th} (x : S31) (h : Has w.heap.size w2 (workL p v ps hs ++ Ts)) (hn : hs.length = 2) (hx : GoodT x) (hm : ∀ s ∈ hs, s.length < 1000000), Calls Try.prog 8 #[ptr p, aggT x] w2 (PutPost w.heap.size w2 p v ps (putS hs x) Ts (putE hs x)) := fun x h hn hx hm => put_calls h (HL.out.trans hn.symm) (by rw [HL.out]; decide) x hx hm
  have HG := Aside0.mk @G
  clear G
  go_wp2_with fail
  refine (HG.out ⟨2, 10⟩ HA.out rfl ⟨by decide, by decide⟩ (by decide)).mono ?_
  rintro e w2 ⟨rfl, hA, hB⟩
  rw [show putS [[], []] (⟨2, 10⟩ : S31) = [[⟨2, 10⟩], []] from rfl] at hA
  have HA2 := Aside0.mk hA
  have HB2 := Aside0.mk (HB.out.trans hB)
  clear hA hB HA HB
  go_wp2_with fail
  refine (HG.out ⟨4, 5⟩ HA2.out rfl ⟨by decide, by decide⟩ (by intro s hs; simp at hs; rcases hs with rfl | rfl <;> decide)).mono ?_
  rintro e w3 ⟨rfl, hA, hB⟩
  rw [show putS [[⟨2, 10⟩], []] (⟨4, 5⟩ : S31) = [[⟨4, 5⟩, ⟨2, 10⟩], []] from rfl] at hA
  have HA3 := Aside0.mk hA
  have HB3 := Aside0.mk (HB2.out.trans hB)
  clear hA hB HA2 HB2
  go_wp2_with fail
  refine (HG.out ⟨3, 7⟩ HA3.out rfl ⟨by decide, by decide⟩ (by intro s hs; simp at hs; rcases hs with rfl | rfl <;> decide)).mono ?_
  rintro e w4 ⟨rfl, hA, hB⟩
  rw [show putS [[⟨4, 5⟩, ⟨2, 10⟩], []] (⟨3, 7⟩ : S31) = [[⟨4, 5⟩, ⟨2, 10⟩], [⟨3, 7⟩]] from rfl] at hA
  have HA4 := Aside0.mk hA
  have HB4 := Aside0.mk (HB3.out.trans hB)
  clear hA hB HA3 HB3
  go_wp2_with fail
  refine (HG.out ⟨2, 11⟩ HA4.out rfl ⟨by decide, by decide⟩ (by intro s hs; simp at hs; rcases hs with rfl | rfl <;> decide)).mono ?_
  rintro e w5 ⟨rfl, hA, hB⟩
  rw [show putE [[⟨4, 5⟩, ⟨2, 10⟩], [⟨3, 7⟩]] (⟨2, 11⟩ : S31) = 260 from rfl]
  rw [show putS [[⟨4, 5⟩, ⟨2, 10⟩], [⟨3, 7⟩]] (⟨2, 11⟩ : S31) = [[⟨4, 5⟩, ⟨2, 10⟩], [⟨3, 7⟩]] from rfl] at hA
  have HA5 := Aside0.mk hA
  have HB5 := Aside0.mk (HB4.out.trans hB)
  clear hA hB HA4 HB4
  go_wp2_with fail
  refine (count_calls HA5.out HL.out 0).mono ?_
  rintro e w6 ⟨rfl, rfl⟩
  rw [show countR [[⟨4, 5⟩, ⟨2, 10⟩], [(⟨3, 7⟩ : S31)]] 0 = 2 from rfl]
  go_wp2_with fail
  refine (count_calls HA5.out HL.out 1).mono ?_
  rintro e w6 ⟨rfl, rfl⟩
  rw [show countR [[⟨4, 5⟩, ⟨2, 10⟩], [(⟨3, 7⟩ : S31)]] 1 = 1 from rfl]
  go_wp2_with fail
  refine (turn_calls HA5.out HL.out 1 6).mono ?_
  rintro e w6 ⟨rfl, hA, hB⟩
  rw [show turnR [[⟨4, 5⟩, ⟨2, 10⟩], [(⟨3, 7⟩ : S31)]] 1 6 = ⟨⟨4, 5⟩, true, true, [[⟨2, 10⟩], [⟨3, 7⟩]]⟩ from rfl] at hA ⊢
  dsimp only [turnV] at hA ⊢
  have HA6 := Aside0.mk ((hA.box #[.int .u32 4, .int .i64 5] 31).perm (List.perm_middle (l₁ := workL p v ps [[⟨2, 10⟩], [⟨3, 7⟩]])).symm)
  have HB6 := Aside0.mk ((HB5.out.trans hB).alloc hA.size (.cells #[.int .u32 4, .int .i64 5] 31))
  clear hA hB HA5 HB5
  go_wp2_with fail
  generalize w6.alloc (.cells #[.int .u32 4, .int .i64 5] 31) = w7 at HA6 HB6 ⊢
  generalize w6.heap.size = b6 at HA6 ⊢
  refine (turn_calls HA6.out HL.out 1 6).mono ?_
  rintro e w8 ⟨rfl, hA, hB⟩
  rw [show turnR [[⟨2, 10⟩], [(⟨3, 7⟩ : S31)]] 1 6 = ⟨z31, false, false, [[⟨2, 10⟩], [⟨3, 7⟩]]⟩ from rfl] at hA ⊢
  dsimp only [turnV, z31] at hA ⊢
  have HA8 := Aside0.mk ((hA.box #[.int .u32 0, .int .i64 0] 31).perm (List.perm_middle (l₁ := workL p v ps [[⟨2, 10⟩], [⟨3, 7⟩]])).symm)
  have HB8 := Aside0.mk ((HB6.out.trans hB).alloc hA.size (.cells #[.int .u32 0, .int .i64 0] 31))
  clear hA hB HA6 HB6
  go_wp2_with fail
  generalize w8.alloc (.cells #[.int .u32 0, .int .i64 0] 31) = w9 at HA8 HB8 ⊢
  generalize w8.heap.size = b8 at HA8 ⊢
  refine (turn_calls HA8.out HL.out 1 7).mono ?_
  rintro e w10 ⟨rfl, hA, hB⟩
  rw [show turnR [[⟨2, 10⟩], [(⟨3, 7⟩ : S31)]] 1 7 = ⟨⟨3, 7⟩, false, true, [[⟨2, 10⟩], []]⟩ from rfl] at hA ⊢
  dsimp only [turnV] at hA ⊢
  obtain ⟨q1, -, q3, -⟩ := Has.box_cell hA (b := b6) (cs := #[.int .u32 4, .int .i64 5]) (t := 31) (by simp)
  have q10 := cell_al (.cells #[.int .u32 3, .int .i64 7] 31) (show w10.cell? ⟨b6, 0, none⟩ = some (.int .u32 4) from q1 0)
  have q11 := cell_al (.cells #[.int .u32 3, .int .i64 7] 31) (show w10.cell? ⟨b6, 1, none⟩ = some (.int .i64 5) from q1 1)
  have HB10 := Aside0.mk ((HB8.out.trans hB).alloc hA.size (.cells #[.int .u32 3, .int .i64 7] 31))
  clear hA hB HA8 HB8 q1
  go_wp2
  go_ret
  exact ⟨rfl, HB10.out⟩
end Go.Proofs.Ytpnoghnhlddjeaa.Wk
