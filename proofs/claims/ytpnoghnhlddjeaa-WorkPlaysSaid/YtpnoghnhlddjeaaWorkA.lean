/- Workers: a heap each. Nobody's workers, a heap's place, the count, a put; taking a task that is due; the worker with the most: walked. -/
import Derived.Test.YtpnoghnhlddjeaaHeapG
import Derived.Scope
namespace Go.Proofs.Ytpnoghnhlddjeaa.Wk
open Go.RowKit Go.Proofs.YtpnoghnhlddjeaaW.PrintWords Go.Proofs.YtpnoghnhlddjeaaW.PrintLast Go.Proofs.YtpnoghnhlddjeaaW.PrintMore Go.Proofs.Ytpnoghnhlddjeaa.Q Go.Proofs.Ytpnoghnhlddjeaa.Own Go.Proofs.Ytpnoghnhlddjeaa.Hp
set_option linter.unusedVariables false
set_option linter.unusedSimpArgs false
attribute [local go_sem ↓] Go.wp_at_zero Go.wp_at_succ

abbrev kP : Kd Nat := Kd.scalar (fun p : Nat => ptr p) (fun _ => rfl)
abbrev moreV : Value := .func (.func 24) #[] #[]
/-- Workers, as things: the pair, the row of the heaps' places, the heaps. -/
def workL (p : Nat) (v : Value) (ps : List Nat) (hs : List (List S31)) : List Th :=
  boxT p #[v, moreV] 56 :: rowT kP 62 v ps :: List.zipWith heapT ps hs
theorem zip_pick : ∀ (ps : List Nat) (hs : List (List S31)) (i : Nat) (h1 : i < ps.length) (h2 : i < hs.length), ∃ R : List Th, (List.zipWith heapT ps hs).Perm (heapT ps[i] hs[i] :: R) ∧ ∀ s, (List.zipWith heapT ps (hs.set i s)).Perm (heapT ps[i] s :: R)
  | p :: ps, h :: hs, 0, _, _ => ⟨List.zipWith heapT ps hs, List.Perm.refl _, fun s => List.Perm.refl _⟩
  | p :: ps, h :: hs, i + 1, h1, h2 => by
    obtain ⟨R, r1, r2⟩ := zip_pick ps hs i (by simpa using h1) (by simpa using h2)
    refine ⟨heapT p h :: R, ?_, fun s => ?_⟩
    · exact (List.Perm.cons _ r1).trans (List.Perm.swap _ _ _)
    · exact (List.Perm.cons _ (r2 s)).trans (List.Perm.swap _ _ _)
/-- One heap of the workers' opened, and shut again. -/
theorem work_pick {p : Nat} {v : Value} {ps : List Nat} {hs : List (List S31)} (Ts : List Th) (hl : ps.length = hs.length) (i : Nat) (h1 : i < ps.length) :
    ∃ R : List Th, (∀ B w, Has B w (workL p v ps hs ++ Ts) → Has B w (heapT ps[i] (hs.getD i []) :: R)) ∧ ∀ s B w, Has B w (heapT ps[i] s :: R) → Has B w (workL p v ps (hs.set i s) ++ Ts) := by
  obtain ⟨R, r1, r2⟩ := zip_pick ps hs i h1 (by omega)
  have hg : hs[i]'(by omega) = hs.getD i [] := by
    rw [List.getD_eq_getElem?_getD, List.getElem?_eq_getElem (by omega)]
    rfl
  rw [hg] at r1
  refine ⟨boxT p #[v, moreV] 56 :: rowT kP 62 v ps :: (R ++ Ts), fun B w h => h.perm ?_, fun s B w h => h.perm ?_⟩
  · unfold workL
    rw [List.cons_append, List.cons_append]
    refine (List.Perm.cons _ (List.Perm.cons _ (r1.append_right Ts))).trans ?_
    rw [List.cons_append]
    exact (List.Perm.cons _ (List.Perm.swap _ _ _)).trans (List.Perm.swap _ _ _)
  · unfold workL
    rw [List.cons_append, List.cons_append]
    refine List.Perm.trans ?_ (List.Perm.cons _ (List.Perm.cons _ ((r2 s).append_right Ts))).symm
    rw [List.cons_append]
    exact (List.Perm.swap _ _ _).trans (List.Perm.cons _ (List.Perm.swap _ _ _))
theorem work_cells {B : Nat} {w : World} {p : Nat} {v : Value} {ps : List Nat} {hs : List (List S31)} {Ts : List Th} (h : Has B w (workL p v ps hs ++ Ts)) :
    w.cell? ⟨p, 0, none⟩ = some v ∧ w.cell? ⟨p, 1, none⟩ = some (.func (.func 24) #[] #[]) ∧ ∃ A c, v = .slice A ps.length c ∧ ps.length ≤ c ∧ kP.C w A ps.length ps := by
  obtain ⟨q1, -, -, -⟩ := Has.box_cell h (b := p) (cs := #[v, moreV]) (t := 56) (by simp [workL])
  exact ⟨q1 0, q1 1, h.reads (d := kP) (e := 62) (v := v) (xs := ps) (by simp [workL])⟩
set_option maxRecDepth 100000 in
theorem wnone_calls {B : Nat} {w : World} {p : Nat} {v : Value} {ps : List Nat} {hs : List (List S31)} {Ts : List Th} (h : Has B w (workL p v ps hs ++ Ts)) :
    Calls Try.prog 27 #[ptr p] w fun e w' => e = .returned (.bool false) ∧ w = w' := by
  obtain ⟨q0, q1, -⟩ := work_cells h
  have huf : ∀ W : World, (binOp .eql 54 (.func (.func 24) #[] #[]) .nilFunc).run Try.prog W = .ok (.bool false) W := fun W => by kernel_rfl
  clear h
  go_enter Try.func27, Try.ntmps27
  go_wp2
  go_ret
  exact ⟨rfl, rfl⟩
theorem at_P {w : World} {A : Option Addr} {n : Nat} {ps : List Nat} (h : kP.C w A n ps) (i : Nat) (hi : i < ps.length) : ∃ ad, A = some ad ∧ w.cell? (ad.add i) = some (ptr (ps[i])) := by
  have hn := Kd.C_len h
  obtain ⟨ad, c, e, _, hK, hc⟩ := Kd.C_get h 0 (i : Int) (by omega) (by omega)
  have hK2 : c = [ptr (ps.getD (i : Int).toNat 0)] := hK
  have h0 := hc 0 (ptr (ps.getD (i : Int).toNat 0)) (by rw [hK2]; rfl)
  rw [Int.toNat_natCast, List.getD_eq_getElem?_getD, List.getElem?_eq_getElem hi] at h0
  refine ⟨ad, e, ?_⟩
  have h1 : w.cell? (ad.add (i * 1 + 0)) = some (ptr ps[i]) := h0
  rwa [Nat.mul_one, Nat.add_zero] at h1
def homeOf (r : Int) (n : Nat) : Nat := r.toNat % n
set_option maxRecDepth 100000 in
theorem home_calls {B : Nat} {w : World} {p : Nat} {v : Value} {ps : List Nat} {hs : List (List S31)} {Ts : List Th} (h : Has B w (workL p v ps hs ++ Ts)) (hn : 0 < ps.length) (r : Int) (hr0 : 0 ≤ r) (hr1 : r ≤ 4294967295) :
    Calls Try.prog 28 #[ptr p, .int .u32 r] w fun e w' => e = .returned (ptr (ps[homeOf r ps.length]'(Nat.mod_lt _ hn))) ∧ w' = w.drew := by
  obtain ⟨q0, -, A, c, rfl, hc, hC⟩ := work_cells h
  have hj : homeOf r ps.length < ps.length := Nat.mod_lt _ hn
  obtain ⟨ad, rfl, k0⟩ := at_P hC (homeOf r ps.length) hj
  have e1 : r.tmod (ps.length : Int) = ((homeOf r ps.length : Nat) : Int) := by
    unfold homeOf
    rw [Int.tmod_eq_emod_of_nonneg hr0, Int.natCast_emod, Int.toNat_of_nonneg hr0]
  generalize ps[homeOf r ps.length] = q at k0
  have hji : ((homeOf r ps.length : Nat) : Int) < (ps.length : Int) := by omega
  generalize homeOf r ps.length = j at k0 e1 hj hji
  clear hC h hc
  have hne : ((ps.length : Int) == 0) = false := beq_eq_false_iff_ne.2 (by omega)
  have hnil : ps ≠ [] := fun e => by rw [e] at hn; exact absurd hn (by decide)
  have hw : wrap64 r = r := by unfold wrap64; omega
  go_enter Try.func28, Try.ntmps28
  go_wp2_with fail
  refine start_ (n := 15) (S := fun w' => w'.cell? ⟨p, 0, none⟩ = some (.slice (some ad) ps.length c) ∧ w'.cell? (ad.add j) = some (ptr q)) (ds := []) #[false, false, false, false, false, false, false, false, false, false, false, false, false, false, false] (by kernel_rfl) rfl rfl ⟨q0, k0⟩ (fun hHeld => ?_)
  refine pure_ (i := 0) (N := some 5) (v := ?_) (a' := ?_) #[true, false, false, false, false, false, false, false, false, false, false, false, false, false, false] rfl rfl (by kernel_rfl) (fun _ _ _ h => h) (Or.inl ⟨by rfl, ?_⟩) ?_ ?_
  rotate_left
  · intro w'
    go_simp
    with_reducible rfl
  rotate_left
  · simp only [Act.put, List.setIfInBounds_toArray, List.set_cons_zero, List.set_cons_succ, i64_w, i32_w]
    rfl
  refine pure_ (i := 1) (N := some 6) (v := ?_) (a' := ?_) #[true, true, false, false, false, false, false, false, false, false, false, false, false, false, false] rfl rfl (by kernel_rfl) (fun _ _ _ h => h) (Or.inl ⟨by rfl, ?_⟩) ?_ ?_
  rotate_left
  · intro w'
    go_simp
    with_reducible rfl
  rotate_left
  · simp only [Act.put, List.setIfInBounds_toArray, List.set_cons_zero, List.set_cons_succ, i64_w, i32_w]
    rfl
  refine pure_ (i := 2) (N := some 7) (v := ?_) (a' := ?_) #[true, true, true, false, false, false, false, false, false, false, false, false, false, false, false] rfl rfl (by kernel_rfl) (fun _ _ _ h => h) (Or.inl ⟨by rfl, ?_⟩) ?_ ?_
  rotate_left
  · intro w'
    go_simp
    with_reducible rfl
  rotate_left
  · simp only [Act.put, List.setIfInBounds_toArray, List.set_cons_zero, List.set_cons_succ, i64_w, i32_w]
    rfl
  refine pure_ (i := 4) (N := some 9) (v := ?_) (a' := ?_) #[true, true, true, false, true, false, false, false, false, false, false, false, false, false, false] rfl rfl (by kernel_rfl) (fun _ _ _ h => h) (Or.inl ⟨by rfl, ?_⟩) ?_ ?_
  rotate_left
  · intro w'
    go_simp
    with_reducible rfl
  rotate_left
  · simp only [Act.put, List.setIfInBounds_toArray, List.set_cons_zero, List.set_cons_succ, i64_w, i32_w]
    rfl
  refine pure_ (i := 5) (N := some 10) (v := ?_) (a' := ?_) #[true, true, true, false, true, true, false, false, false, false, false, false, false, false, false] rfl rfl (by kernel_rfl) (fun _ _ _ h => h) (Or.inl ⟨by rfl, ?_⟩) ?_ ?_
  rotate_left
  · intro w'
    go_simp
    with_reducible rfl
  rotate_left
  · simp only [Act.put, List.setIfInBounds_toArray, List.set_cons_zero, List.set_cons_succ, i64_w, i32_w]
    rfl
  refine pure_ (i := 6) (N := some 11) (v := ?_) (a' := ?_) #[true, true, true, false, true, true, true, false, false, false, false, false, false, false, false] rfl rfl (by kernel_rfl) (fun _ _ _ h => h) (Or.inl ⟨by rfl, ?_⟩) ?_ ?_
  rotate_left
  · intro w'
    go_simp
    with_reducible rfl
  rotate_left
  · simp only [Act.put, List.setIfInBounds_toArray, List.set_cons_zero, List.set_cons_succ, i64_w, i32_w]
    rfl
  refine pure_ (i := 7) (N := some 12) (v := ?_) (a' := ?_) #[true, true, true, false, true, true, true, true, false, false, false, false, false, false, false] rfl rfl (by kernel_rfl) (fun _ _ _ h => h) (Or.inl ⟨by rfl, ?_⟩) ?_ ?_
  rotate_left
  · intro w'
    go_simp
    with_reducible rfl
  rotate_left
  · simp only [Act.put, List.setIfInBounds_toArray, List.set_cons_zero, List.set_cons_succ, i64_w, i32_w]
    rfl
  refine pure_ (i := 8) (N := some 13) (v := ?_) (a' := ?_) #[true, true, true, false, true, true, true, true, true, false, false, false, false, false, false] rfl rfl (by kernel_rfl) (fun _ _ _ h => h) (Or.inl ⟨by rfl, ?_⟩) ?_ ?_
  rotate_left
  · intro w'
    go_simp
    with_reducible rfl
  rotate_left
  · simp only [Act.put, List.setIfInBounds_toArray, List.set_cons_zero, List.set_cons_succ, i64_w, i32_w]
    rfl
  refine take_ (i := 3) (N := some 8) (v := ?_) (a' := ?_) #[true, true, true, true, true, true, true, true, true, false, false, false, false, false, false] rfl rfl (by kernel_rfl) (fun _ _ _ h => h) (Or.inl ⟨by rfl, ?_⟩) hHeld ?_ ?_
  rotate_left
  · rintro w' ⟨s0, s1⟩
    go_simp
    with_reducible rfl
  rotate_left
  · simp only [Act.put, List.setIfInBounds_toArray, List.set_cons_zero, List.set_cons_succ, i64_w, i32_w]
    rfl
  refine take_ (i := 9) (N := some 14) (v := ?_) (a' := ?_) #[true, true, true, true, true, true, true, true, true, true, false, false, false, false, false] rfl rfl (by kernel_rfl) (fun _ _ _ h => h) (Or.inl ⟨by rfl, ?_⟩) hHeld ?_ ?_
  rotate_left
  · rintro w' ⟨s0, s1⟩
    go_simp
    with_reducible rfl
  rotate_left
  · simp only [Act.put, List.setIfInBounds_toArray, List.set_cons_zero, List.set_cons_succ, i64_w, i32_w]
    rfl
  refine pure_ (i := 10) (N := some 15) (v := ?_) (a' := ?_) #[true, true, true, true, true, true, true, true, true, true, true, false, false, false, false] rfl rfl (by kernel_rfl) (fun _ _ _ h => h) (Or.inl ⟨by rfl, ?_⟩) ?_ ?_
  rotate_left
  · intro w'
    go_simp
    with_reducible rfl
  rotate_left
  · simp only [Act.put, List.setIfInBounds_toArray, List.set_cons_zero, List.set_cons_succ, i64_w, i32_w]
    rfl
  refine pure_ (i := 11) (N := some 16) (v := ?_) (a' := ?_) #[true, true, true, true, true, true, true, true, true, true, true, true, false, false, false] rfl rfl (by kernel_rfl) (fun _ _ _ h => h) (Or.inl ⟨by rfl, ?_⟩) ?_ ?_
  rotate_left
  · intro w'
    go_simp
    with_reducible rfl
  rotate_left
  · simp only [Act.put, List.setIfInBounds_toArray, List.set_cons_zero, List.set_cons_succ, i64_w, i32_w]
    rfl
  refine pure_ (i := 12) (N := some 17) (v := ?_) (a' := ?_) #[true, true, true, true, true, true, true, true, true, true, true, true, true, false, false] rfl rfl (by kernel_rfl) (fun _ _ _ h => h) (Or.inl ⟨by rfl, ?_⟩) ?_ ?_
  rotate_left
  · intro w'
    go_simp
    with_reducible rfl
  rotate_left
  · simp only [Act.put, List.setIfInBounds_toArray, List.set_cons_zero, List.set_cons_succ, i64_w, i32_w]
    rfl
  refine take_ (i := 13) (N := some 18) (v := ?_) (a' := ?_) #[true, true, true, true, true, true, true, true, true, true, true, true, true, true, false] rfl rfl (by kernel_rfl) (fun _ _ _ h => h) (Or.inl ⟨by rfl, ?_⟩) hHeld ?_ ?_
  rotate_left
  · rintro w' ⟨s0, s1⟩
    go_simp
    with_reducible rfl
  rotate_left
  · simp only [Act.put, List.setIfInBounds_toArray, List.set_cons_zero, List.set_cons_succ, i64_w, i32_w]
    rfl
  refine pure_ (i := 14) (N := some 4) (v := ?_) (a' := ?_) #[true, true, true, true, true, true, true, true, true, true, true, true, true, true, true] rfl rfl (by kernel_rfl) (fun _ _ _ h => h) (Or.inl ⟨by rfl, ?_⟩) ?_ ?_
  rotate_left
  · intro w'
    go_simp
    with_reducible rfl
  rotate_left
  · simp only [Act.put, List.setIfInBounds_toArray, List.set_cons_zero, List.set_cons_succ, i64_w, i32_w]
    rfl
  refine done_ (by kernel_rfl) ?_

  go_wp2
  go_ret
  exact ⟨rfl, rfl⟩
set_option maxRecDepth 100000 in
theorem count_in {B : Nat} {w : World} {p : Nat} {v : Value} {ps : List Nat} {hs : List (List S31)} {Ts : List Th} (h : Has B w (workL p v ps hs ++ Ts)) (hl : ps.length = hs.length) (i : Nat) (hi : i < ps.length) :
    Calls Try.prog 10 #[ptr p, .int .i64 (i : Int)] w fun e w' => e = .returned (.int .i64 ((hs.getD i []).length : Int)) ∧ w = w' := by
  have HN := Aside0.mk (wnone_calls h)
  obtain ⟨q0, -, A, c, rfl, hc, hC⟩ := work_cells h
  obtain ⟨ad, rfl, k0⟩ := at_P hC i hi
  obtain ⟨R, r1, -⟩ := work_pick Ts hl i hi
  have HL := Aside0.mk (len_calls (r1 _ _ h))
  generalize ps[i] = q at k0 HL
  have hi2 : (i : Int) < (ps.length : Int) := by omega
  have d1 : decide ((i : Int) ≥ (ps.length : Int)) = false := decide_eq_false (by omega)
  clear hC h hc r1
  go_enter Try.func10, Try.ntmps10
  go_wp2_with (first | (refine HN.out.mono ?_; rintro e w1 ⟨rfl, rfl⟩) | (refine HL.out.mono ?_; rintro e w1 ⟨rfl, rfl⟩))
  go_ret
  exact ⟨rfl, rfl⟩
def PutPost (B : Nat) (w : World) (p : Nat) (v : Value) (ps : List Nat) (hs : List (List S31)) (Ts : List Th) (r : Int) (e : Ending) (w' : World) : Prop := e = .returned (.int .i64 r) ∧ Has B w' (workL p v ps hs ++ Ts) ∧ Below B w w'
/-- What a put leaves, and says. -/
def putS (hs : List (List S31)) (x : S31) : List (List S31) := if x.f1 < 0 ∨ x.f1 > 1099511627776 then hs else hs.set (homeOf x.f0 hs.length) (pushS (hs.getD (homeOf x.f0 hs.length) []) x)
def putE (hs : List (List S31)) (x : S31) : Int := if x.f1 < 0 ∨ x.f1 > 1099511627776 then 2 else if hasL (hs.getD (homeOf x.f0 hs.length) []) x.f0 = true then 260 else 0
set_option maxHeartbeats 2000000 in
set_option maxRecDepth 100000 in
theorem put_calls {B : Nat} {w : World} {p : Nat} {v : Value} {ps : List Nat} {hs : List (List S31)} {Ts : List Th} (h : Has B w (workL p v ps hs ++ Ts)) (hl : ps.length = hs.length) (hn : 0 < ps.length) (x : S31) (hx : GoodT x) (hm : ∀ s ∈ hs, s.length < 1000000) :
    Calls Try.prog 8 #[ptr p, aggT x] w (PutPost B w p v ps (putS hs x) Ts (putE hs x)) := by
  have hA0 : Has B (w.alloc (.cells #[.int .u32 x.f0, .int .i64 x.f1] 31)) (workL p v ps hs ++ (boxT w.heap.size #[.int .u32 x.f0, .int .i64 x.f1] 31 :: Ts)) := (h.box #[.int .u32 x.f0, .int .i64 x.f1] 31).perm List.perm_middle.symm
  have hB0 : Below B w (w.alloc (.cells #[.int .u32 x.f0, .int .i64 x.f1] 31)) := (Below.refl B w).alloc h.size _
  have drop : ∀ {w' : World} {hs' : List (List S31)}, Has B w' (workL p v ps hs' ++ (boxT w.heap.size #[.int .u32 x.f0, .int .i64 x.f1] 31 :: Ts)) → Has B w' (workL p v ps hs' ++ Ts) := fun h => (h.perm List.perm_middle).tail
  have HN := Aside0.mk (wnone_calls hA0)
  have HA0 := Aside0.mk hA0
  have HB0 := Aside0.mk hB0
  have HDR := Aside0.mk @drop
  obtain ⟨x0, x1⟩ := x
  have HX := Aside0.mk hx
  have hu := Try.underlying31
  have HL := Aside0.mk hl
  clear drop hA0 hB0 hx h
  by_cases hlo : x1 < 0
  · have e1 : putS hs ⟨x0, x1⟩ = hs := if_pos (.inl hlo)
    have e2 : putE hs ⟨x0, x1⟩ = 2 := if_pos (.inl hlo)
    rw [e1, e2]
    clear hl hn hm
    clear e1 e2
    go_enter Try.func8, Try.ntmps8
    go_wp2_with (refine HN.out.mono ?_; rintro e w1 ⟨rfl, rfl⟩)
    go_ret
    exact ⟨rfl, HDR.out HA0.out, HB0.out⟩
  by_cases hhi : x1 > 1099511627776
  · have e1 : putS hs ⟨x0, x1⟩ = hs := if_pos (.inr hhi)
    have e2 : putE hs ⟨x0, x1⟩ = 2 := if_pos (.inr hhi)
    rw [e1, e2]
    have g1 : 1099511627776 < x1 := hhi
    clear hl hn hm
    clear e1 e2
    go_enter Try.func8, Try.ntmps8
    go_wp2_with (refine HN.out.mono ?_; rintro e w1 ⟨rfl, rfl⟩)
    go_ret
    exact ⟨rfl, HDR.out HA0.out, HB0.out⟩
  have g1 : ¬ 1099511627776 < x1 := hhi
  have hjl : homeOf x0 ps.length < ps.length := Nat.mod_lt _ hn
  have hjs : homeOf x0 hs.length = homeOf x0 ps.length := by rw [hl]
  have hjm : hs.getD (homeOf x0 ps.length) [] ∈ hs := by
    rw [List.getD_eq_getElem?_getD, List.getElem?_eq_getElem (by omega)]
    exact List.getElem_mem _
  have e1 : putS hs ⟨x0, x1⟩ = hs.set (homeOf x0 ps.length) (pushS (hs.getD (homeOf x0 ps.length) []) ⟨x0, x1⟩) := by
    unfold putS
    rw [if_neg (by dsimp only; omega)]
    dsimp only
    rw [hjs]
  have e2 : putE hs ⟨x0, x1⟩ = if hasL (hs.getD (homeOf x0 ps.length) []) x0 = true then 260 else 0 := by
    unfold putE
    rw [if_neg (by dsimp only; omega)]
    dsimp only
    rw [hjs]
  rw [e1, e2]
  have HHO := Aside0.mk (home_calls HA0.out.drew hn x0 HX.out.1 HX.out.2)
  obtain ⟨R, r1, r2⟩ := work_pick (p := p) (v := v) (hs := hs) (boxT w.heap.size #[.int .u32 x0, .int .i64 x1] 31 :: Ts) hl (homeOf x0 ps.length) hjl
  have HPU := Aside0.mk (push_calls (r1 _ _ HA0.out.drew.drew) ⟨x0, x1⟩ HX.out (hm _ hjm))
  have HR2 := Aside0.mk (r2 (pushS (hs.getD (homeOf x0 ps.length) []) ⟨x0, x1⟩))
  have hpe : pushE (hs.getD (homeOf x0 ps.length) []) ⟨x0, x1⟩ = if hasL (hs.getD (homeOf x0 ps.length) []) x0 = true then 2 else 0 := rfl
  rw [hpe] at HPU
  clear e1 e2 hjs hjm r1 r2 hpe hl hm hhi
  generalize hasL (hs.getD (homeOf x0 ps.length) []) x0 = hh at HPU ⊢
  generalize ps[homeOf x0 ps.length] = q at HHO HPU HR2
  cases hh
  · go_enter Try.func8, Try.ntmps8
    go_wp2_with (first | (refine HN.out.mono ?_; rintro e w1 ⟨rfl, rfl⟩) | fail)
    obtain ⟨q1, -, -, -⟩ := Has.box_cell HA0.out (b := w.heap.size) (cs := #[.int .u32 x0, .int .i64 x1]) (t := 31) (by simp)
    have q10 : (w.alloc (.cells #[.int .u32 x0, .int .i64 x1] 31)).cell? ⟨w.heap.size, 0, none⟩ = some (.int .u32 x0) := q1 0
    have q11 : (w.alloc (.cells #[.int .u32 x0, .int .i64 x1] 31)).cell? ⟨w.heap.size, 1, none⟩ = some (.int .i64 x1) := q1 1
    clear q1
    refine start_ (n := 7) (S := fun w' => w'.cell? ⟨w.heap.size, 0, none⟩ = some (.int .u32 x0) ∧ w'.cell? ⟨w.heap.size, 1, none⟩ = some (.int .i64 x1)) (ds := [5]) #[false, false, false, false, false, false, false] (by kernel_rfl) rfl rfl ⟨q10, q11⟩ (fun hHeld => ?_)
    refine pure_ (i := 0) (N := some 17) (v := ?_) (a' := ?_) #[true, false, false, false, false, false, false] rfl rfl (by kernel_rfl) (fun _ _ _ h => h) (Or.inl ⟨by rfl, ?_⟩) ?_ ?_
    rotate_left
    · intro w'
      go_simp
      with_reducible rfl
    rotate_left
    · simp only [Act.put, List.setIfInBounds_toArray, List.set_cons_zero, List.set_cons_succ, i64_w, i32_w]
      rfl
    refine pure_ (i := 1) (N := some 18) (v := ?_) (a' := ?_) #[true, true, false, false, false, false, false] rfl rfl (by kernel_rfl) (fun _ _ _ h => h) (Or.inl ⟨by rfl, ?_⟩) ?_ ?_
    rotate_left
    · intro w'
      go_simp
      with_reducible rfl
    rotate_left
    · simp only [Act.put, List.setIfInBounds_toArray, List.set_cons_zero, List.set_cons_succ, i64_w, i32_w]
      rfl
    refine take_ (i := 2) (N := some 19) (v := ?_) (a' := ?_) #[true, true, true, false, false, false, false] rfl rfl (by kernel_rfl) (fun _ _ _ h => h) (Or.inl ⟨by rfl, ?_⟩) hHeld ?_ ?_
    rotate_left
    · rintro w' ⟨s0, s1⟩
      go_simp
      with_reducible rfl
    rotate_left
    · simp only [Act.put, List.setIfInBounds_toArray, List.set_cons_zero, List.set_cons_succ, i64_w, i32_w]
      rfl
    refine take_ (i := 4) (N := some 21) (v := ?_) (a' := ?_) #[true, true, true, false, true, false, false] rfl rfl (by kernel_rfl) (fun _ _ _ h => h) (Or.inl ⟨by rfl, ?_⟩) hHeld ?_ ?_
    rotate_left
    · rintro w' ⟨s0, s1⟩
      go_simp
      with_reducible rfl
    rotate_left
    · simp only [Act.put, List.setIfInBounds_toArray, List.set_cons_zero, List.set_cons_succ, i64_w, i32_w]
      rfl
    refine one_ (i := 3) (N := some 20) #[true, true, true, true, true, false, false] rfl rfl (by kernel_rfl) (by decide) (fun K hK => ?_)
    refine goes_ Try.func28 (by kernel_rfl) rfl #[ptr p, .int .u32 x0] (by rfl) rfl rfl (by simp only [List.map_toArray, List.map_cons, List.map_nil]; rfl) ?_
    with_reducible refine (HHO.out).mono ?_
    rintro e w3 ⟨rfl, rfl⟩
    refine ⟨_, rfl, ?_⟩
    refine hK.out _ _ ⟨q10, q11⟩ (fun hHeld => ?_)
    clear hK K
    refine norm_ (a' := ?_) ?_ ?_
    rotate_left
    · show Act.put _ (some 20) _ = _
      simp only [Act.put, List.setIfInBounds_toArray, List.set_cons_zero, List.set_cons_succ, i64_w, i32_w]
      rfl
    refine last_ (i := 5) (N := some 22) #[true, true, true, true, true, true, false] rfl rfl (by kernel_rfl) (by decide) (fun K hK => ?_)
    refine goes_ Try.func29 (by kernel_rfl) rfl #[ptr q, .agg #[.int .u32 x0, .int .i64 x1]] (by rfl) rfl rfl (by simp only [List.map_toArray, List.map_cons, List.map_nil]; rfl) ?_
    with_reducible refine (HPU.out).mono ?_
    rintro e w4 ⟨rfl, hA4, hB4⟩
    refine ⟨_, rfl, ?_⟩
    refine hK.out _ _ ?_
    clear hK K
    refine norm_ (a' := ?_) ?_ ?_
    rotate_left
    · show Act.put _ (some 22) _ = _
      simp only [Act.put, List.setIfInBounds_toArray, List.set_cons_zero, List.set_cons_succ, i64_w, i32_w]
      rfl
    refine pure_ (i := 6) (N := some 23) (v := ?_) (a' := ?_) #[true, true, true, true, true, true, true] rfl rfl (by kernel_rfl) (fun _ _ _ h => h) (Or.inl ⟨by rfl, ?_⟩) ?_ ?_
    rotate_left
    · intro w'
      go_simp
      with_reducible rfl
    rotate_left
    · simp only [Act.put, List.setIfInBounds_toArray, List.set_cons_zero, List.set_cons_succ, i64_w, i32_w]
      rfl
    refine done_ (by kernel_rfl) ?_

    have HA4 := Aside0.mk (HDR.out (HR2.out _ _ hA4))
    have HB4 := Aside0.mk (HB0.out.trans (Below.trans (below_drew (below_drew (Below.refl _ _))) hB4))
    clear hA4 hB4 q10 q11
    go_wp2
    go_ret
    exact ⟨rfl, HA4.out, HB4.out⟩
  · go_enter Try.func8, Try.ntmps8
    go_wp2_with (first | (refine HN.out.mono ?_; rintro e w1 ⟨rfl, rfl⟩) | fail)
    obtain ⟨q1, -, -, -⟩ := Has.box_cell HA0.out (b := w.heap.size) (cs := #[.int .u32 x0, .int .i64 x1]) (t := 31) (by simp)
    have q10 : (w.alloc (.cells #[.int .u32 x0, .int .i64 x1] 31)).cell? ⟨w.heap.size, 0, none⟩ = some (.int .u32 x0) := q1 0
    have q11 : (w.alloc (.cells #[.int .u32 x0, .int .i64 x1] 31)).cell? ⟨w.heap.size, 1, none⟩ = some (.int .i64 x1) := q1 1
    clear q1
    refine start_ (n := 7) (S := fun w' => w'.cell? ⟨w.heap.size, 0, none⟩ = some (.int .u32 x0) ∧ w'.cell? ⟨w.heap.size, 1, none⟩ = some (.int .i64 x1)) (ds := [5]) #[false, false, false, false, false, false, false] (by kernel_rfl) rfl rfl ⟨q10, q11⟩ (fun hHeld => ?_)
    refine pure_ (i := 0) (N := some 17) (v := ?_) (a' := ?_) #[true, false, false, false, false, false, false] rfl rfl (by kernel_rfl) (fun _ _ _ h => h) (Or.inl ⟨by rfl, ?_⟩) ?_ ?_
    rotate_left
    · intro w'
      go_simp
      with_reducible rfl
    rotate_left
    · simp only [Act.put, List.setIfInBounds_toArray, List.set_cons_zero, List.set_cons_succ, i64_w, i32_w]
      rfl
    refine pure_ (i := 1) (N := some 18) (v := ?_) (a' := ?_) #[true, true, false, false, false, false, false] rfl rfl (by kernel_rfl) (fun _ _ _ h => h) (Or.inl ⟨by rfl, ?_⟩) ?_ ?_
    rotate_left
    · intro w'
      go_simp
      with_reducible rfl
    rotate_left
    · simp only [Act.put, List.setIfInBounds_toArray, List.set_cons_zero, List.set_cons_succ, i64_w, i32_w]
      rfl
    refine take_ (i := 2) (N := some 19) (v := ?_) (a' := ?_) #[true, true, true, false, false, false, false] rfl rfl (by kernel_rfl) (fun _ _ _ h => h) (Or.inl ⟨by rfl, ?_⟩) hHeld ?_ ?_
    rotate_left
    · rintro w' ⟨s0, s1⟩
      go_simp
      with_reducible rfl
    rotate_left
    · simp only [Act.put, List.setIfInBounds_toArray, List.set_cons_zero, List.set_cons_succ, i64_w, i32_w]
      rfl
    refine take_ (i := 4) (N := some 21) (v := ?_) (a' := ?_) #[true, true, true, false, true, false, false] rfl rfl (by kernel_rfl) (fun _ _ _ h => h) (Or.inl ⟨by rfl, ?_⟩) hHeld ?_ ?_
    rotate_left
    · rintro w' ⟨s0, s1⟩
      go_simp
      with_reducible rfl
    rotate_left
    · simp only [Act.put, List.setIfInBounds_toArray, List.set_cons_zero, List.set_cons_succ, i64_w, i32_w]
      rfl
    refine one_ (i := 3) (N := some 20) #[true, true, true, true, true, false, false] rfl rfl (by kernel_rfl) (by decide) (fun K hK => ?_)
    refine goes_ Try.func28 (by kernel_rfl) rfl #[ptr p, .int .u32 x0] (by rfl) rfl rfl (by simp only [List.map_toArray, List.map_cons, List.map_nil]; rfl) ?_
    with_reducible refine (HHO.out).mono ?_
    rintro e w3 ⟨rfl, rfl⟩
    refine ⟨_, rfl, ?_⟩
    refine hK.out _ _ ⟨q10, q11⟩ (fun hHeld => ?_)
    clear hK K
    refine norm_ (a' := ?_) ?_ ?_
    rotate_left
    · show Act.put _ (some 20) _ = _
      simp only [Act.put, List.setIfInBounds_toArray, List.set_cons_zero, List.set_cons_succ, i64_w, i32_w]
      rfl
    refine last_ (i := 5) (N := some 22) #[true, true, true, true, true, true, false] rfl rfl (by kernel_rfl) (by decide) (fun K hK => ?_)
    refine goes_ Try.func29 (by kernel_rfl) rfl #[ptr q, .agg #[.int .u32 x0, .int .i64 x1]] (by rfl) rfl rfl (by simp only [List.map_toArray, List.map_cons, List.map_nil]; rfl) ?_
    with_reducible refine (HPU.out).mono ?_
    rintro e w4 ⟨rfl, hA4, hB4⟩
    refine ⟨_, rfl, ?_⟩
    refine hK.out _ _ ?_
    clear hK K
    refine norm_ (a' := ?_) ?_ ?_
    rotate_left
    · show Act.put _ (some 22) _ = _
      simp only [Act.put, List.setIfInBounds_toArray, List.set_cons_zero, List.set_cons_succ, i64_w, i32_w]
      rfl
    refine pure_ (i := 6) (N := some 23) (v := ?_) (a' := ?_) #[true, true, true, true, true, true, true] rfl rfl (by kernel_rfl) (fun _ _ _ h => h) (Or.inl ⟨by rfl, ?_⟩) ?_ ?_
    rotate_left
    · intro w'
      go_simp
      with_reducible rfl
    rotate_left
    · simp only [Act.put, List.setIfInBounds_toArray, List.set_cons_zero, List.set_cons_succ, i64_w, i32_w]
      rfl
    refine done_ (by kernel_rfl) ?_

    have HA4 := Aside0.mk (HDR.out (HR2.out _ _ hA4))
    have HB4 := Aside0.mk (HB0.out.trans (Below.trans (below_drew (below_drew (Below.refl _ _))) hB4))
    clear hA4 hB4 q10 q11
    go_wp2
    go_ret
    exact ⟨rfl, HA4.out, HB4.out⟩
end Go.Proofs.Ytpnoghnhlddjeaa.Wk
namespace Go.Proofs.Ytpnoghnhlddjeaa.Wk
open Go.RowKit Go.Proofs.YtpnoghnhlddjeaaW.PrintWords Go.Proofs.YtpnoghnhlddjeaaW.PrintLast Go.Proofs.YtpnoghnhlddjeaaW.PrintMore Go.Proofs.Ytpnoghnhlddjeaa.Q Go.Proofs.Ytpnoghnhlddjeaa.Own Go.Proofs.Ytpnoghnhlddjeaa.Hp
set_option linter.unusedVariables false
set_option linter.unusedSimpArgs false
attribute [local go_sem ↓] Go.wp_at_zero Go.wp_at_succ

/-- Workers that nobody made. -/
def DeadW (w : World) (v : Value) : Prop := v = .pointer none ∨ ∃ b, v = ptr b ∧ w.cell? ⟨b, 0, none⟩ = some (.slice none 0 0) ∧ w.cell? ⟨b, 1, none⟩ = some .nilFunc
theorem DeadW.below {w w' : World} {v : Value} (h : DeadW w v) (hb : Below w.heap.size w w') : DeadW w' v := by
  rcases h with h | ⟨b, h1, h2, h3⟩
  · exact .inl h
  · exact .inr ⟨b, h1, pw_cell_below hb h2, pw_cell_below hb h3⟩
set_option maxRecDepth 100000 in
theorem wdead_none {w : World} {v : Value} (h : DeadW w v) : Calls Try.prog 27 #[v] w fun e w' => e = .returned (.bool true) ∧ w = w' := by
  rcases h with rfl | ⟨b, rfl, h0, h1⟩
  · go_enter Try.func27, Try.ntmps27
    go_wp2
    go_ret
    exact ⟨rfl, rfl⟩
  · have huf : ∀ W : World, (binOp .eql 54 .nilFunc .nilFunc).run Try.prog W = .ok (.bool true) W := fun W => by kernel_rfl
    go_enter Try.func27, Try.ntmps27
    go_wp2
    go_ret
    exact ⟨rfl, rfl⟩
set_option maxRecDepth 100000 in
theorem wdead_put {w : World} {v : Value} (h : DeadW w v) (x0 x1 : Int) : Calls Try.prog 8 #[v, .agg #[.int .u32 x0, .int .i64 x1]] w fun e w' => e = .returned (.int .i64 1) ∧ Below w.heap.size w w' := by
  have HBl : Aside0 (Below w.heap.size w (w.alloc (.cells #[.int .u32 x0, .int .i64 x1] 31))) := ⟨(Below.refl _ w).alloc (Nat.le_refl _) _⟩
  have HN := Aside0.mk (wdead_none (h.below HBl.out))
  clear h
  go_enter Try.func8, Try.ntmps8
  go_wp2_with (refine HN.out.mono ?_; rintro e w1 ⟨rfl, rfl⟩)
  go_ret
  exact ⟨rfl, HBl.out⟩
set_option maxRecDepth 100000 in
theorem wdead_drop {w : World} {v : Value} (h : DeadW w v) (r : Int) : Calls Try.prog 17 #[v, .int .u32 r] w fun e w' => e = .returned (.bool false) ∧ Below w.heap.size w w' := by
  have HN := Aside0.mk (wdead_none h)
  clear h
  go_enter Try.func17, Try.ntmps17
  go_wp2_with (refine HN.out.mono ?_; rintro e w1 ⟨rfl, rfl⟩)
  go_ret
  exact ⟨rfl, Below.refl _ _⟩
set_option maxRecDepth 100000 in
theorem wdead_count {w : World} {v : Value} (h : DeadW w v) (i : Int) : Calls Try.prog 10 #[v, .int .i64 i] w fun e w' => e = .returned (.int .i64 0) ∧ Below w.heap.size w w' := by
  have HN := Aside0.mk (wdead_none h)
  clear h
  go_enter Try.func10, Try.ntmps10
  go_wp2_with (refine HN.out.mono ?_; rintro e w1 ⟨rfl, rfl⟩)
  go_ret
  exact ⟨rfl, Below.refl _ _⟩
set_option maxRecDepth 100000 in
theorem wdead_all {w : World} {v : Value} (h : DeadW w v) : Calls Try.prog 9 #[v] w fun e w' => e = .returned (.slice none 0 0) ∧ Below w.heap.size w w' := by
  have HN := Aside0.mk (wdead_none h)
  clear h
  go_enter Try.func9, Try.ntmps9
  go_wp2_with (refine HN.out.mono ?_; rintro e w1 ⟨rfl, rfl⟩)
  go_ret
  exact ⟨rfl, Below.refl _ _⟩
set_option maxRecDepth 100000 in
theorem wdead_len {w : World} {v : Value} (h : DeadW w v) : Calls Try.prog 13 #[v] w fun e w' => e = .returned (.int .i64 0) ∧ Below w.heap.size w w' := by
  have HN := Aside0.mk (wdead_all h)
  clear h
  go_enter Try.func13, Try.ntmps13
  go_wp2_with (refine HN.out.mono ?_; rintro e w1 ⟨rfl, hb⟩)
  go_ret
  exact ⟨rfl, hb⟩
set_option maxHeartbeats 2000000 in
set_option maxRecDepth 100000 in
theorem wdead_turn {w : World} {v : Value} (h : DeadW w v) (i a : Int) : Calls Try.prog 12 #[v, .int .i64 i, .int .i64 a] w fun e w' => e = .returned (.tuple #[.agg #[.int .u32 0, .int .i64 0], .bool false, .bool false]) ∧ Below w.heap.size w w' := by
  have HBl : Aside0 (Below w.heap.size w (w.alloc (.cells #[.int .u32 0, .int .i64 0] 31))) := ⟨(Below.refl _ w).alloc (Nat.le_refl _) _⟩
  have HN := Aside0.mk (wdead_none (h.below HBl.out))
  have hu := Try.underlying31
  clear h
  go_enter Try.func12, Try.ntmps12
  go_wp2_with (refine HN.out.mono ?_; rintro e w1 ⟨rfl, rfl⟩)
  refine bodyPost_ret (v := .tuple #[.agg #[.int .u32 0, .int .i64 0], .bool false, .bool false]) (by simp [results, Try.results12, go_sem]) rfl ?_
  exact ⟨rfl, HBl.out⟩
/-- The earliest task that is due at a: told, and what is left. -/
def takeO (s : List S31) (a : Int) : Bool := match s with | [] => false | x :: _ => decide (x.f1 ≤ a)
def takeX (s : List S31) (a : Int) : S31 := if takeO s a = true then s.headD z31 else z31
def takeS (s : List S31) (a : Int) : List S31 := if takeO s a = true then s.tail else s
set_option maxHeartbeats 4000000 in
set_option maxRecDepth 100000 in
theorem take_calls {B : Nat} {w : World} {Ts : List Th} {p : Nat} {s : List S31} (h : Has B w (heapT p s :: Ts)) (a : Int) :
    Calls Try.prog 36 #[ptr p, .int .i64 a] w (StayPost B w (heapT p (takeS s a) :: Ts) (pairV (takeX s a) (takeO s a))) := by
  have HA := Aside0.mk (h.box #[.int .u32 0, .int .i64 0] 31).swap
  have HB : Aside0 (Below B w (w.alloc (.cells #[.int .u32 0, .int .i64 0] 31))) := ⟨(Below.refl B w).alloc h.size _⟩
  have HM := Aside0.mk (min_calls HA.out)
  have hu := Try.underlying31
  clear h
  cases s with
  | nil =>
    rw [show pairV (List.headD ([] : List S31) z31) (!List.isEmpty ([] : List S31)) = .tuple #[.agg #[.int .u32 0, .int .i64 0], .bool false] from rfl] at HM
    rw [show takeS [] a = [] from rfl, show pairV (takeX [] a) (takeO [] a) = .tuple #[.agg #[.int .u32 0, .int .i64 0], .bool false] from rfl]
    go_enter Try.func36, Try.ntmps36
    go_wp2_with fail
    generalize w.alloc (.cells #[.int .u32 0, .int .i64 0] 31) = w0 at HA HB HM ⊢
    generalize w.heap.size = b0 at HA HM ⊢
    refine HM.out.mono ?_
    rintro e w1 ⟨rfl, hA, hB⟩
    have HA1 := Aside0.mk (hA.box #[.int .u32 0, .int .i64 0] 31).third
    have HB1 := Aside0.mk ((HB.out.trans hB).alloc hA.size (.cells #[.int .u32 0, .int .i64 0] 31))
    obtain ⟨q1, q2, q3, q4⟩ := Has.box_cell HA1.out (b := b0) (cs := #[.int .u32 0, .int .i64 0]) (t := 31) (by simp)
    have f0 := q2 0
    have f1 := q2 1
    have c0 : (w1.alloc (.cells #[.int .u32 0, .int .i64 0] 31)).cell? ⟨b0, 0, none⟩ = some (.int .u32 0) := q1 0
    have c1 : (w1.alloc (.cells #[.int .u32 0, .int .i64 0] 31)).cell? ⟨b0, 1, none⟩ = some (.int .i64 0) := q1 1
    clear q1 q2 q3 q4 hA hB HM HA HB
    go_wp2_with fail
    have HAF := HA1
    have HBF := HB1
    obtain ⟨s1, t1⟩ := HAF.out.box_set 0 (.int .u32 0)
    obtain ⟨s2, t2⟩ := s1.box_set 1 (.int .i64 0)
    obtain ⟨q1, -, -, -⟩ := Has.box_cell s2 (b := b0) (t := 31) (cs := (((#[.int .u32 0, .int .i64 0] : Array Value).setIfInBounds 0 (.int .u32 0)).setIfInBounds 1 (.int .i64 0))) (by simp)
    have r0 := q1 0
    have r1 := q1 1
    have HAG := Aside0.mk s2
    have HBG := Aside0.mk (t1.trans t2)
    clear q1 s1 s2 t1 t2 f0 f1 c0 c1
    refine bodyPost_ret (v := .tuple #[.agg #[.int .u32 0, .int .i64 0], .bool false]) (by simp [results, Try.results36, go_sem] at r0 r1 ⊢; simp [r0, r1, go_sem]) rfl ?_
    exact ⟨rfl, HAG.out.tail.tail, HBF.out.trans HBG.out⟩
  | cons x t =>
    obtain ⟨x0, x1⟩ := x
    rw [show pairV (List.headD ((⟨x0, x1⟩ : S31) :: t) z31) (!List.isEmpty ((⟨x0, x1⟩ : S31) :: t)) = .tuple #[.agg #[.int .u32 x0, .int .i64 x1], .bool true] from rfl] at HM
    by_cases hgt : x1 > a
    · have e1 : takeO ((⟨x0, x1⟩ : S31) :: t) a = false := decide_eq_false (by dsimp only; omega)
      rw [show takeS ((⟨x0, x1⟩ : S31) :: t) a = (⟨x0, x1⟩ : S31) :: t by unfold takeS; rw [e1]; rfl, show pairV (takeX ((⟨x0, x1⟩ : S31) :: t) a) (takeO ((⟨x0, x1⟩ : S31) :: t) a) = .tuple #[.agg #[.int .u32 0, .int .i64 0], .bool false] by unfold takeX; rw [e1]; rfl]
      have d1 : decide (x1 > a) = true := decide_eq_true hgt
      clear e1
      go_enter Try.func36, Try.ntmps36
      go_wp2_with fail
      generalize w.alloc (.cells #[.int .u32 0, .int .i64 0] 31) = w0 at HA HB HM ⊢
      generalize w.heap.size = b0 at HA HM ⊢
      refine HM.out.mono ?_
      rintro e w1 ⟨rfl, hA, hB⟩
      have HAF := Aside0.mk (hA.box #[.int .u32 x0, .int .i64 x1] 31).third
      have HBF := Aside0.mk ((HB.out.trans hB).alloc hA.size (.cells #[.int .u32 x0, .int .i64 x1] 31))
      obtain ⟨q1, q2, q3, q4⟩ := Has.box_cell HAF.out (b := b0) (cs := #[.int .u32 0, .int .i64 0]) (t := 31) (by simp)
      have f0 := q2 0
      have f1 := q2 1
      have c0 : (w1.alloc (.cells #[.int .u32 x0, .int .i64 x1] 31)).cell? ⟨b0, 0, none⟩ = some (.int .u32 0) := q1 0
      have c1 : (w1.alloc (.cells #[.int .u32 x0, .int .i64 x1] 31)).cell? ⟨b0, 1, none⟩ = some (.int .i64 0) := q1 1
      clear q1 q2 q3 q4 hA hB HM HA HB
      go_wp2_with fail
      obtain ⟨s1, t1⟩ := HAF.out.box_set 0 (.int .u32 0)
      obtain ⟨s2, t2⟩ := s1.box_set 1 (.int .i64 0)
      obtain ⟨q1, -, -, -⟩ := Has.box_cell s2 (b := b0) (t := 31) (cs := (((#[.int .u32 0, .int .i64 0] : Array Value).setIfInBounds 0 (.int .u32 0)).setIfInBounds 1 (.int .i64 0))) (by simp)
      have r0 := q1 0
      have r1 := q1 1
      have HAG := Aside0.mk s2
      have HBG := Aside0.mk (t1.trans t2)
      clear q1 s1 s2 t1 t2 f0 f1 c0 c1
      refine bodyPost_ret (v := .tuple #[.agg #[.int .u32 0, .int .i64 0], .bool false]) (by simp [results, Try.results36, go_sem] at r0 r1 ⊢; simp [r0, r1, go_sem]) rfl ?_
      exact ⟨rfl, HAG.out.tail.tail, HBF.out.trans HBG.out⟩
    · have e1 : takeO ((⟨x0, x1⟩ : S31) :: t) a = true := decide_eq_true (by dsimp only; omega)
      rw [show takeS ((⟨x0, x1⟩ : S31) :: t) a = t by unfold takeS; rw [e1]; rfl, show pairV (takeX ((⟨x0, x1⟩ : S31) :: t) a) (takeO ((⟨x0, x1⟩ : S31) :: t) a) = .tuple #[.agg #[.int .u32 x0, .int .i64 x1], .bool true] by unfold takeX; rw [e1]; rfl]
      have d1 : decide (x1 > a) = false := decide_eq_false hgt
      clear e1
      go_enter Try.func36, Try.ntmps36
      go_wp2_with fail
      generalize w.alloc (.cells #[.int .u32 0, .int .i64 0] 31) = w0 at HA HB HM ⊢
      generalize w.heap.size = b0 at HA HM ⊢
      refine HM.out.mono ?_
      rintro e w1 ⟨rfl, hA, hB⟩
      have HA1 := Aside0.mk (hA.box #[.int .u32 x0, .int .i64 x1] 31).swap
      have HB1 := Aside0.mk ((HB.out.trans hB).alloc hA.size (.cells #[.int .u32 x0, .int .i64 x1] 31))
      clear hA hB HM HA HB
      go_wp2_with fail
      have HP := Aside0.mk (pop_calls HA1.out)
      rw [show pairV (List.headD ((⟨x0, x1⟩ : S31) :: t) z31) (!List.isEmpty ((⟨x0, x1⟩ : S31) :: t)) = .tuple #[.agg #[.int .u32 x0, .int .i64 x1], .bool true] from rfl] at HP
      refine HP.out.mono ?_
      rintro e w2 ⟨rfl, hA, hB⟩
      have HAF := Aside0.mk hA.third
      have HBF := Aside0.mk (HB1.out.trans hB)
      obtain ⟨q1, q2, q3, q4⟩ := Has.box_cell HAF.out (b := b0) (cs := #[.int .u32 0, .int .i64 0]) (t := 31) (by simp)
      have f0 := q2 0
      have f1 := q2 1
      have c0 : w2.cell? ⟨b0, 0, none⟩ = some (.int .u32 0) := q1 0
      have c1 : w2.cell? ⟨b0, 1, none⟩ = some (.int .i64 0) := q1 1
      clear q1 q2 q3 q4 hA hB HP HA1 HB1
      go_wp2_with fail
      obtain ⟨s1, t1⟩ := HAF.out.box_set 0 (.int .u32 x0)
      obtain ⟨s2, t2⟩ := s1.box_set 1 (.int .i64 x1)
      obtain ⟨q1, -, -, -⟩ := Has.box_cell s2 (b := b0) (t := 31) (cs := (((#[.int .u32 0, .int .i64 0] : Array Value).setIfInBounds 0 (.int .u32 x0)).setIfInBounds 1 (.int .i64 x1))) (by simp)
      have r0 := q1 0
      have r1 := q1 1
      have HAG := Aside0.mk s2
      have HBG := Aside0.mk (t1.trans t2)
      clear q1 s1 s2 t1 t2 f0 f1 c0 c1
      refine bodyPost_ret (v := .tuple #[.agg #[.int .u32 x0, .int .i64 x1], .bool true]) (by simp [results, Try.results36, go_sem] at r0 r1 ⊢; simp [r0, r1, go_sem]) rfl ?_
      exact ⟨rfl, HAG.out.tail.swap.tail, HBF.out.trans HBG.out⟩
end Go.Proofs.Ytpnoghnhlddjeaa.Wk
namespace Go.Proofs.Ytpnoghnhlddjeaa.Wk
open Go.RowKit Go.Proofs.YtpnoghnhlddjeaaW.PrintWords Go.Proofs.YtpnoghnhlddjeaaW.PrintLast Go.Proofs.YtpnoghnhlddjeaaW.PrintMore Go.Proofs.Ytpnoghnhlddjeaa.Q Go.Proofs.Ytpnoghnhlddjeaa.Own Go.Proofs.Ytpnoghnhlddjeaa.Hp
set_option linter.unusedVariables false
set_option linter.unusedSimpArgs false
attribute [local go_sem ↓] Go.wp_at_zero Go.wp_at_succ

def DropPost (B : Nat) (w : World) (p : Nat) (v : Value) (ps : List Nat) (hs : List (List S31)) (Ts : List Th) (r : Bool) (e : Ending) (w' : World) : Prop := e = .returned (.bool r) ∧ Has B w' (workL p v ps hs ++ Ts) ∧ Below B w w'
set_option maxHeartbeats 2000000 in
set_option maxRecDepth 100000 in
theorem drop_calls {B : Nat} {w : World} {p : Nat} {v : Value} {ps : List Nat} {hs : List (List S31)} {Ts : List Th} (h : Has B w (workL p v ps hs ++ Ts)) (hl : ps.length = hs.length) (hn : 0 < ps.length) (r : Int) (hr0 : 0 ≤ r) (hr1 : r ≤ 4294967295) :
    Calls Try.prog 17 #[ptr p, .int .u32 r] w (DropPost B w p v ps (hs.set (homeOf r ps.length) (withoutL (hs.getD (homeOf r ps.length) []) r)) Ts (hasL (hs.getD (homeOf r ps.length) []) r)) := by
  have hjl : homeOf r ps.length < ps.length := Nat.mod_lt _ hn
  have HN := Aside0.mk (wnone_calls h)
  have HHO := Aside0.mk (home_calls h hn r hr0 hr1)
  obtain ⟨R, r1, r2⟩ := work_pick (p := p) (v := v) (hs := hs) Ts hl (homeOf r ps.length) hjl
  have HRM := Aside0.mk (remove_calls (r1 _ _ h.drew) r)
  have HR2 := Aside0.mk (r2 (withoutL (hs.getD (homeOf r ps.length) []) r))
  have HS := Aside0.mk h.size
  generalize hasL (hs.getD (homeOf r ps.length) []) r = hh at HRM ⊢
  generalize ps[homeOf r ps.length] = q at HHO HRM HR2
  clear r1 r2 hl hn hr0 hr1 h
  go_enter Try.func17, Try.ntmps17
  go_wp2_with fail
  refine HN.out.mono ?_
  rintro e w1 ⟨rfl, rfl⟩
  go_wp2_with fail
  refine HHO.out.mono ?_
  rintro e w1 ⟨rfl, rfl⟩
  go_wp2_with fail
  refine HRM.out.mono ?_
  rintro e w2 ⟨rfl, hA, hB⟩
  have HA2 := Aside0.mk (HR2.out _ _ hA)
  have HB2 := Aside0.mk ((below_drew (Below.refl B w)).trans hB)
  clear hA hB HN HHO HRM HR2
  go_wp2_with fail
  go_ret
  exact ⟨rfl, HA2.out, HB2.out⟩
theorem goesV_ {P : Program} {ops : Array Oper} {Q : Exit → Act → World → Prop} {oi : Oper} {N : Option Tmp} {a : Act} {w : World} {K : Act → World → Prop} {f : FuncId} {fn : Func} {as_ : Array Operand} {ts : Array TypeId} (x : Operand) (hf : P.funcs[f]? = some fn) (hname : (fn.name == "runtime.NumGoroutine") = false) (hb : fn.body.isSome = true) (args : Array Value)
    (hw : Region.wanted oi (yielded ops a.tmps) = true) (hN : oi.dst = N) (hop : oi.op = .call { callee := .value x, args := as_, argTypes := ts }) (hx : a.eval x = .func (.func f) #[] #[]) (hargs : as_.map a.eval = args)
    (h : Calls P f args w fun e w' => ∃ v, e = .returned v ∧ K (a.put N v) w') : if Region.wanted oi (yielded ops a.tmps) = true then Oper.wp P oi a w K Q else K (a.put N undef) w := by
  refine call_ f args hw hN ?_ h
  have he := enters_ hf hname hb args w
  unfold execOp
  simp [hop, hx, resolve, Deferred.ofValue, invoke, hargs, he]
/-- The first of those with the most. -/
def mostF (hs : List (List S31)) : Nat → Nat
  | 0 => 0
  | i + 1 => if i = 0 then 0 else if (hs.getD i []).length > (hs.getD (mostF hs i) []).length then i else mostF hs i
theorem mostF_lt (hs : List (List S31)) : ∀ i, mostF hs i ≤ i - 1
  | 0 => Nat.le_refl _
  | i + 1 => by
    have := mostF_lt hs i
    unfold mostF
    split
    · omega
    · split <;> omega
theorem more_calls {B : Nat} {w : World} {p : Nat} {v : Value} {ps : List Nat} {hs : List (List S31)} {Ts : List Th} (h : Has B w (workL p v ps hs ++ Ts)) (hl : ps.length = hs.length) (i j : Nat) (hi : i < ps.length) (hj : j < ps.length) :
    Calls Try.prog 24 #[ptr ps[i], ptr ps[j]] w fun e w' => e = .returned (.bool (decide (((hs.getD i []).length : Int) > ((hs.getD j []).length : Int)))) ∧ w = w' := by
  obtain ⟨R, r1, -⟩ := work_pick Ts hl i hi
  obtain ⟨R', r1', -⟩ := work_pick Ts hl j hj
  have H1 := Aside0.mk (len_calls (r1 _ _ h))
  have H2 := Aside0.mk (len_calls (r1' _ _ h))
  clear r1 r1' h
  generalize ps[i] = a at H1 ⊢
  generalize ps[j] = b at H2 ⊢
  go_enter Try.func24, Try.ntmps24
  go_wp2_with fail
  refine H1.out.mono ?_
  rintro e w1 ⟨rfl, rfl⟩
  go_wp2_with fail
  refine H2.out.mono ?_
  rintro e w1 ⟨rfl, rfl⟩
  go_wp2_with fail
  go_ret
  exact ⟨by simp, rfl⟩
set_option maxHeartbeats 4000000 in
set_option maxRecDepth 100000 in
theorem most_calls {B : Nat} {w : World} {p : Nat} {v : Value} {ps : List Nat} {hs : List (List S31)} {Ts : List Th} (h : Has B w (workL p v ps hs ++ Ts)) (hl : ps.length = hs.length) :
    Calls Try.prog 37 #[ptr p] w fun e w' => e = .returned (.int .i64 (mostF hs ps.length : Nat)) ∧ ∃ k, w' = w.drewN k := by
  have H := Aside0.mk h
  have HL := Aside0.mk hl
  obtain ⟨q0, q1, A, c, rfl, hc, hC⟩ := work_cells h
  have HC := Aside0.mk hC
  have hmax : ps.length ≤ 9223372036854775807 := Kd.C_max hC
  clear h hl hC hc
  go_enter Try.func37, Try.ntmps37
  go_wp2
  refine wp_scope_straight ?_
  go_wp2_with (refine wp_label ?_)
  go_loopw [11, 3] (fun i b wr => ∃ n : Nat, i = .int .i64 n ∧ n ≤ ps.length ∧ b = .int .i64 (mostF hs n : Nat) ∧ ∃ k, wr = w.drewN k) (fun i _ _ => ps.length - (intOf i).toNat)
  case atStart => exact ⟨0, rfl, by omega, rfl, 0, rfl⟩
  case round =>
    obtain ⟨n, rfl, hn, rfl, k, rfl⟩ := hrel
    by_cases hnt : n < ps.length
    · have d1 : decide ((n : Int) < (ps.length : Int)) = true := decide_eq_true (by omega)
      have d2 : (n : Int) < (ps.length : Int) := by omega
      obtain ⟨ad, rfl, ka⟩ := at_P HC.out n hnt
      by_cases hz : n = 0
      · subst hz
        rw [show ((0 : Nat) : Int) = (0 : Int) from rfl] at *
        replace ka : w.cell? ad = some (ptr ps[0]) := ka
        go_wp2_with fail
        go_roundw
        case rel => exact ⟨1, rfl, by omega, rfl, k, rfl⟩
        case measure => simp [intOf]; omega
      · have e0 : ((n : Int) == 0) = false := beq_eq_false_iff_ne.2 (by omega)
        have hml := mostF_lt hs n
        obtain ⟨m, hm⟩ : ∃ m, m = mostF hs n := ⟨_, rfl⟩
        rw [← hm] at hml ⊢
        have hmp : m < ps.length := by omega
        obtain ⟨ad', e1, kb⟩ := at_P HC.out m hmp
        cases e1
        have HMO := Aside0.mk (more_calls (H.out.drewN k).drew HL.out n m hnt hmp)
        have HMT : Aside0 ((hs.getD n []).length > (hs.getD m []).length → mostF hs (n + 1) = n) := ⟨fun q => by unfold mostF; rw [if_neg hz, ← hm, if_pos q]⟩
        have HMF : Aside0 (¬ (hs.getD n []).length > (hs.getD m []).length → mostF hs (n + 1) = m) := ⟨fun q => by unfold mostF; rw [if_neg hz, ← hm, if_neg q]⟩
        generalize ps[n] = qa at ka HMO
        generalize ps[m] = qb at kb HMO
        have d3 : (m : Int) < (ps.length : Int) := by omega
        clear hm hml hz
        by_cases hg : (hs.getD n []).length > (hs.getD m []).length
        · rw [decide_eq_true (by omega)] at HMO
          replace HMT := Aside0.mk (HMT.out hg)
          clear hg HMF
          go_wp2_with fail
          refine start_ (n := 14) (S := fun w' => w'.cell? ⟨p, 0, none⟩ = some (.slice (some ad) ps.length c) ∧ w'.cell? ⟨p, 1, none⟩ = some (.func (.func 24) #[] #[]) ∧ w'.cell? (ad.add m) = some (ptr qb)) (ds := []) #[false, false, false, false, false, false, false, false, false, false, false, false, false, false] (by kernel_rfl) rfl rfl ⟨q0, q1, kb⟩ (fun hHeld => ?_)
          refine pure_ (i := 0) (N := some 20) (v := ?_) (a' := ?_) #[true, false, false, false, false, false, false, false, false, false, false, false, false, false] rfl rfl (by kernel_rfl) (fun _ _ _ h => h) (Or.inl ⟨by rfl, ?_⟩) ?_ ?_
          rotate_left
          · intro w'
            go_simp
            with_reducible rfl
          rotate_left
          · simp only [Act.put, List.setIfInBounds_toArray, List.set_cons_zero, List.set_cons_succ, i64_w, i32_w]
            rfl
          refine pure_ (i := 1) (N := some 21) (v := ?_) (a' := ?_) #[true, true, false, false, false, false, false, false, false, false, false, false, false, false] rfl rfl (by kernel_rfl) (fun _ _ _ h => h) (Or.inl ⟨by rfl, ?_⟩) ?_ ?_
          rotate_left
          · intro w'
            go_simp
            with_reducible rfl
          rotate_left
          · simp only [Act.put, List.setIfInBounds_toArray, List.set_cons_zero, List.set_cons_succ, i64_w, i32_w]
            rfl
          refine pure_ (i := 2) (N := some 22) (v := ?_) (a' := ?_) #[true, true, true, false, false, false, false, false, false, false, false, false, false, false] rfl rfl (by kernel_rfl) (fun _ _ _ h => h) (Or.inl ⟨by rfl, ?_⟩) ?_ ?_
          rotate_left
          · intro w'
            go_simp
            with_reducible rfl
          rotate_left
          · simp only [Act.put, List.setIfInBounds_toArray, List.set_cons_zero, List.set_cons_succ, i64_w, i32_w]
            rfl
          refine pure_ (i := 4) (N := some 24) (v := ?_) (a' := ?_) #[true, true, true, false, true, false, false, false, false, false, false, false, false, false] rfl rfl (by kernel_rfl) (fun _ _ _ h => h) (Or.inl ⟨by rfl, ?_⟩) ?_ ?_
          rotate_left
          · intro w'
            go_simp
            with_reducible rfl
          rotate_left
          · simp only [Act.put, List.setIfInBounds_toArray, List.set_cons_zero, List.set_cons_succ, i64_w, i32_w]
            rfl
          refine pure_ (i := 5) (N := some 25) (v := ?_) (a' := ?_) #[true, true, true, false, true, true, false, false, false, false, false, false, false, false] rfl rfl (by kernel_rfl) (fun _ _ _ h => h) (Or.inl ⟨by rfl, ?_⟩) ?_ ?_
          rotate_left
          · intro w'
            go_simp
            with_reducible rfl
          rotate_left
          · simp only [Act.put, List.setIfInBounds_toArray, List.set_cons_zero, List.set_cons_succ, i64_w, i32_w]
            rfl
          refine pure_ (i := 6) (N := some 26) (v := ?_) (a' := ?_) #[true, true, true, false, true, true, true, false, false, false, false, false, false, false] rfl rfl (by kernel_rfl) (fun _ _ _ h => h) (Or.inl ⟨by rfl, ?_⟩) ?_ ?_
          rotate_left
          · intro w'
            go_simp
            with_reducible rfl
          rotate_left
          · simp only [Act.put, List.setIfInBounds_toArray, List.set_cons_zero, List.set_cons_succ, i64_w, i32_w]
            rfl
          refine pure_ (i := 7) (N := some 27) (v := ?_) (a' := ?_) #[true, true, true, false, true, true, true, true, false, false, false, false, false, false] rfl rfl (by kernel_rfl) (fun _ _ _ h => h) (Or.inl ⟨by rfl, ?_⟩) ?_ ?_
          rotate_left
          · intro w'
            go_simp
            with_reducible rfl
          rotate_left
          · simp only [Act.put, List.setIfInBounds_toArray, List.set_cons_zero, List.set_cons_succ, i64_w, i32_w]
            rfl
          refine pure_ (i := 9) (N := some 29) (v := ?_) (a' := ?_) #[true, true, true, false, true, true, true, true, false, true, false, false, false, false] rfl rfl (by kernel_rfl) (fun _ _ _ h => h) (Or.inl ⟨by rfl, ?_⟩) ?_ ?_
          rotate_left
          · intro w'
            go_simp
            with_reducible rfl
          rotate_left
          · simp only [Act.put, List.setIfInBounds_toArray, List.set_cons_zero, List.set_cons_succ, i64_w, i32_w]
            rfl
          refine take_ (i := 3) (N := some 23) (v := ?_) (a' := ?_) #[true, true, true, true, true, true, true, true, false, true, false, false, false, false] rfl rfl (by kernel_rfl) (fun _ _ _ h => h) (Or.inl ⟨by rfl, ?_⟩) hHeld ?_ ?_
          rotate_left
          · rintro w' ⟨s0, s1, s2⟩
            go_simp
            with_reducible rfl
          rotate_left
          · simp only [Act.put, List.setIfInBounds_toArray, List.set_cons_zero, List.set_cons_succ, i64_w, i32_w]
            rfl
          refine take_ (i := 8) (N := some 28) (v := ?_) (a' := ?_) #[true, true, true, true, true, true, true, true, true, true, false, false, false, false] rfl rfl (by kernel_rfl) (fun _ _ _ h => h) (Or.inl ⟨by rfl, ?_⟩) hHeld ?_ ?_
          rotate_left
          · rintro w' ⟨s0, s1, s2⟩
            go_simp
            with_reducible rfl
          rotate_left
          · simp only [Act.put, List.setIfInBounds_toArray, List.set_cons_zero, List.set_cons_succ, i64_w, i32_w]
            rfl
          refine pure_ (i := 10) (N := some 30) (v := ?_) (a' := ?_) #[true, true, true, true, true, true, true, true, true, true, true, false, false, false] rfl rfl (by kernel_rfl) (fun _ _ _ h => h) (Or.inl ⟨by rfl, ?_⟩) ?_ ?_
          rotate_left
          · intro w'
            go_simp
            with_reducible rfl
          rotate_left
          · simp only [Act.put, List.setIfInBounds_toArray, List.set_cons_zero, List.set_cons_succ, i64_w, i32_w]
            rfl
          refine take_ (i := 11) (N := some 31) (v := ?_) (a' := ?_) #[true, true, true, true, true, true, true, true, true, true, true, true, false, false] rfl rfl (by kernel_rfl) (fun _ _ _ h => h) (Or.inl ⟨by rfl, ?_⟩) hHeld ?_ ?_
          rotate_left
          · rintro w' ⟨s0, s1, s2⟩
            go_simp
            with_reducible rfl
          rotate_left
          · simp only [Act.put, List.setIfInBounds_toArray, List.set_cons_zero, List.set_cons_succ, i64_w, i32_w]
            rfl
          refine one_ (i := 12) (N := some 32) #[true, true, true, true, true, true, true, true, true, true, true, true, true, false] rfl rfl (by kernel_rfl) (by decide) (fun K hK => ?_)
          refine goesV_ (.tmp 23) Try.func24 (by kernel_rfl) rfl #[ptr qa, ptr qb] (by rfl) rfl rfl (by rfl) (by simp only [List.map_toArray, List.map_cons, List.map_nil]; rfl) ?_
          with_reducible refine (HMO.out).mono ?_
          rintro e w3 ⟨rfl, rfl⟩
          refine ⟨_, rfl, ?_⟩
          refine hK.out _ _ ⟨q0, q1, kb⟩ (fun hHeld => ?_)
          clear hK K
          refine norm_ (a' := ?_) ?_ ?_
          rotate_left
          · show Act.put _ (some 32) _ = _
            simp only [Act.put, List.setIfInBounds_toArray, List.set_cons_zero, List.set_cons_succ, i64_w, i32_w]
            rfl
          refine pure_ (i := 13) (N := some 19) (v := ?_) (a' := ?_) #[true, true, true, true, true, true, true, true, true, true, true, true, true, true] rfl rfl (by kernel_rfl) (fun _ _ _ h => h) (Or.inl ⟨by rfl, ?_⟩) ?_ ?_
          rotate_left
          · intro w'
            go_simp
            with_reducible rfl
          rotate_left
          · simp only [Act.put, List.setIfInBounds_toArray, List.set_cons_zero, List.set_cons_succ, i64_w, i32_w]
            rfl
          refine done_ (by kernel_rfl) ?_

          go_wp2
          go_roundw
          case rel => exact ⟨n + 1, rfl, by omega, by rw [HMT.out], ⟨k + 1, rfl⟩⟩
          case measure => simp [intOf]; omega
        · rw [decide_eq_false (by omega)] at HMO
          replace HMF := Aside0.mk (HMF.out hg)
          clear hg HMT
          go_wp2_with fail
          refine start_ (n := 14) (S := fun w' => w'.cell? ⟨p, 0, none⟩ = some (.slice (some ad) ps.length c) ∧ w'.cell? ⟨p, 1, none⟩ = some (.func (.func 24) #[] #[]) ∧ w'.cell? (ad.add m) = some (ptr qb)) (ds := []) #[false, false, false, false, false, false, false, false, false, false, false, false, false, false] (by kernel_rfl) rfl rfl ⟨q0, q1, kb⟩ (fun hHeld => ?_)
          refine pure_ (i := 0) (N := some 20) (v := ?_) (a' := ?_) #[true, false, false, false, false, false, false, false, false, false, false, false, false, false] rfl rfl (by kernel_rfl) (fun _ _ _ h => h) (Or.inl ⟨by rfl, ?_⟩) ?_ ?_
          rotate_left
          · intro w'
            go_simp
            with_reducible rfl
          rotate_left
          · simp only [Act.put, List.setIfInBounds_toArray, List.set_cons_zero, List.set_cons_succ, i64_w, i32_w]
            rfl
          refine pure_ (i := 1) (N := some 21) (v := ?_) (a' := ?_) #[true, true, false, false, false, false, false, false, false, false, false, false, false, false] rfl rfl (by kernel_rfl) (fun _ _ _ h => h) (Or.inl ⟨by rfl, ?_⟩) ?_ ?_
          rotate_left
          · intro w'
            go_simp
            with_reducible rfl
          rotate_left
          · simp only [Act.put, List.setIfInBounds_toArray, List.set_cons_zero, List.set_cons_succ, i64_w, i32_w]
            rfl
          refine pure_ (i := 2) (N := some 22) (v := ?_) (a' := ?_) #[true, true, true, false, false, false, false, false, false, false, false, false, false, false] rfl rfl (by kernel_rfl) (fun _ _ _ h => h) (Or.inl ⟨by rfl, ?_⟩) ?_ ?_
          rotate_left
          · intro w'
            go_simp
            with_reducible rfl
          rotate_left
          · simp only [Act.put, List.setIfInBounds_toArray, List.set_cons_zero, List.set_cons_succ, i64_w, i32_w]
            rfl
          refine pure_ (i := 4) (N := some 24) (v := ?_) (a' := ?_) #[true, true, true, false, true, false, false, false, false, false, false, false, false, false] rfl rfl (by kernel_rfl) (fun _ _ _ h => h) (Or.inl ⟨by rfl, ?_⟩) ?_ ?_
          rotate_left
          · intro w'
            go_simp
            with_reducible rfl
          rotate_left
          · simp only [Act.put, List.setIfInBounds_toArray, List.set_cons_zero, List.set_cons_succ, i64_w, i32_w]
            rfl
          refine pure_ (i := 5) (N := some 25) (v := ?_) (a' := ?_) #[true, true, true, false, true, true, false, false, false, false, false, false, false, false] rfl rfl (by kernel_rfl) (fun _ _ _ h => h) (Or.inl ⟨by rfl, ?_⟩) ?_ ?_
          rotate_left
          · intro w'
            go_simp
            with_reducible rfl
          rotate_left
          · simp only [Act.put, List.setIfInBounds_toArray, List.set_cons_zero, List.set_cons_succ, i64_w, i32_w]
            rfl
          refine pure_ (i := 6) (N := some 26) (v := ?_) (a' := ?_) #[true, true, true, false, true, true, true, false, false, false, false, false, false, false] rfl rfl (by kernel_rfl) (fun _ _ _ h => h) (Or.inl ⟨by rfl, ?_⟩) ?_ ?_
          rotate_left
          · intro w'
            go_simp
            with_reducible rfl
          rotate_left
          · simp only [Act.put, List.setIfInBounds_toArray, List.set_cons_zero, List.set_cons_succ, i64_w, i32_w]
            rfl
          refine pure_ (i := 7) (N := some 27) (v := ?_) (a' := ?_) #[true, true, true, false, true, true, true, true, false, false, false, false, false, false] rfl rfl (by kernel_rfl) (fun _ _ _ h => h) (Or.inl ⟨by rfl, ?_⟩) ?_ ?_
          rotate_left
          · intro w'
            go_simp
            with_reducible rfl
          rotate_left
          · simp only [Act.put, List.setIfInBounds_toArray, List.set_cons_zero, List.set_cons_succ, i64_w, i32_w]
            rfl
          refine pure_ (i := 9) (N := some 29) (v := ?_) (a' := ?_) #[true, true, true, false, true, true, true, true, false, true, false, false, false, false] rfl rfl (by kernel_rfl) (fun _ _ _ h => h) (Or.inl ⟨by rfl, ?_⟩) ?_ ?_
          rotate_left
          · intro w'
            go_simp
            with_reducible rfl
          rotate_left
          · simp only [Act.put, List.setIfInBounds_toArray, List.set_cons_zero, List.set_cons_succ, i64_w, i32_w]
            rfl
          refine take_ (i := 3) (N := some 23) (v := ?_) (a' := ?_) #[true, true, true, true, true, true, true, true, false, true, false, false, false, false] rfl rfl (by kernel_rfl) (fun _ _ _ h => h) (Or.inl ⟨by rfl, ?_⟩) hHeld ?_ ?_
          rotate_left
          · rintro w' ⟨s0, s1, s2⟩
            go_simp
            with_reducible rfl
          rotate_left
          · simp only [Act.put, List.setIfInBounds_toArray, List.set_cons_zero, List.set_cons_succ, i64_w, i32_w]
            rfl
          refine take_ (i := 8) (N := some 28) (v := ?_) (a' := ?_) #[true, true, true, true, true, true, true, true, true, true, false, false, false, false] rfl rfl (by kernel_rfl) (fun _ _ _ h => h) (Or.inl ⟨by rfl, ?_⟩) hHeld ?_ ?_
          rotate_left
          · rintro w' ⟨s0, s1, s2⟩
            go_simp
            with_reducible rfl
          rotate_left
          · simp only [Act.put, List.setIfInBounds_toArray, List.set_cons_zero, List.set_cons_succ, i64_w, i32_w]
            rfl
          refine pure_ (i := 10) (N := some 30) (v := ?_) (a' := ?_) #[true, true, true, true, true, true, true, true, true, true, true, false, false, false] rfl rfl (by kernel_rfl) (fun _ _ _ h => h) (Or.inl ⟨by rfl, ?_⟩) ?_ ?_
          rotate_left
          · intro w'
            go_simp
            with_reducible rfl
          rotate_left
          · simp only [Act.put, List.setIfInBounds_toArray, List.set_cons_zero, List.set_cons_succ, i64_w, i32_w]
            rfl
          refine take_ (i := 11) (N := some 31) (v := ?_) (a' := ?_) #[true, true, true, true, true, true, true, true, true, true, true, true, false, false] rfl rfl (by kernel_rfl) (fun _ _ _ h => h) (Or.inl ⟨by rfl, ?_⟩) hHeld ?_ ?_
          rotate_left
          · rintro w' ⟨s0, s1, s2⟩
            go_simp
            with_reducible rfl
          rotate_left
          · simp only [Act.put, List.setIfInBounds_toArray, List.set_cons_zero, List.set_cons_succ, i64_w, i32_w]
            rfl
          refine one_ (i := 12) (N := some 32) #[true, true, true, true, true, true, true, true, true, true, true, true, true, false] rfl rfl (by kernel_rfl) (by decide) (fun K hK => ?_)
          refine goesV_ (.tmp 23) Try.func24 (by kernel_rfl) rfl #[ptr qa, ptr qb] (by rfl) rfl rfl (by rfl) (by simp only [List.map_toArray, List.map_cons, List.map_nil]; rfl) ?_
          with_reducible refine (HMO.out).mono ?_
          rintro e w3 ⟨rfl, rfl⟩
          refine ⟨_, rfl, ?_⟩
          refine hK.out _ _ ⟨q0, q1, kb⟩ (fun hHeld => ?_)
          clear hK K
          refine norm_ (a' := ?_) ?_ ?_
          rotate_left
          · show Act.put _ (some 32) _ = _
            simp only [Act.put, List.setIfInBounds_toArray, List.set_cons_zero, List.set_cons_succ, i64_w, i32_w]
            rfl
          refine pure_ (i := 13) (N := some 19) (v := ?_) (a' := ?_) #[true, true, true, true, true, true, true, true, true, true, true, true, true, true] rfl rfl (by kernel_rfl) (fun _ _ _ h => h) (Or.inl ⟨by rfl, ?_⟩) ?_ ?_
          rotate_left
          · intro w'
            go_simp
            with_reducible rfl
          rotate_left
          · simp only [Act.put, List.setIfInBounds_toArray, List.set_cons_zero, List.set_cons_succ, i64_w, i32_w]
            rfl
          refine done_ (by kernel_rfl) ?_

          go_wp2
          go_roundw
          case rel => exact ⟨n + 1, rfl, by omega, by rw [HMF.out], ⟨k + 1, rfl⟩⟩
          case measure => simp [intOf]; omega
    · have d1 : decide ((n : Int) < (ps.length : Int)) = false := decide_eq_false (by omega)
      have hnn : n = ps.length := by omega
      have HNN := Aside0.mk hnn
      clear hnn
      go_wp2
      simp only [Exit.noGoto]
      go_ret
      exact ⟨by rw [← HNN.out]; rfl, k, rfl⟩
end Go.Proofs.Ytpnoghnhlddjeaa.Wk
