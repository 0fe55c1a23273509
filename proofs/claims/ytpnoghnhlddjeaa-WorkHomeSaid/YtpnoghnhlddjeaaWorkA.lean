/- Workers: a heap each. Nobody's workers, a heap's place, the count: walked. -/
import Derived.Test.YtpnoghnhlddjeaaHeapG
namespace Go.Proofs.Ytpnoghnhlddjeaa.Wk
open Go.RowKit Go.Proofs.YtpnoghnhlddjeaaW.PrintWords Go.Proofs.YtpnoghnhlddjeaaW.PrintLast Go.Proofs.YtpnoghnhlddjeaaW.PrintMore Go.Proofs.Ytpnoghnhlddjeaa.Q Go.Proofs.Ytpnoghnhlddjeaa.Own Go.Proofs.Ytpnoghnhlddjeaa.Hp
set_option linter.unusedVariables false
set_option linter.unusedSimpArgs false
attribute [local go_sem ↓] Go.wp_at_zero Go.wp_at_succ

abbrev kP : Kd Nat := Kd.scalar (fun p : Nat => ptr p) (fun _ => rfl)
abbrev moreV : Value := .func (.func 24) #[] #[]
/-- Workers, as things: the pair, the row of the heaps' places, the heaps. -/
def workL (p : Nat) (v : Value) (ps : List Nat) (hs : List (List S31)) : List Th :=
  boxT p #[v, moreV] 56 :: rowT kP 62 v ps :: List.zipWith heapT ps hs
theorem zip_pick : ∀ (ps : List Nat) (hs : List (List S31)) (i : Nat) (h1 : i < ps.length) (h2 : i < hs.length), ∃ R : List Th, (List.zipWith heapT ps hs).Perm (heapT ps[i] hs[i] :: R) ∧ ∀ s, (List.zipWith heapT ps (hs.set i s)).Perm (heapT ps[i] s :: R)
  | p :: ps, h :: hs, 0, _, _ => ⟨List.zipWith heapT ps hs, List.Perm.refl _, fun s => List.Perm.refl _⟩
  | p :: ps, h :: hs, i + 1, h1, h2 => by
    obtain ⟨R, r1, r2⟩ := zip_pick ps hs i (by simpa using h1) (by simpa using h2)
    refine ⟨heapT p h :: R, ?_, fun s => ?_⟩
    · exact (List.Perm.cons _ r1).trans (List.Perm.swap _ _ _)
    · exact (List.Perm.cons _ (r2 s)).trans (List.Perm.swap _ _ _)
/-- One heap of the workers' opened, and shut again. -/
theorem work_pick {p : Nat} {v : Value} {ps : List Nat} {hs : List (List S31)} (Ts : List Th) (hl : ps.length = hs.length) (i : Nat) (h1 : i < ps.length) :
    ∃ R : List Th, (∀ B w, Has B w (workL p v ps hs ++ Ts) → Has B w (heapT ps[i] (hs.getD i []) :: R)) ∧ ∀ s B w, Has B w (heapT ps[i] s :: R) → Has B w (workL p v ps (hs.set i s) ++ Ts) := by
  obtain ⟨R, r1, r2⟩ := zip_pick ps hs i h1 (by omega)
  have hg : hs[i]'(by omega) = hs.getD i [] := by
    rw [List.getD_eq_getElem?_getD, List.getElem?_eq_getElem (by omega)]
    rfl
  rw [hg] at r1
  refine ⟨boxT p #[v, moreV] 56 :: rowT kP 62 v ps :: (R ++ Ts), fun B w h => h.perm ?_, fun s B w h => h.perm ?_⟩
  · unfold workL
    rw [List.cons_append, List.cons_append]
    refine (List.Perm.cons _ (List.Perm.cons _ (r1.append_right Ts))).trans ?_
    rw [List.cons_append]
    exact (List.Perm.cons _ (List.Perm.swap _ _ _)).trans (List.Perm.swap _ _ _)
  · unfold workL
    rw [List.cons_append, List.cons_append]
    refine List.Perm.trans ?_ (List.Perm.cons _ (List.Perm.cons _ ((r2 s).append_right Ts))).symm
    rw [List.cons_append]
    exact (List.Perm.swap _ _ _).trans (List.Perm.cons _ (List.Perm.swap _ _ _))
theorem work_cells {B : Nat} {w : World} {p : Nat} {v : Value} {ps : List Nat} {hs : List (List S31)} {Ts : List Th} (h : Has B w (workL p v ps hs ++ Ts)) :
    w.cell? ⟨p, 0, none⟩ = some v ∧ w.cell? ⟨p, 1, none⟩ = some (.func (.func 24) #[] #[]) ∧ ∃ A c, v = .slice A ps.length c ∧ ps.length ≤ c ∧ kP.C w A ps.length ps := by
  obtain ⟨q1, -, -, -⟩ := Has.box_cell h (b := p) (cs := #[v, moreV]) (t := 56) (by simp [workL])
  exact ⟨q1 0, q1 1, h.reads (d := kP) (e := 62) (v := v) (xs := ps) (by simp [workL])⟩
set_option maxRecDepth 100000 in
theorem wnone_calls {B : Nat} {w : World} {p : Nat} {v : Value} {ps : List Nat} {hs : List (List S31)} {Ts : List Th} (h : Has B w (workL p v ps hs ++ Ts)) :
    Calls Try.prog 27 #[ptr p] w fun e w' => e = .returned (.bool false) ∧ w = w' := by
  obtain ⟨q0, q1, -⟩ := work_cells h
  have huf : ∀ W : World, (binOp .eql 54 (.func (.func 24) #[] #[]) .nilFunc).run Try.prog W = .ok (.bool false) W := fun W => by kernel_rfl
  clear h
  go_enter Try.func27, Try.ntmps27
  go_wp2
  go_ret
  exact ⟨rfl, rfl⟩
theorem at_P {w : World} {A : Option Addr} {n : Nat} {ps : List Nat} (h : kP.C w A n ps) (i : Nat) (hi : i < ps.length) : ∃ ad, A = some ad ∧ w.cell? (ad.add i) = some (ptr (ps[i])) := by
  have hn := Kd.C_len h
  obtain ⟨ad, c, e, _, hK, hc⟩ := Kd.C_get h 0 (i : Int) (by omega) (by omega)
  have hK2 : c = [ptr (ps.getD (i : Int).toNat 0)] := hK
  have h0 := hc 0 (ptr (ps.getD (i : Int).toNat 0)) (by rw [hK2]; rfl)
  rw [Int.toNat_natCast, List.getD_eq_getElem?_getD, List.getElem?_eq_getElem hi] at h0
  refine ⟨ad, e, ?_⟩
  have h1 : w.cell? (ad.add (i * 1 + 0)) = some (ptr ps[i]) := h0
  rwa [Nat.mul_one, Nat.add_zero] at h1
def homeOf (r : Int) (n : Nat) : Nat := r.toNat % n
set_option maxRecDepth 100000 in
theorem home_calls {B : Nat} {w : World} {p : Nat} {v : Value} {ps : List Nat} {hs : List (List S31)} {Ts : List Th} (h : Has B w (workL p v ps hs ++ Ts)) (hn : 0 < ps.length) (r : Int) (hr0 : 0 ≤ r) (hr1 : r ≤ 4294967295) :
    Calls Try.prog 28 #[ptr p, .int .u32 r] w fun e w' => e = .returned (ptr (ps[homeOf r ps.length]'(Nat.mod_lt _ hn))) ∧ w' = w.drew := by
  obtain ⟨q0, -, A, c, rfl, hc, hC⟩ := work_cells h
  have hj : homeOf r ps.length < ps.length := Nat.mod_lt _ hn
  obtain ⟨ad, rfl, k0⟩ := at_P hC (homeOf r ps.length) hj
  have e1 : r.tmod (ps.length : Int) = ((homeOf r ps.length : Nat) : Int) := by
    unfold homeOf
    rw [Int.tmod_eq_emod_of_nonneg hr0, Int.natCast_emod, Int.toNat_of_nonneg hr0]
  generalize ps[homeOf r ps.length] = q at k0
  have hji : ((homeOf r ps.length : Nat) : Int) < (ps.length : Int) := by omega
  generalize homeOf r ps.length = j at k0 e1 hj hji
  clear hC h hc
  have hne : ((ps.length : Int) == 0) = false := beq_eq_false_iff_ne.2 (by omega)
  have hnil : ps ≠ [] := fun e => by rw [e] at hn; exact absurd hn (by decide)
  have hw : wrap64 r = r := by unfold wrap64; omega
  go_enter Try.func28, Try.ntmps28
  go_wp2_with fail
  refine start_ (n := 15) (S := fun w' => w'.cell? ⟨p, 0, none⟩ = some (.slice (some ad) ps.length c) ∧ w'.cell? (ad.add j) = some (ptr q)) (ds := []) #[false, false, false, false, false, false, false, false, false, false, false, false, false, false, false] (by kernel_rfl) rfl rfl ⟨q0, k0⟩ (fun hHeld => ?_)
  refine pure_ (i := 0) (N := some 5) (v := ?_) (a' := ?_) #[true, false, false, false, false, false, false, false, false, false, false, false, false, false, false] rfl rfl (by kernel_rfl) (fun _ _ _ h => h) (Or.inl ⟨by rfl, ?_⟩) ?_ ?_
  rotate_left
  · intro w'
    go_simp
    with_reducible rfl
  rotate_left
  · simp only [Act.put, List.setIfInBounds_toArray, List.set_cons_zero, List.set_cons_succ, i64_w, i32_w]
    rfl
  refine pure_ (i := 1) (N := some 6) (v := ?_) (a' := ?_) #[true, true, false, false, false, false, false, false, false, false, false, false, false, false, false] rfl rfl (by kernel_rfl) (fun _ _ _ h => h) (Or.inl ⟨by rfl, ?_⟩) ?_ ?_
  rotate_left
  · intro w'
    go_simp
    with_reducible rfl
  rotate_left
  · simp only [Act.put, List.setIfInBounds_toArray, List.set_cons_zero, List.set_cons_succ, i64_w, i32_w]
    rfl
  refine pure_ (i := 2) (N := some 7) (v := ?_) (a' := ?_) #[true, true, true, false, false, false, false, false, false, false, false, false, false, false, false] rfl rfl (by kernel_rfl) (fun _ _ _ h => h) (Or.inl ⟨by rfl, ?_⟩) ?_ ?_
  rotate_left
  · intro w'
    go_simp
    with_reducible rfl
  rotate_left
  · simp only [Act.put, List.setIfInBounds_toArray, List.set_cons_zero, List.set_cons_succ, i64_w, i32_w]
    rfl
  refine pure_ (i := 4) (N := some 9) (v := ?_) (a' := ?_) #[true, true, true, false, true, false, false, false, false, false, false, false, false, false, false] rfl rfl (by kernel_rfl) (fun _ _ _ h => h) (Or.inl ⟨by rfl, ?_⟩) ?_ ?_
  rotate_left
  · intro w'
    go_simp
    with_reducible rfl
  rotate_left
  · simp only [Act.put, List.setIfInBounds_toArray, List.set_cons_zero, List.set_cons_succ, i64_w, i32_w]
    rfl
  refine pure_ (i := 5) (N := some 10) (v := ?_) (a' := ?_) #[true, true, true, false, true, true, false, false, false, false, false, false, false, false, false] rfl rfl (by kernel_rfl) (fun _ _ _ h => h) (Or.inl ⟨by rfl, ?_⟩) ?_ ?_
  rotate_left
  · intro w'
    go_simp
    with_reducible rfl
  rotate_left
  · simp only [Act.put, List.setIfInBounds_toArray, List.set_cons_zero, List.set_cons_succ, i64_w, i32_w]
    rfl
  refine pure_ (i := 6) (N := some 11) (v := ?_) (a' := ?_) #[true, true, true, false, true, true, true, false, false, false, false, false, false, false, false] rfl rfl (by kernel_rfl) (fun _ _ _ h => h) (Or.inl ⟨by rfl, ?_⟩) ?_ ?_
  rotate_left
  · intro w'
    go_simp
    with_reducible rfl
  rotate_left
  · simp only [Act.put, List.setIfInBounds_toArray, List.set_cons_zero, List.set_cons_succ, i64_w, i32_w]
    rfl
  refine pure_ (i := 7) (N := some 12) (v := ?_) (a' := ?_) #[true, true, true, false, true, true, true, true, false, false, false, false, false, false, false] rfl rfl (by kernel_rfl) (fun _ _ _ h => h) (Or.inl ⟨by rfl, ?_⟩) ?_ ?_
  rotate_left
  · intro w'
    go_simp
    with_reducible rfl
  rotate_left
  · simp only [Act.put, List.setIfInBounds_toArray, List.set_cons_zero, List.set_cons_succ, i64_w, i32_w]
    rfl
  refine pure_ (i := 8) (N := some 13) (v := ?_) (a' := ?_) #[true, true, true, false, true, true, true, true, true, false, false, false, false, false, false] rfl rfl (by kernel_rfl) (fun _ _ _ h => h) (Or.inl ⟨by rfl, ?_⟩) ?_ ?_
  rotate_left
  · intro w'
    go_simp
    with_reducible rfl
  rotate_left
  · simp only [Act.put, List.setIfInBounds_toArray, List.set_cons_zero, List.set_cons_succ, i64_w, i32_w]
    rfl
  refine take_ (i := 3) (N := some 8) (v := ?_) (a' := ?_) #[true, true, true, true, true, true, true, true, true, false, false, false, false, false, false] rfl rfl (by kernel_rfl) (fun _ _ _ h => h) (Or.inl ⟨by rfl, ?_⟩) hHeld ?_ ?_
  rotate_left
  · rintro w' ⟨s0, s1⟩
    go_simp
    with_reducible rfl
  rotate_left
  · simp only [Act.put, List.setIfInBounds_toArray, List.set_cons_zero, List.set_cons_succ, i64_w, i32_w]
    rfl
  refine take_ (i := 9) (N := some 14) (v := ?_) (a' := ?_) #[true, true, true, true, true, true, true, true, true, true, false, false, false, false, false] rfl rfl (by kernel_rfl) (fun _ _ _ h => h) (Or.inl ⟨by rfl, ?_⟩) hHeld ?_ ?_
  rotate_left
  · rintro w' ⟨s0, s1⟩
    go_simp
    with_reducible rfl
  rotate_left
  · simp only [Act.put, List.setIfInBounds_toArray, List.set_cons_zero, List.set_cons_succ, i64_w, i32_w]
    rfl
  refine pure_ (i := 10) (N := some 15) (v := ?_) (a' := ?_) #[true, true, true, true, true, true, true, true, true, true, true, false, false, false, false] rfl rfl (by kernel_rfl) (fun _ _ _ h => h) (Or.inl ⟨by rfl, ?_⟩) ?_ ?_
  rotate_left
  · intro w'
    go_simp
    with_reducible rfl
  rotate_left
  · simp only [Act.put, List.setIfInBounds_toArray, List.set_cons_zero, List.set_cons_succ, i64_w, i32_w]
    rfl
  refine pure_ (i := 11) (N := some 16) (v := ?_) (a' := ?_) #[true, true, true, true, true, true, true, true, true, true, true, true, false, false, false] rfl rfl (by kernel_rfl) (fun _ _ _ h => h) (Or.inl ⟨by rfl, ?_⟩) ?_ ?_
  rotate_left
  · intro w'
    go_simp
    with_reducible rfl
  rotate_left
  · simp only [Act.put, List.setIfInBounds_toArray, List.set_cons_zero, List.set_cons_succ, i64_w, i32_w]
    rfl
  refine pure_ (i := 12) (N := some 17) (v := ?_) (a' := ?_) #[true, true, true, true, true, true, true, true, true, true, true, true, true, false, false] rfl rfl (by kernel_rfl) (fun _ _ _ h => h) (Or.inl ⟨by rfl, ?_⟩) ?_ ?_
  rotate_left
  · intro w'
    go_simp
    with_reducible rfl
  rotate_left
  · simp only [Act.put, List.setIfInBounds_toArray, List.set_cons_zero, List.set_cons_succ, i64_w, i32_w]
    rfl
  refine take_ (i := 13) (N := some 18) (v := ?_) (a' := ?_) #[true, true, true, true, true, true, true, true, true, true, true, true, true, true, false] rfl rfl (by kernel_rfl) (fun _ _ _ h => h) (Or.inl ⟨by rfl, ?_⟩) hHeld ?_ ?_
  rotate_left
  · rintro w' ⟨s0, s1⟩
    go_simp
    with_reducible rfl
  rotate_left
  · simp only [Act.put, List.setIfInBounds_toArray, List.set_cons_zero, List.set_cons_succ, i64_w, i32_w]
    rfl
  refine pure_ (i := 14) (N := some 4) (v := ?_) (a' := ?_) #[true, true, true, true, true, true, true, true, true, true, true, true, true, true, true] rfl rfl (by kernel_rfl) (fun _ _ _ h => h) (Or.inl ⟨by rfl, ?_⟩) ?_ ?_
  rotate_left
  · intro w'
    go_simp
    with_reducible rfl
  rotate_left
  · simp only [Act.put, List.setIfInBounds_toArray, List.set_cons_zero, List.set_cons_succ, i64_w, i32_w]
    rfl
  refine done_ (by kernel_rfl) ?_

  go_wp2
  go_ret
  exact ⟨rfl, rfl⟩
set_option maxRecDepth 100000 in
theorem count_in {B : Nat} {w : World} {p : Nat} {v : Value} {ps : List Nat} {hs : List (List S31)} {Ts : List Th} (h : Has B w (workL p v ps hs ++ Ts)) (hl : ps.length = hs.length) (i : Nat) (hi : i < ps.length) :
    Calls Try.prog 10 #[ptr p, .int .i64 (i : Int)] w fun e w' => e = .returned (.int .i64 ((hs.getD i []).length : Int)) ∧ w = w' := by
  have HN := Aside0.mk (wnone_calls h)
  obtain ⟨q0, -, A, c, rfl, hc, hC⟩ := work_cells h
  obtain ⟨ad, rfl, k0⟩ := at_P hC i hi
  obtain ⟨R, r1, -⟩ := work_pick Ts hl i hi
  have HL := Aside0.mk (len_calls (r1 _ _ h))
  generalize ps[i] = q at k0 HL
  have hi2 : (i : Int) < (ps.length : Int) := by omega
  have d1 : decide ((i : Int) ≥ (ps.length : Int)) = false := decide_eq_false (by omega)
  clear hC h hc r1
  go_enter Try.func10, Try.ntmps10
  go_wp2_with (first | (refine HN.out.mono ?_; rintro e w1 ⟨rfl, rfl⟩) | (refine HL.out.mono ?_; rintro e w1 ⟨rfl, rfl⟩))
  go_ret
  exact ⟨rfl, rfl⟩
def PutPost (B : Nat) (w : World) (p : Nat) (v : Value) (ps : List Nat) (hs : List (List S31)) (Ts : List Th) (r : Int) (e : Ending) (w' : World) : Prop := e = .returned (.int .i64 r) ∧ Has B w' (workL p v ps hs ++ Ts) ∧ Below B w w'
/-- What a put leaves, and says. -/
def putS (hs : List (List S31)) (x : S31) : List (List S31) := if x.f1 < 0 ∨ x.f1 > 1099511627776 then hs else hs.set (homeOf x.f0 hs.length) (pushS (hs.getD (homeOf x.f0 hs.length) []) x)
def putE (hs : List (List S31)) (x : S31) : Int := if x.f1 < 0 ∨ x.f1 > 1099511627776 then 2 else if hasL (hs.getD (homeOf x.f0 hs.length) []) x.f0 = true then 260 else 0
set_option maxHeartbeats 2000000 in
set_option maxRecDepth 100000 in
theorem put_calls {B : Nat} {w : World} {p : Nat} {v : Value} {ps : List Nat} {hs : List (List S31)} {Ts : List Th} (h : Has B w (workL p v ps hs ++ Ts)) (hl : ps.length = hs.length) (hn : 0 < ps.length) (x : S31) (hx : GoodT x) (hm : ∀ s ∈ hs, s.length < 1000000) :
    Calls Try.prog 8 #[ptr p, aggT x] w (PutPost B w p v ps (putS hs x) Ts (putE hs x)) := by
  have hA0 : Has B (w.alloc (.cells #[.int .u32 x.f0, .int .i64 x.f1] 31)) (workL p v ps hs ++ (boxT w.heap.size #[.int .u32 x.f0, .int .i64 x.f1] 31 :: Ts)) := (h.box #[.int .u32 x.f0, .int .i64 x.f1] 31).perm List.perm_middle.symm
  have hB0 : Below B w (w.alloc (.cells #[.int .u32 x.f0, .int .i64 x.f1] 31)) := (Below.refl B w).alloc h.size _
  have drop : ∀ {w' : World} {hs' : List (List S31)}, Has B w' (workL p v ps hs' ++ (boxT w.heap.size #[.int .u32 x.f0, .int .i64 x.f1] 31 :: Ts)) → Has B w' (workL p v ps hs' ++ Ts) := fun h => (h.perm List.perm_middle).tail
  have HN := Aside0.mk (wnone_calls hA0)
  have HA0 := Aside0.mk hA0
  have HB0 := Aside0.mk hB0
  have HDR := Aside0.mk @drop
  obtain ⟨x0, x1⟩ := x
  have HX := Aside0.mk hx
  have hu := Try.underlying31
  have HL := Aside0.mk hl
  clear drop hA0 hB0 hx h
  by_cases hlo : x1 < 0
  · have e1 : putS hs ⟨x0, x1⟩ = hs := if_pos (.inl hlo)
    have e2 : putE hs ⟨x0, x1⟩ = 2 := if_pos (.inl hlo)
    rw [e1, e2]
    clear hl hn hm
    clear e1 e2
    go_enter Try.func8, Try.ntmps8
    go_wp2_with (refine HN.out.mono ?_; rintro e w1 ⟨rfl, rfl⟩)
    go_ret
    exact ⟨rfl, HDR.out HA0.out, HB0.out⟩
  by_cases hhi : x1 > 1099511627776
  · have e1 : putS hs ⟨x0, x1⟩ = hs := if_pos (.inr hhi)
    have e2 : putE hs ⟨x0, x1⟩ = 2 := if_pos (.inr hhi)
    rw [e1, e2]
    have g1 : 1099511627776 < x1 := hhi
    clear hl hn hm
    clear e1 e2
    go_enter Try.func8, Try.ntmps8
    go_wp2_with (refine HN.out.mono ?_; rintro e w1 ⟨rfl, rfl⟩)
    go_ret
    exact ⟨rfl, HDR.out HA0.out, HB0.out⟩
  have g1 : ¬ 1099511627776 < x1 := hhi
  have hjl : homeOf x0 ps.length < ps.length := Nat.mod_lt _ hn
  have hjs : homeOf x0 hs.length = homeOf x0 ps.length := by rw [hl]
  have hjm : hs.getD (homeOf x0 ps.length) [] ∈ hs := by
    rw [List.getD_eq_getElem?_getD, List.getElem?_eq_getElem (by omega)]
    exact List.getElem_mem _
  have e1 : putS hs ⟨x0, x1⟩ = hs.set (homeOf x0 ps.length) (pushS (hs.getD (homeOf x0 ps.length) []) ⟨x0, x1⟩) := by
    unfold putS
    rw [if_neg (by dsimp only; omega)]
    dsimp only
    rw [hjs]
  have e2 : putE hs ⟨x0, x1⟩ = if hasL (hs.getD (homeOf x0 ps.length) []) x0 = true then 260 else 0 := by
    unfold putE
    rw [if_neg (by dsimp only; omega)]
    dsimp only
    rw [hjs]
  rw [e1, e2]
  have HHO := Aside0.mk (home_calls HA0.out.drew hn x0 HX.out.1 HX.out.2)
  obtain ⟨R, r1, r2⟩ := work_pick (p := p) (v := v) (hs := hs) (boxT w.heap.size #[.int .u32 x0, .int .i64 x1] 31 :: Ts) hl (homeOf x0 ps.length) hjl
  have HPU := Aside0.mk (push_calls (r1 _ _ HA0.out.drew.drew) ⟨x0, x1⟩ HX.out (hm _ hjm))
  have HR2 := Aside0.mk (r2 (pushS (hs.getD (homeOf x0 ps.length) []) ⟨x0, x1⟩))
  have hpe : pushE (hs.getD (homeOf x0 ps.length) []) ⟨x0, x1⟩ = if hasL (hs.getD (homeOf x0 ps.length) []) x0 = true then 2 else 0 := rfl
  rw [hpe] at HPU
  clear e1 e2 hjs hjm r1 r2 hpe hl hm hhi
  generalize hasL (hs.getD (homeOf x0 ps.length) []) x0 = hh at HPU ⊢
  generalize ps[homeOf x0 ps.length] = q at HHO HPU HR2
  cases hh
  · go_enter Try.func8, Try.ntmps8
    go_wp2_with (first | (refine HN.out.mono ?_; rintro e w1 ⟨rfl, rfl⟩) | fail)
    obtain ⟨q1, -, -, -⟩ := Has.box_cell HA0.out (b := w.heap.size) (cs := #[.int .u32 x0, .int .i64 x1]) (t := 31) (by simp)
    have q10 : (w.alloc (.cells #[.int .u32 x0, .int .i64 x1] 31)).cell? ⟨w.heap.size, 0, none⟩ = some (.int .u32 x0) := q1 0
    have q11 : (w.alloc (.cells #[.int .u32 x0, .int .i64 x1] 31)).cell? ⟨w.heap.size, 1, none⟩ = some (.int .i64 x1) := q1 1
    clear q1
    refine start_ (n := 7) (S := fun w' => w'.cell? ⟨w.heap.size, 0, none⟩ = some (.int .u32 x0) ∧ w'.cell? ⟨w.heap.size, 1, none⟩ = some (.int .i64 x1)) (ds := [5]) #[false, false, false, false, false, false, false] (by kernel_rfl) rfl rfl ⟨q10, q11⟩ (fun hHeld => ?_)
    refine pure_ (i := 0) (N := some 17) (v := ?_) (a' := ?_) #[true, false, false, false, false, false, false] rfl rfl (by kernel_rfl) (fun _ _ _ h => h) (Or.inl ⟨by rfl, ?_⟩) ?_ ?_
    rotate_left
    · intro w'
      go_simp
      with_reducible rfl
    rotate_left
    · simp only [Act.put, List.setIfInBounds_toArray, List.set_cons_zero, List.set_cons_succ, i64_w, i32_w]
      rfl
    refine pure_ (i := 1) (N := some 18) (v := ?_) (a' := ?_) #[true, true, false, false, false, false, false] rfl rfl (by kernel_rfl) (fun _ _ _ h => h) (Or.inl ⟨by rfl, ?_⟩) ?_ ?_
    rotate_left
    · intro w'
      go_simp
      with_reducible rfl
    rotate_left
    · simp only [Act.put, List.setIfInBounds_toArray, List.set_cons_zero, List.set_cons_succ, i64_w, i32_w]
      rfl
    refine take_ (i := 2) (N := some 19) (v := ?_) (a' := ?_) #[true, true, true, false, false, false, false] rfl rfl (by kernel_rfl) (fun _ _ _ h => h) (Or.inl ⟨by rfl, ?_⟩) hHeld ?_ ?_
    rotate_left
    · rintro w' ⟨s0, s1⟩
      go_simp
      with_reducible rfl
    rotate_left
    · simp only [Act.put, List.setIfInBounds_toArray, List.set_cons_zero, List.set_cons_succ, i64_w, i32_w]
      rfl
    refine take_ (i := 4) (N := some 21) (v := ?_) (a' := ?_) #[true, true, true, false, true, false, false] rfl rfl (by kernel_rfl) (fun _ _ _ h => h) (Or.inl ⟨by rfl, ?_⟩) hHeld ?_ ?_
    rotate_left
    · rintro w' ⟨s0, s1⟩
      go_simp
      with_reducible rfl
    rotate_left
    · simp only [Act.put, List.setIfInBounds_toArray, List.set_cons_zero, List.set_cons_succ, i64_w, i32_w]
      rfl
    refine one_ (i := 3) (N := some 20) #[true, true, true, true, true, false, false] rfl rfl (by kernel_rfl) (by decide) (fun K hK => ?_)
    refine goes_ Try.func28 (by kernel_rfl) rfl #[ptr p, .int .u32 x0] (by rfl) rfl rfl (by simp only [List.map_toArray, List.map_cons, List.map_nil]; rfl) ?_
    with_reducible refine (HHO.out).mono ?_
    rintro e w3 ⟨rfl, rfl⟩
    refine ⟨_, rfl, ?_⟩
    refine hK.out _ _ ⟨q10, q11⟩ (fun hHeld => ?_)
    clear hK K
    refine norm_ (a' := ?_) ?_ ?_
    rotate_left
    · show Act.put _ (some 20) _ = _
      simp only [Act.put, List.setIfInBounds_toArray, List.set_cons_zero, List.set_cons_succ, i64_w, i32_w]
      rfl
    refine last_ (i := 5) (N := some 22) #[true, true, true, true, true, true, false] rfl rfl (by kernel_rfl) (by decide) (fun K hK => ?_)
    refine goes_ Try.func29 (by kernel_rfl) rfl #[ptr q, .agg #[.int .u32 x0, .int .i64 x1]] (by rfl) rfl rfl (by simp only [List.map_toArray, List.map_cons, List.map_nil]; rfl) ?_
    with_reducible refine (HPU.out).mono ?_
    rintro e w4 ⟨rfl, hA4, hB4⟩
    refine ⟨_, rfl, ?_⟩
    refine hK.out _ _ ?_
    clear hK K
    refine norm_ (a' := ?_) ?_ ?_
    rotate_left
    · show Act.put _ (some 22) _ = _
      simp only [Act.put, List.setIfInBounds_toArray, List.set_cons_zero, List.set_cons_succ, i64_w, i32_w]
      rfl
    refine pure_ (i := 6) (N := some 23) (v := ?_) (a' := ?_) #[true, true, true, true, true, true, true] rfl rfl (by kernel_rfl) (fun _ _ _ h => h) (Or.inl ⟨by rfl, ?_⟩) ?_ ?_
    rotate_left
    · intro w'
      go_simp
      with_reducible rfl
    rotate_left
    · simp only [Act.put, List.setIfInBounds_toArray, List.set_cons_zero, List.set_cons_succ, i64_w, i32_w]
      rfl
    refine done_ (by kernel_rfl) ?_

    have HA4 := Aside0.mk (HDR.out (HR2.out _ _ hA4))
    have HB4 := Aside0.mk (HB0.out.trans (Below.trans (below_drew (below_drew (Below.refl _ _))) hB4))
    clear hA4 hB4 q10 q11
    go_wp2
    go_ret
    exact ⟨rfl, HA4.out, HB4.out⟩
  · go_enter Try.func8, Try.ntmps8
    go_wp2_with (first | (refine HN.out.mono ?_; rintro e w1 ⟨rfl, rfl⟩) | fail)
    obtain ⟨q1, -, -, -⟩ := Has.box_cell HA0.out (b := w.heap.size) (cs := #[.int .u32 x0, .int .i64 x1]) (t := 31) (by simp)
    have q10 : (w.alloc (.cells #[.int .u32 x0, .int .i64 x1] 31)).cell? ⟨w.heap.size, 0, none⟩ = some (.int .u32 x0) := q1 0
    have q11 : (w.alloc (.cells #[.int .u32 x0, .int .i64 x1] 31)).cell? ⟨w.heap.size, 1, none⟩ = some (.int .i64 x1) := q1 1
    clear q1
    refine start_ (n := 7) (S := fun w' => w'.cell? ⟨w.heap.size, 0, none⟩ = some (.int .u32 x0) ∧ w'.cell? ⟨w.heap.size, 1, none⟩ = some (.int .i64 x1)) (ds := [5]) #[false, false, false, false, false, false, false] (by kernel_rfl) rfl rfl ⟨q10, q11⟩ (fun hHeld => ?_)
    refine pure_ (i := 0) (N := some 17) (v := ?_) (a' := ?_) #[true, false, false, false, false, false, false] rfl rfl (by kernel_rfl) (fun _ _ _ h => h) (Or.inl ⟨by rfl, ?_⟩) ?_ ?_
    rotate_left
    · intro w'
      go_simp
      with_reducible rfl
    rotate_left
    · simp only [Act.put, List.setIfInBounds_toArray, List.set_cons_zero, List.set_cons_succ, i64_w, i32_w]
      rfl
    refine pure_ (i := 1) (N := some 18) (v := ?_) (a' := ?_) #[true, true, false, false, false, false, false] rfl rfl (by kernel_rfl) (fun _ _ _ h => h) (Or.inl ⟨by rfl, ?_⟩) ?_ ?_
    rotate_left
    · intro w'
      go_simp
      with_reducible rfl
    rotate_left
    · simp only [Act.put, List.setIfInBounds_toArray, List.set_cons_zero, List.set_cons_succ, i64_w, i32_w]
      rfl
    refine take_ (i := 2) (N := some 19) (v := ?_) (a' := ?_) #[true, true, true, false, false, false, false] rfl rfl (by kernel_rfl) (fun _ _ _ h => h) (Or.inl ⟨by rfl, ?_⟩) hHeld ?_ ?_
    rotate_left
    · rintro w' ⟨s0, s1⟩
      go_simp
      with_reducible rfl
    rotate_left
    · simp only [Act.put, List.setIfInBounds_toArray, List.set_cons_zero, List.set_cons_succ, i64_w, i32_w]
      rfl
    refine take_ (i := 4) (N := some 21) (v := ?_) (a' := ?_) #[true, true, true, false, true, false, false] rfl rfl (by kernel_rfl) (fun _ _ _ h => h) (Or.inl ⟨by rfl, ?_⟩) hHeld ?_ ?_
    rotate_left
    · rintro w' ⟨s0, s1⟩
      go_simp
      with_reducible rfl
    rotate_left
    · simp only [Act.put, List.setIfInBounds_toArray, List.set_cons_zero, List.set_cons_succ, i64_w, i32_w]
      rfl
    refine one_ (i := 3) (N := some 20) #[true, true, true, true, true, false, false] rfl rfl (by kernel_rfl) (by decide) (fun K hK => ?_)
    refine goes_ Try.func28 (by kernel_rfl) rfl #[ptr p, .int .u32 x0] (by rfl) rfl rfl (by simp only [List.map_toArray, List.map_cons, List.map_nil]; rfl) ?_
    with_reducible refine (HHO.out).mono ?_
    rintro e w3 ⟨rfl, rfl⟩
    refine ⟨_, rfl, ?_⟩
    refine hK.out _ _ ⟨q10, q11⟩ (fun hHeld => ?_)
    clear hK K
    refine norm_ (a' := ?_) ?_ ?_
    rotate_left
    · show Act.put _ (some 20) _ = _
      simp only [Act.put, List.setIfInBounds_toArray, List.set_cons_zero, List.set_cons_succ, i64_w, i32_w]
      rfl
    refine last_ (i := 5) (N := some 22) #[true, true, true, true, true, true, false] rfl rfl (by kernel_rfl) (by decide) (fun K hK => ?_)
    refine goes_ Try.func29 (by kernel_rfl) rfl #[ptr q, .agg #[.int .u32 x0, .int .i64 x1]] (by rfl) rfl rfl (by simp only [List.map_toArray, List.map_cons, List.map_nil]; rfl) ?_
    with_reducible refine (HPU.out).mono ?_
    rintro e w4 ⟨rfl, hA4, hB4⟩
    refine ⟨_, rfl, ?_⟩
    refine hK.out _ _ ?_
    clear hK K
    refine norm_ (a' := ?_) ?_ ?_
    rotate_left
    · show Act.put _ (some 22) _ = _
      simp only [Act.put, List.setIfInBounds_toArray, List.set_cons_zero, List.set_cons_succ, i64_w, i32_w]
      rfl
    refine pure_ (i := 6) (N := some 23) (v := ?_) (a' := ?_) #[true, true, true, true, true, true, true] rfl rfl (by kernel_rfl) (fun _ _ _ h => h) (Or.inl ⟨by rfl, ?_⟩) ?_ ?_
    rotate_left
    · intro w'
      go_simp
      with_reducible rfl
    rotate_left
    · simp only [Act.put, List.setIfInBounds_toArray, List.set_cons_zero, List.set_cons_succ, i64_w, i32_w]
      rfl
    refine done_ (by kernel_rfl) ?_

    have HA4 := Aside0.mk (HDR.out (HR2.out _ _ hA4))
    have HB4 := Aside0.mk (HB0.out.trans (Below.trans (below_drew (below_drew (Below.refl _ _))) hB4))
    clear hA4 hB4 q10 q11
    go_wp2
    go_ret
    exact ⟨rfl, HA4.out, HB4.out⟩
end Go.Proofs.Ytpnoghnhlddjeaa.Wk
