/- A store of files: a crash: walked. No law is proved here. -/
import Derived.Test.YtibnakpefjjoiaaFileR
namespace Go.Proofs.Ytibnakpefjjoiaa.Fs
open Go.RowKit Go.Proofs.YtibnakpefjjoiaaW.PrintWords Go.Proofs.YtibnakpefjjoiaaW.PrintLast Go.Proofs.YtibnakpefjjoiaaW.PrintMore Go.Proofs.Ytibnakpefjjoiaa.Q Go.Proofs.Ytibnakpefjjoiaa.Own
set_option linter.unusedVariables false
set_option linter.unusedSimpArgs false
attribute [local go_sem ↓] Go.wp_at_zero Go.wp_at_succ
attribute [local go_sem] Opn.str_leq Opn.str_gtr Opn.str_geq max2_int min2_int max_two min_two max_three min_three max_four min_four

abbrev kI : Kd Int := Kd.int .i64
theorem at_I {w : World} {A : Option Addr} {n : Nat} {l : List Int} (h : Kd.C kI w A n l) (i : Nat) (hi : i < l.length) : ∃ ad, A = some ad ∧ w.cell? (ad.add i) = some (.int .i64 (l.getD i 0)) := by
  have hn := Kd.C_len h
  obtain ⟨ad, c, e, _, hK, hc⟩ := Kd.C_get h 0 (i : Int) (by omega) (by omega)
  rw [Int.toNat_natCast] at hK hc
  have hK' : c = [.int .i64 (l.getD i 0)] := hK
  have h0 := hc 0 (.int .i64 (l.getD i 0)) (by rw [hK']; rfl)
  have h3 : w.cell? (ad.add (i * 1 + 0)) = some (.int .i64 (l.getD i 0)) := h0
  rw [Nat.mul_one, Nat.add_zero] at h3
  exact ⟨ad, e, h3⟩
theorem at_S {w : World} {A : Option Addr} {n : Nat} {l : List ByteArray} (h : Kd.C Kd.string w A n l) (i : Nat) (hi : i < l.length) : ∃ ad, A = some ad ∧ w.cell? (ad.add i) = some (.string l[i]) := by
  have hn := Kd.C_len h
  obtain ⟨ad, c, e, _, hK, hc⟩ := Kd.C_get h l[i] (i : Int) (by omega) (by omega)
  rw [Int.toNat_natCast, List.getD_eq_getElem?_getD, List.getElem?_eq_getElem hi] at hK
  rw [Int.toNat_natCast] at hc
  have hK' : c = [.string l[i]] := hK
  have h0 := hc 0 (.string l[i]) (by rw [hK']; rfl)
  have h3 : w.cell? (ad.add (i * 1 + 0)) = some (.string l[i]) := h0
  rw [Nat.mul_one, Nat.add_zero] at h3
  exact ⟨ad, e, h3⟩
abbrev rowS (v : Value) (ns : List ByteArray) : Th := rowT Kd.string 9 v ns
theorem crashN_le : ∀ (n : Nat) (L : List SF), crashN n L ≤ n + L.length
  | n, [] => Nat.le_refl _
  | n, x :: L => by
    unfold crashN
    have h1 := crashN_le n L
    have h2 := crashN_le (n + 1) L
    rw [List.length_cons]
    split <;> omega
theorem crash_put {B : Nat} {w : World} {p b m c : Nat} {left acts x2 : Int} {x0 : ByteArray} {x1 : List Int} {A : Option Addr} {M : List SF} {Ts : List Th} (h : Has B w (storeT p left acts M (some ⟨b, ⟨x0, x1, x2⟩, A, c⟩) :: Ts)) {z : Int} (hz : z = (m : Int)) (hm : m ≤ x1.length) (hs : x0.size ≤ 32) (hM : M.length < 1000000) :
    w.frozen? ⟨b, 0, none⟩ = false ∧ (w.setCell ⟨b, 0, none⟩ (.slice A m c)).frozen? ⟨b, 1, none⟩ = false ∧ (w.setCell ⟨b, 0, none⟩ (.slice A m c)).cell? ⟨b, 0, none⟩ = some (.slice A m c) ∧ (w.setCell ⟨b, 0, none⟩ (.slice A m c)).cell? ⟨b, 1, none⟩ = some (.int .i64 x2) ∧
      ∃ mb w', ((w.setCell ⟨b, 0, none⟩ (.slice A m c)).setCell ⟨b, 1, none⟩ (.int .i64 z)).drew.cell? ⟨p, 0, none⟩ = some (.map (some mb)) ∧ ((w.setCell ⟨b, 0, none⟩ (.slice A m c)).setCell ⟨b, 1, none⟩ (.int .i64 z)).drew.cell? ⟨b, 0, none⟩ = some (.slice A m c) ∧ ((w.setCell ⟨b, 0, none⟩ (.slice A m c)).setCell ⟨b, 1, none⟩ (.int .i64 z)).drew.cell? ⟨b, 1, none⟩ = some (.int .i64 z) ∧
        (Instr.mapUpdate 60 (.map (some mb)) (.string x0) (.agg #[.slice A m c, .int .i64 z])).run Try.prog ((w.setCell ⟨b, 0, none⟩ (.slice A m c)).setCell ⟨b, 1, none⟩ (.int .i64 z)).drew = .ok () w' ∧
        Has B w' (storeT p left acts (setF M ⟨x0, x1.take m, z⟩) none :: Ts) ∧ Below B w w' := by
  subst hz
  have hmt : (x1.take m).length = m := by rw [List.length_take]; omega
  obtain ⟨-, hcut⟩ := open_set h
  obtain ⟨hA4, hB4⟩ := hcut m hm
  dsimp only at hA4
  obtain ⟨r0, r1, rf, -, -⟩ := open_cells hA4
  dsimp only at r0 r1
  rw [hmt] at r0
  obtain ⟨hset, -⟩ := open_set hA4
  obtain ⟨hA5, hB5⟩ := hset (m : Int)
  dsimp only at hA5
  obtain ⟨s0, s1, -, -, -⟩ := open_cells hA5
  dsimp only at s0 s1
  rw [hmt] at s0
  obtain ⟨mb3, w7, k0, hput, hA7, hB7⟩ := put_run hA5.drew (s := x0) (by omega) hM
  dsimp only at hput hA7
  unfold fv at hput
  dsimp only at hput
  rw [hmt] at hput
  exact ⟨(open_cells h).2.2.1 0, rf 1, r0, r1, mb3, w7, k0, s0, s1, hput, store_shut hA7, ((hB4.trans hB5).trans (below_drew (Below.refl _ _))).trans hB7⟩
theorem set_alloc (wr : World) (a b a' b' : Value) (t : TypeId) : ((wr.alloc (.cells #[a, b] t)).setCell ⟨wr.heap.size, 0, none⟩ a').setCell ⟨wr.heap.size, 1, none⟩ b' = wr.alloc (.cells #[a', b'] t) := by
  simp [go_sem]
theorem drew_alloc (w : World) (o : Obj) : (w.alloc o).drew = w.drew.alloc o := rfl
/-- The same at a file that was opened just now. -/
theorem crash_put2 {B : Nat} {wr : World} {p m c : Nat} {left acts x2 : Int} {x0 : ByteArray} {x1 : List Int} {A : Option Addr} {M : List SF} {Ts : List Th} (h : Has B (wr.alloc (.cells #[.slice A x1.length c, .int .i64 x2] 67)) (storeT p left acts M (some ⟨wr.heap.size, ⟨x0, x1, x2⟩, A, c⟩) :: Ts)) {z : Int} (hz : z = (m : Int)) (hm : m ≤ x1.length) (hs : x0.size ≤ 32) (hM : M.length < 1000000) :
    ∃ mb w', (wr.alloc (.cells #[.slice A m c, .int .i64 z] 67)).drew.cell? ⟨p, 0, none⟩ = some (.map (some mb)) ∧ (wr.alloc (.cells #[.slice A m c, .int .i64 z] 67)).drew.cell? ⟨wr.heap.size, 0, none⟩ = some (.slice A m c) ∧ (wr.alloc (.cells #[.slice A m c, .int .i64 z] 67)).drew.cell? ⟨wr.heap.size, 1, none⟩ = some (.int .i64 z) ∧
        (Instr.mapUpdate 60 (.map (some mb)) (.string x0) (.agg #[.slice A m c, .int .i64 z])).run Try.prog (wr.alloc (.cells #[.slice A m c, .int .i64 z] 67)).drew = .ok () w' ∧
        Has B w' (storeT p left acts (setF M ⟨x0, x1.take m, z⟩) none :: Ts) ∧ Below B (wr.alloc (.cells #[.slice A x1.length c, .int .i64 x2] 67)) w' := by
  obtain ⟨-, -, -, -, mb, w', h1, h2, h3, h4, h5, h6⟩ := crash_put h hz hm hs hM
  rw [set_alloc] at h1 h2 h3 h4
  exact ⟨mb, w', h1, h2, h3, h4, h5, h6⟩
set_option maxHeartbeats 8000000 in
set_option maxRecDepth 100000 in
theorem crash_calls {B : Nat} {w : World} {p : Nat} {st : Stt} {Ts : List Th} (h : Has B w (stoT p st :: Ts)) (hg : OkS st) (hr : Rise st.L) (hf : SafeS st) {Ak : Option Addr} {ck : Nat} {keep : List Int} (hK : ∀ w', Has B w' Ts → Below B w w' → Kd.C kI w' Ak keep.length keep) :
    Calls Try.prog 20 #[ptr p, .slice Ak keep.length ck] w fun e w' => e = .returned (.tuple #[]) ∧ Has B w' (stoT p (crashS st keep) :: Ts) ∧ Below B w w' := by
  have HN := Aside0.mk (none_calls h)
  have HNM := Aside0.mk (names_calls h hg)
  have HH := Aside0.mk h
  obtain ⟨left, acts, L⟩ := st
  have HR := Aside0.mk (show Rise L from hr)
  have HF := Aside0.mk (show ∀ x ∈ L, SafeF x from hf)
  have HN9 : Aside0 (L.length < 900000) := ⟨hg.n⟩
  have HFEW : Aside0 (∀ x ∈ L, x.f1.length ≤ 100000000) := ⟨hg.few⟩
  have HKK := Aside0.mk hK
  clear h hg hr hf hK
  go_enter Try.func20, Try.ntmps20
  go_wp2_with fail
  refine HN.out.mono ?_
  rintro e w1 ⟨rfl, rfl⟩
  go_wp2_with fail
  refine HNM.out.mono ?_
  rintro e w2 ⟨v, rfl, hrow, hb⟩
  obtain ⟨An, cn, rfl, -, -⟩ := Kd.R_reads hrow
  have HA2 : Aside0 (Has B w2 (storeT p left acts (midF keep L 0) none :: rowS (.slice An (namesL ⟨left, acts, L⟩).length cn) (namesL ⟨left, acts, L⟩) :: Ts)) := ⟨by
    have := (HH.out.row hb hrow).swap
    show Has B w2 (storeT p left acts (midF keep L 0) none :: _)
    exact this⟩
  have HB2 := Aside0.mk (hb.mono HH.out.size)
  have hnl : (namesL ⟨left, acts, L⟩).length = L.length := by unfold namesL; rw [List.length_map]
  clear hrow hb HNM HN HH
  generalize hns : namesL ⟨left, acts, L⟩ = ns at HA2 hnl
  have HNS := Aside0.mk hns
  rw [hnl] at HA2 ⊢
  clear hns
  go_wp2_with fail
  go_loopw [14, 4] (fun i m wr => ∃ k : Nat, i = .int .i64 k ∧ m = .int .i64 (crashN 0 (L.take k) : Nat) ∧ k ≤ L.length ∧ Aside0 (Has B wr (storeT p left acts (midF keep L k) none :: rowS (.slice An L.length cn) ns :: Ts)) ∧ Aside0 (Below B w wr)) (fun i _ _ => L.length - (intOf i).toNat)
  case atStart => exact ⟨0, rfl, rfl, by omega, HA2, HB2⟩
  case round =>
    clear HA2 HB2
    obtain ⟨k, rfl, rfl, hk, HA, HB⟩ := hrel
    by_cases hlt : k < L.length
    · have d1 : decide ((k : Int) < (L.length : Int)) = true := decide_eq_true (by omega)
      have d2 : decide (0 ≤ (k : Int)) = true := decide_eq_true (by omega)
      obtain ⟨_, _, ev, -, hCn⟩ := HA.out.reads (d := Kd.string) (e := 9) (v := .slice An L.length cn) (xs := ns) (by simp)
      obtain ⟨rfl, -, rfl⟩ : An = _ ∧ _ ∧ cn = _ := by injection ev with e1 e2 e3; exact ⟨e1, e2, e3⟩
      obtain ⟨adn, rfl, hcell⟩ := at_S hCn k (by omega)
      have hnk : ns[k]'(by omega) = (L[k]).f0 := by
        have := HNS.out
        subst this
        simp [namesL]
      rw [hnk] at hcell
      have hxs : SafeF L[k] := HF.out _ (List.getElem_mem hlt)
      have hxl : (L[k]).f1.length ≤ 100000000 := HFEW.out _ (List.getElem_mem hlt)
      have hfind : findF (midF keep L k) (L[k]).f0.data.toList = some L[k] := by
        have hm := mid_rise keep HR.out k
        rw [mid_at keep L hlt] at hm ⊢
        exact find_place hm
      have HSM := Aside0.mk (fun e => mid_same keep L hlt e)
      have HNX := Aside0.mk (fun e => mid_next keep HR.out hlt e)
      have hml : (midF keep L k).length < 1000000 := by
        have := congrArg List.length (mid_names keep L k)
        rw [List.length_map, List.length_map] at this
        have := HN9.out
        omega
      have hnk2 := crashN_le 0 (L.take k)
      rw [List.length_take] at hnk2
      have hnk3 : crashN 0 (L.take k) < 1000000 := by have := HN9.out; omega
      have HML := Aside0.mk hml
      generalize L[k] = x at hcell hfind hxs hxl HSM HNX
      obtain ⟨x0, x1, x2⟩ := x
      dsimp only at hcell hfind hxl HSM HNX
      have hx1 : 0 ≤ x2 := hxs.1
      have hx2 : x2 ≤ (x1.length : Int) := hxs.2.1
      have hx3 : x0.size ≤ 32 := hxs.2.2
      generalize midF keep L k = M at hfind HA HSM HNX HML
      generalize crashN 0 (L.take k) = cnt at HSM HNX hnk3
      obtain ⟨mb, A, c, c0, -, hrun, hA, hB⟩ := look_hit HA.out (s := x0) (by omega) hfind false
      have HA3 := Aside0.mk hA
      have HB3 := Aside0.mk (HB.out.trans hB)
      obtain ⟨b0, b1, -, hle, -⟩ := open_cells hA
      dsimp only at b0 b1 hle
      have EK : Aside0 (wrap64 ((k : Int) + 1) = ((k + 1 : Nat) : Int)) := ⟨by have := HN9.out; exact wrap_nat (by omega)⟩
      have EC : Aside0 (wrap64 ((cnt : Int) + 1) = ((cnt + 1 : Nat) : Int)) := ⟨wrap_nat (by omega)⟩
      have HXS := Aside0.mk hxs
      have HC0 := Aside0.mk b0
      have HC1 := Aside0.mk b1
      have HX3 := Aside0.mk hx3
      clear hA hB hml hnk2 hCn hfind hnk ev b0 b1 hxs hx3
      go_wp2_with fail
      · have hq : (x2 == (x1.length : Int)) = true := by assumption
        obtain ⟨hm1, hm2⟩ := HSM.out (beq_iff_eq.1 hq)
        rw [EK.out]
        refine ⟨⟨k + 1, rfl, by rw [hm2], by omega, ⟨by rw [hm1]; exact store_shut HA3.out⟩, HB3⟩, ?_⟩
        show L.length - (((k + 1 : Nat) : Int)).toNat < L.length - ((k : Int)).toNat
        omega
      · have hq : (x2 == (x1.length : Int)) = false := by assumption
        have hkl : cnt < keep.length := by assumption
        have hmi : moreI keep cnt ⟨x0, x1, x2⟩ = minI (maxI (keep.getD cnt 0) 0) ((x1.length : Int) - x2) := if_pos hkl
        obtain ⟨hm1, hm2⟩ := HNX.out (beq_eq_false_iff_ne.1 hq)
        have hmo : 0 ≤ moreI keep cnt ⟨x0, x1, x2⟩ ∧ x2 + moreI keep cnt ⟨x0, x1, x2⟩ ≤ (x1.length : Int) := more_le keep cnt HXS.out
        obtain ⟨z, hz⟩ : ∃ z : Int, x2 + moreI keep cnt ⟨x0, x1, x2⟩ = z := ⟨_, rfl⟩
        have hcr : crash1 keep cnt ⟨x0, x1, x2⟩ = ⟨x0, x1.take z.toNat, z⟩ := by unfold crash1; rw [hz]
        rw [hcr] at hm1
        have hwm : wrap64 (x2 + moreI keep cnt ⟨x0, x1, x2⟩) = z := by rw [hz]; exact wrap_id (by omega) (by omega)
        have hz0 : 0 ≤ z := by omega
        have hz1 : z ≤ (x1.length : Int) := by omega
        have HCK := HKK.out _ HA3.out.tail.tail HB3.out
        obtain ⟨adk, rfl, hkc⟩ := at_I HCK cnt hkl
        have b0 := HC0.out
        have b1 := HC1.out
        have d4 : decide ((cnt : Int) < (keep.length : Int)) = true := decide_eq_true (by omega)
        have d5 : decide (0 ≤ (cnt : Int)) = true := decide_eq_true (by omega)
        clear HCK hcr hmo hz
        generalize keep.getD cnt 0 = y at hkc hmi
        have hwl : wrap64 ((x1.length : Int) - x2) = (x1.length : Int) - x2 := wrap_id (by omega) (by omega)
        generalize hw3 : wr.alloc (.cells #[.slice A x1.length c, .int .i64 x2] 67) = w3 at hkc b0 b1 ⊢
        generalize hbb : wr.heap.size = b at b0 b1 ⊢
        have hkc2 : w3.drew.cell? (adk.add cnt) = some (.int .i64 y) := hkc
        refine start_ (n := 13) (S := fun w' => w'.cell? (adk.add cnt) = some (.int .i64 y) ∧ w'.cell? ⟨b, 0, none⟩ = some (.slice A x1.length c) ∧ w'.cell? ⟨b, 1, none⟩ = some (.int .i64 x2)) (ds := []) #[false, false, false, false, false, false, false, false, false, false, false, false, false] (by kernel_rfl) rfl rfl ⟨hkc2, b0, b1⟩ (fun hHeld => ?_)
        refine pure_ (i := 0) (N := some 34) (v := ?_) (a' := ?_) #[true, false, false, false, false, false, false, false, false, false, false, false, false] rfl rfl (by kernel_rfl) (fun _ _ _ h => h) (Or.inl ⟨by rfl, ?_⟩) ?_ ?_
        rotate_left
        · intro w'
          go_simp
          with_reducible rfl
        rotate_left
        · simp only [Act.put, List.setIfInBounds_toArray, List.set_cons_zero, List.set_cons_succ, i64_w, i32_w]
          rfl
        refine pure_ (i := 1) (N := some 35) (v := ?_) (a' := ?_) #[true, true, false, false, false, false, false, false, false, false, false, false, false] rfl rfl (by kernel_rfl) (fun _ _ _ h => h) (Or.inl ⟨by rfl, ?_⟩) ?_ ?_
        rotate_left
        · intro w'
          go_simp
          with_reducible rfl
        rotate_left
        · simp only [Act.put, List.setIfInBounds_toArray, List.set_cons_zero, List.set_cons_succ, i64_w, i32_w]
          rfl
        refine pure_ (i := 2) (N := some 36) (v := ?_) (a' := ?_) #[true, true, true, false, false, false, false, false, false, false, false, false, false] rfl rfl (by kernel_rfl) (fun _ _ _ h => h) (Or.inl ⟨by rfl, ?_⟩) ?_ ?_
        rotate_left
        · intro w'
          go_simp
          with_reducible rfl
        rotate_left
        · simp only [Act.put, List.setIfInBounds_toArray, List.set_cons_zero, List.set_cons_succ, i64_w, i32_w]
          rfl
        refine pure_ (i := 5) (N := some 39) (v := ?_) (a' := ?_) #[true, true, true, false, false, true, false, false, false, false, false, false, false] rfl rfl (by kernel_rfl) (fun _ _ _ h => h) (Or.inl ⟨by rfl, ?_⟩) ?_ ?_
        rotate_left
        · intro w'
          go_simp
          with_reducible rfl
        rotate_left
        · simp only [Act.put, List.setIfInBounds_toArray, List.set_cons_zero, List.set_cons_succ, i64_w, i32_w]
          rfl
        refine pure_ (i := 8) (N := some 42) (v := ?_) (a' := ?_) #[true, true, true, false, false, true, false, false, true, false, false, false, false] rfl rfl (by kernel_rfl) (fun _ _ _ h => h) (Or.inl ⟨by rfl, ?_⟩) ?_ ?_
        rotate_left
        · intro w'
          go_simp
          with_reducible rfl
        rotate_left
        · simp only [Act.put, List.setIfInBounds_toArray, List.set_cons_zero, List.set_cons_succ, i64_w, i32_w]
          rfl
        refine take_ (i := 3) (N := some 37) (v := ?_) (a' := ?_) #[true, true, true, true, false, true, false, false, true, false, false, false, false] rfl rfl (by kernel_rfl) (fun _ _ _ h => h) (Or.inl ⟨by rfl, ?_⟩) hHeld ?_ ?_
        rotate_left
        · rintro w' ⟨s0, s1, s2⟩
          go_simp
          with_reducible rfl
        rotate_left
        · simp only [Act.put, List.setIfInBounds_toArray, List.set_cons_zero, List.set_cons_succ, i64_w, i32_w]
          rfl
        refine pure_ (i := 4) (N := some 38) (v := ?_) (a' := ?_) #[true, true, true, true, true, true, false, false, true, false, false, false, false] rfl rfl (by kernel_rfl) (fun _ _ _ h => h) (Or.inl ⟨by rfl, ?_⟩) ?_ ?_
        rotate_left
        · intro w'
          go_simp
          with_reducible rfl
        rotate_left
        · simp only [Act.put, List.setIfInBounds_toArray, List.set_cons_zero, List.set_cons_succ, i64_w, i32_w]
          rfl
        refine take_ (i := 6) (N := some 40) (v := ?_) (a' := ?_) #[true, true, true, true, true, true, true, false, true, false, false, false, false] rfl rfl (by kernel_rfl) (fun _ _ _ h => h) (Or.inl ⟨by rfl, ?_⟩) hHeld ?_ ?_
        rotate_left
        · rintro w' ⟨s0, s1, s2⟩
          go_simp
          with_reducible rfl
        rotate_left
        · simp only [Act.put, List.setIfInBounds_toArray, List.set_cons_zero, List.set_cons_succ, i64_w, i32_w]
          rfl
        refine pure_ (i := 7) (N := some 41) (v := ?_) (a' := ?_) #[true, true, true, true, true, true, true, true, true, false, false, false, false] rfl rfl (by kernel_rfl) (fun _ _ _ h => h) (Or.inl ⟨by rfl, ?_⟩) ?_ ?_
        rotate_left
        · intro w'
          go_simp
          with_reducible rfl
        rotate_left
        · simp only [Act.put, List.setIfInBounds_toArray, List.set_cons_zero, List.set_cons_succ, i64_w, i32_w]
          rfl
        refine take_ (i := 9) (N := some 43) (v := ?_) (a' := ?_) #[true, true, true, true, true, true, true, true, true, true, false, false, false] rfl rfl (by kernel_rfl) (fun _ _ _ h => h) (Or.inl ⟨by rfl, ?_⟩) hHeld ?_ ?_
        rotate_left
        · rintro w' ⟨s0, s1, s2⟩
          go_simp
          with_reducible rfl
        rotate_left
        · simp only [Act.put, List.setIfInBounds_toArray, List.set_cons_zero, List.set_cons_succ, i64_w, i32_w]
          rfl
        refine pure_ (i := 10) (N := some 44) (v := ?_) (a' := ?_) #[true, true, true, true, true, true, true, true, true, true, true, false, false] rfl rfl (by kernel_rfl) (fun _ _ _ h => h) (Or.inl ⟨by rfl, ?_⟩) ?_ ?_
        rotate_left
        · intro w'
          go_simp
          with_reducible rfl
        rotate_left
        · simp only [Act.put, List.setIfInBounds_toArray, List.set_cons_zero, List.set_cons_succ, i64_w, i32_w]
          rfl
        refine pure_ (i := 11) (N := some 45) (v := ?_) (a' := ?_) #[true, true, true, true, true, true, true, true, true, true, true, true, false] rfl rfl (by kernel_rfl) (fun _ _ _ h => h) (Or.inl ⟨by rfl, ?_⟩) ?_ ?_
        rotate_left
        · intro w'
          go_simp
          with_reducible rfl
        rotate_left
        · simp only [Act.put, List.setIfInBounds_toArray, List.set_cons_zero, List.set_cons_succ, i64_w, i32_w]
          rfl
        refine pure_ (i := 12) (N := some 8) (v := ?_) (a' := ?_) #[true, true, true, true, true, true, true, true, true, true, true, true, true] rfl rfl (by kernel_rfl) (fun _ _ _ h => h) (Or.inl ⟨by rfl, ?_⟩) ?_ ?_
        rotate_left
        · intro w'
          go_simp
          with_reducible rfl
        rotate_left
        · simp only [Act.put, List.setIfInBounds_toArray, List.set_cons_zero, List.set_cons_succ, i64_w, i32_w]
          rfl
        refine done_ (by kernel_rfl) ?_

        have hmv : (if (x1.length : Int) - x2 < if y < 0 then 0 else y then (x1.length : Int) - x2 else if y < 0 then 0 else y) = moreI keep cnt ⟨x0, x1, x2⟩ := by rw [hmi]; rfl
        rw [hmv]
        generalize (if y < 0 then (0 : Int) else y) = my
        generalize moreI keep cnt ⟨x0, x1, x2⟩ = mr at hwm
        have HA4 : Aside0 (Has B (wr.drew.alloc (.cells #[.slice A x1.length c, .int .i64 x2] 67)) (storeT p left acts M (some ⟨wr.drew.heap.size, ⟨x0, x1, x2⟩, A, c⟩) :: rowS (.slice (some adn) L.length cn) ns :: Ts)) := ⟨HA3.out.drew⟩
        have HB4 : Aside0 (Below B w (wr.drew.alloc (.cells #[.slice A x1.length c, .int .i64 x2] 67))) := ⟨HB3.out.trans (below_drew (Below.refl _ _))⟩
        have hw4 : w3.drew = wr.drew.alloc (.cells #[.slice A x1.length c, .int .i64 x2] 67) := by rw [← hw3]; rfl
        have hb4 : b = wr.drew.heap.size := by rw [← hbb]; rfl
        rw [hw4, hb4]
        clear hw4 hb4 hmv hmi hkc hkc2 hwl b0 b1 hw3 hbb d4 d5 HC0 HC1 HA3 HB3 c0 hrun hcell HA HB HKK
        generalize wr.drew = wq at HA4 HB4 ⊢
        go_wp2_with fail
        have hmx : max z 0 = z := by omega
        rw [hmx]
        obtain ⟨mb3, w7, k0, s0, s1, hput, hA7, hB7⟩ := crash_put2 HA4.out (z := z) (m := z.toNat) (by omega) (by omega) HX3.out HML.out
        rw [← hm1] at hA7
        have HA7 := Aside0.mk hA7
        have HB7 := Aside0.mk (HB4.out.trans hB7)
        generalize z.toNat = m at k0 s0 s1 hput ⊢
        clear hA7 hB7 HA4 HB4 HML hm1 hkl hq HSM HNX hmx hwm hz0 hz1
        generalize wq.heap.size = b at k0 s0 s1 hput ⊢
        generalize (wq.alloc (.cells #[.slice A m c, .int .i64 z] 67)) = w5 at k0 s0 s1 hput ⊢
        refine start_ (n := 7) (S := fun w' => w'.cell? ⟨p, 0, none⟩ = some (.map (some mb3)) ∧ w'.cell? ⟨b, 0, none⟩ = some (.slice A m c) ∧ w'.cell? ⟨b, 1, none⟩ = some (.int .i64 z)) (ds := [6]) #[false, false, false, false, false, false, false] (by kernel_rfl) rfl rfl ⟨k0, s0, s1⟩ (fun hHeld => ?_)
        refine pure_ (i := 0) (N := some 58) (v := ?_) (a' := ?_) #[true, false, false, false, false, false, false] rfl rfl (by kernel_rfl) (fun _ _ _ h => h) (Or.inl ⟨by rfl, ?_⟩) ?_ ?_
        rotate_left
        · intro w'
          go_simp
          with_reducible rfl
        rotate_left
        · simp only [Act.put, List.setIfInBounds_toArray, List.set_cons_zero, List.set_cons_succ, i64_w, i32_w]
          rfl
        refine pure_ (i := 1) (N := some 59) (v := ?_) (a' := ?_) #[true, true, false, false, false, false, false] rfl rfl (by kernel_rfl) (fun _ _ _ h => h) (Or.inl ⟨by rfl, ?_⟩) ?_ ?_
        rotate_left
        · intro w'
          go_simp
          with_reducible rfl
        rotate_left
        · simp only [Act.put, List.setIfInBounds_toArray, List.set_cons_zero, List.set_cons_succ, i64_w, i32_w]
          rfl
        refine pure_ (i := 2) (N := some 60) (v := ?_) (a' := ?_) #[true, true, true, false, false, false, false] rfl rfl (by kernel_rfl) (fun _ _ _ h => h) (Or.inl ⟨by rfl, ?_⟩) ?_ ?_
        rotate_left
        · intro w'
          go_simp
          with_reducible rfl
        rotate_left
        · simp only [Act.put, List.setIfInBounds_toArray, List.set_cons_zero, List.set_cons_succ, i64_w, i32_w]
          rfl
        refine pure_ (i := 4) (N := some 62) (v := ?_) (a' := ?_) #[true, true, true, false, true, false, false] rfl rfl (by kernel_rfl) (fun _ _ _ h => h) (Or.inl ⟨by rfl, ?_⟩) ?_ ?_
        rotate_left
        · intro w'
          go_simp
          with_reducible rfl
        rotate_left
        · simp only [Act.put, List.setIfInBounds_toArray, List.set_cons_zero, List.set_cons_succ, i64_w, i32_w]
          rfl
        refine take_ (i := 3) (N := some 61) (v := ?_) (a' := ?_) #[true, true, true, true, true, false, false] rfl rfl (by kernel_rfl) (fun _ _ _ h => h) (Or.inl ⟨by rfl, ?_⟩) hHeld ?_ ?_
        rotate_left
        · rintro w' ⟨s0, s1, s2⟩
          go_simp
          with_reducible rfl
        rotate_left
        · simp only [Act.put, List.setIfInBounds_toArray, List.set_cons_zero, List.set_cons_succ, i64_w, i32_w]
          rfl
        refine take_ (i := 5) (N := some 63) (v := ?_) (a' := ?_) #[true, true, true, true, true, true, false] rfl rfl (by kernel_rfl) (fun _ _ _ h => h) (Or.inl ⟨by rfl, ?_⟩) hHeld ?_ ?_
        rotate_left
        · rintro w' ⟨s0, s1, s2⟩
          go_simp
          with_reducible rfl
        rotate_left
        · simp only [Act.put, List.setIfInBounds_toArray, List.set_cons_zero, List.set_cons_succ, i64_w, i32_w]
          rfl
        refine last_ (i := 6) (N := none) #[true, true, true, true, true, true, true] rfl rfl (by kernel_rfl) (by decide) (fun K hK => ?_)
        refine skip_ (w1 := ?_) (by rfl) rfl ?_ ?_
        rotate_left
        · go_simp
          rfl
        refine hK.out _ _ ?_
        clear hK K
        refine done_ (by kernel_rfl) ?_

        clear k0 s0 s1 hput
        go_wp2_with fail
        rw [EK.out]
        refine ⟨⟨k + 1, rfl, by rw [hm2]; rfl, by omega, HA7, HB7⟩, ?_⟩
        show L.length - (((k + 1 : Nat) : Int)).toNat < L.length - ((k : Int)).toNat
        omega
      · have hq : (x2 == (x1.length : Int)) = false := by assumption
        have hkl : ¬ cnt < keep.length := by assumption
        have hmi : moreI keep cnt ⟨x0, x1, x2⟩ = 0 := if_neg hkl
        obtain ⟨hm1, hm2⟩ := HNX.out (beq_eq_false_iff_ne.1 hq)
        have hcr : crash1 keep cnt ⟨x0, x1, x2⟩ = ⟨x0, x1.take x2.toNat, x2⟩ := by unfold crash1; rw [hmi, Int.add_zero]
        rw [hcr] at hm1
        have hmx : max x2 0 = x2 := by omega
        rw [hmx]
        obtain ⟨mb3, w7, k0, s0, s1, hput, hA7, hB7⟩ := crash_put2 HA3.out (z := x2) (m := x2.toNat) (by omega) (by omega) HX3.out HML.out
        rw [← hm1] at hA7
        have HA7 := Aside0.mk hA7
        have HB7 := Aside0.mk (HB3.out.trans hB7)
        generalize x2.toNat = m at k0 s0 s1 hput ⊢
        clear hA7 hB7 HA3 HB3 HA HB HKK HML hcr hm1 hmi hkl hq HSM HNX hmx c0 hrun hcell
        generalize wr.heap.size = b at k0 s0 s1 hput ⊢
        generalize (wr.alloc (.cells #[.slice A m c, .int .i64 x2] 67)) = w5 at k0 s0 s1 hput ⊢
        refine start_ (n := 7) (S := fun w' => w'.cell? ⟨p, 0, none⟩ = some (.map (some mb3)) ∧ w'.cell? ⟨b, 0, none⟩ = some (.slice A m c) ∧ w'.cell? ⟨b, 1, none⟩ = some (.int .i64 x2)) (ds := [6]) #[false, false, false, false, false, false, false] (by kernel_rfl) rfl rfl ⟨k0, s0, s1⟩ (fun hHeld => ?_)
        refine pure_ (i := 0) (N := some 58) (v := ?_) (a' := ?_) #[true, false, false, false, false, false, false] rfl rfl (by kernel_rfl) (fun _ _ _ h => h) (Or.inl ⟨by rfl, ?_⟩) ?_ ?_
        rotate_left
        · intro w'
          go_simp
          with_reducible rfl
        rotate_left
        · simp only [Act.put, List.setIfInBounds_toArray, List.set_cons_zero, List.set_cons_succ, i64_w, i32_w]
          rfl
        refine pure_ (i := 1) (N := some 59) (v := ?_) (a' := ?_) #[true, true, false, false, false, false, false] rfl rfl (by kernel_rfl) (fun _ _ _ h => h) (Or.inl ⟨by rfl, ?_⟩) ?_ ?_
        rotate_left
        · intro w'
          go_simp
          with_reducible rfl
        rotate_left
        · simp only [Act.put, List.setIfInBounds_toArray, List.set_cons_zero, List.set_cons_succ, i64_w, i32_w]
          rfl
        refine pure_ (i := 2) (N := some 60) (v := ?_) (a' := ?_) #[true, true, true, false, false, false, false] rfl rfl (by kernel_rfl) (fun _ _ _ h => h) (Or.inl ⟨by rfl, ?_⟩) ?_ ?_
        rotate_left
        · intro w'
          go_simp
          with_reducible rfl
        rotate_left
        · simp only [Act.put, List.setIfInBounds_toArray, List.set_cons_zero, List.set_cons_succ, i64_w, i32_w]
          rfl
        refine pure_ (i := 4) (N := some 62) (v := ?_) (a' := ?_) #[true, true, true, false, true, false, false] rfl rfl (by kernel_rfl) (fun _ _ _ h => h) (Or.inl ⟨by rfl, ?_⟩) ?_ ?_
        rotate_left
        · intro w'
          go_simp
          with_reducible rfl
        rotate_left
        · simp only [Act.put, List.setIfInBounds_toArray, List.set_cons_zero, List.set_cons_succ, i64_w, i32_w]
          rfl
        refine take_ (i := 3) (N := some 61) (v := ?_) (a' := ?_) #[true, true, true, true, true, false, false] rfl rfl (by kernel_rfl) (fun _ _ _ h => h) (Or.inl ⟨by rfl, ?_⟩) hHeld ?_ ?_
        rotate_left
        · rintro w' ⟨s0, s1, s2⟩
          go_simp
          with_reducible rfl
        rotate_left
        · simp only [Act.put, List.setIfInBounds_toArray, List.set_cons_zero, List.set_cons_succ, i64_w, i32_w]
          rfl
        refine take_ (i := 5) (N := some 63) (v := ?_) (a' := ?_) #[true, true, true, true, true, true, false] rfl rfl (by kernel_rfl) (fun _ _ _ h => h) (Or.inl ⟨by rfl, ?_⟩) hHeld ?_ ?_
        rotate_left
        · rintro w' ⟨s0, s1, s2⟩
          go_simp
          with_reducible rfl
        rotate_left
        · simp only [Act.put, List.setIfInBounds_toArray, List.set_cons_zero, List.set_cons_succ, i64_w, i32_w]
          rfl
        refine last_ (i := 6) (N := none) #[true, true, true, true, true, true, true] rfl rfl (by kernel_rfl) (by decide) (fun K hK => ?_)
        refine skip_ (w1 := ?_) (by rfl) rfl ?_ ?_
        rotate_left
        · go_simp
          rfl
        refine hK.out _ _ ?_
        clear hK K
        refine done_ (by kernel_rfl) ?_

        clear k0 s0 s1 hput
        go_wp2_with fail
        rw [EK.out]
        refine ⟨⟨k + 1, rfl, by rw [hm2]; rfl, by omega, HA7, HB7⟩, ?_⟩
        show L.length - (((k + 1 : Nat) : Int)).toNat < L.length - ((k : Int)).toNat
        omega
    · have d1 : decide ((k : Int) < (L.length : Int)) = false := decide_eq_false (by omega)
      obtain rfl : k = L.length := by omega
      obtain ⟨mb, c0, c1, c2, cf, -, -⟩ := store_cells HA.out
      obtain ⟨⟨hA, hB⟩, -⟩ := store_set HA.out (-1)
      have f1 := cf 1
      rw [mid_end] at hA
      have HA9 := Aside0.mk hA.swap.tail
      have HB9 := Aside0.mk (HB.out.trans hB)
      clear hA hB HA HB cf
      go_wp2_with fail
      go_end0
      exact ⟨rfl, HA9.out, HB9.out⟩
end Go.Proofs.Ytibnakpefjjoiaa.Fs
