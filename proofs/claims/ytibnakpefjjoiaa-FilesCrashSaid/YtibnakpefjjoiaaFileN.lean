/- A store of files: Append: walked. No law is proved here. -/
import Derived.Test.YtibnakpefjjoiaaFileM
namespace Go.Proofs.Ytibnakpefjjoiaa.Fs
open Go.RowKit Go.Proofs.YtibnakpefjjoiaaW.PrintWords Go.Proofs.YtibnakpefjjoiaaW.PrintLast Go.Proofs.YtibnakpefjjoiaaW.PrintMore Go.Proofs.Ytibnakpefjjoiaa.Q Go.Proofs.Ytibnakpefjjoiaa.Own
set_option linter.unusedVariables false
set_option linter.unusedSimpArgs false
attribute [local go_sem ↓] Go.wp_at_zero Go.wp_at_succ

def appendX (st : Stt) (s : ByteArray) : SF := (findF st.L s.data.toList).getD zF
def longF (st : Stt) (s : ByteArray) (n : Nat) : Bool := decide (1048576 - ((appendX st s).f1.length : Int) < (n : Int))
def fullF (st : Stt) (s : ByteArray) : Bool := !(findF st.L s.data.toList).isSome && decide (64 ≤ st.L.length)
def appendS (st : Stt) (s : ByteArray) (ys : List Int) : Int × Stt :=
  if st.left = 0 then (30, st) else if mayF s = false then (2, st) else if longF st s ys.length = true then (3, st) else if fullF st s = true then (4, st)
  else (0, ⟨leftF st.left, st.acts + 1, setF st.L ⟨s, (appendX st s).f1 ++ ys, (appendX st s).f2⟩⟩)
set_option maxHeartbeats 8000000 in
set_option maxRecDepth 100000 in
theorem append_calls {B : Nat} {w : World} {p : Nat} {st : Stt} {Ts : List Th} (h : Has B w (stoT p st :: Ts)) (hg : OkS st) {s : ByteArray} (hs : s.size ≤ 9223372036854775807) {A2 : Option Addr} {c2 : Nat} {ys : List Int} (hC : Kd.C kB w A2 ys.length ys) (hy : ys.length ≤ 10000000) :
    Calls Try.prog 10 #[ptr p, .string s, .slice A2 ys.length c2] w (MethPost B w p (appendS st s ys) Ts) := by
  have HR := Aside0.mk (refuse_calls h)
  have hu := Try.underlying67
  by_cases hl : st.left = 0
  · have e : appendS st s ys = (30, st) := by unfold appendS; rw [if_pos hl]
    rw [e]
    rw [show refuseE st.left = 30 from if_pos hl] at HR
    have HH := Aside0.mk h
    clear h hC hg hs e hl hy
    go_enter Try.func10, Try.ntmps10
    go_wp2_with fail
    refine HR.out.mono ?_
    rintro e w1 ⟨rfl, rfl⟩
    go_wp2_with fail
    go_ret
    exact ⟨rfl, HH.out, Below.refl _ _⟩
  rw [show refuseE st.left = 0 from if_neg hl] at HR
  have hxl : (appendX st s).f1.length ≤ 100000000 := by
    unfold appendX
    cases hx : findF st.L s.data.toList with
    | none => exact Nat.zero_le _
    | some x => exact hg.few x (find_mem hx).1
  obtain ⟨mb, A, c, c0, hrun, hA, hB⟩ := look_any h hs
  have HO : Aside0 (appendS st s ys = if mayF s = false then (2, st) else if longF st s ys.length = true then (3, st) else if fullF st s = true then (4, st) else (0, ⟨leftF st.left, st.acts + 1, setF st.L ⟨s, (appendX st s).f1 ++ ys, (appendX st s).f2⟩⟩)) := ⟨by unfold appendS; rw [if_neg hl]⟩
  change Has B (w.alloc (.cells #[.slice A (appendX st s).f1.length c, .int .i64 (appendX st s).f2] 67)) (storeT p st.left st.acts st.L (some ⟨w.heap.size, appendX st s, A, c⟩) :: Ts) at hA
  change Below B w (w.alloc (.cells #[.slice A (appendX st s).f1.length c, .int .i64 (appendX st s).f2] 67)) at hB
  change (Instr.lookup 60 (.map (some mb)) (.string s) true).run Try.prog w = .ok (.tuple #[fv A (appendX st s) c, .bool (findF st.L s.data.toList).isSome]) w at hrun
  have HFU : Aside0 (fullF st s = (!(findF st.L s.data.toList).isSome && decide (64 ≤ st.L.length))) := ⟨rfl⟩
  have HLO : Aside0 (longF st s ys.length = decide (1048576 - ((appendX st s).f1.length : Int) < (ys.length : Int))) := ⟨rfl⟩
  generalize appendX st s = x at hxl hrun hA hB HO HLO
  generalize (findF st.L s.data.toList).isSome = fd at hrun HFU
  have HA := Aside0.mk hA
  have HB := Aside0.mk hB
  have HS := Aside0.mk hs
  have HG := Aside0.mk hg
  have HCY := Aside0.mk (Kd.C_below hC ((Below.refl _ w).alloc (Nat.le_refl _) (.cells #[.slice A x.f1.length c, .int .i64 x.f2] 67)))
  have HMY := Aside0.mk (may_calls hs (w.alloc (.cells #[.slice A x.f1.length c, .int .i64 x.f2] 67)))
  clear h hA hB hs hg hC hl
  go_enter Try.func10, Try.ntmps10
  go_wp2_with fail
  refine HR.out.mono ?_
  rintro e w1 ⟨rfl, rfl⟩
  go_wp2_with fail
  refine HMY.out.mono ?_
  rintro e w1 ⟨rfl, hd⟩
  obtain ⟨nd, rfl⟩ := hd.out
  clear hd
  have HA1 := Aside0.mk (HA.out.drewN nd)
  have HC1 := Aside0.mk (Kd.C_drewN HCY.out nd)
  have HB1 : Aside0 (Below B w ((w.alloc (.cells #[.slice A x.f1.length c, .int .i64 x.f2] 67)).drewN nd)) := ⟨HB.out.trans ⟨rfl, rfl, rfl, Nat.le_refl _, fun _ _ => rfl⟩⟩
  generalize (w.alloc (.cells #[.slice A x.f1.length c, .int .i64 x.f2] 67)).drewN nd = w2 at HA1 HC1 HB1 ⊢
  generalize w.heap.size = b at HA1 ⊢
  clear HA HB HCY HMY HR c0 hrun
  obtain ⟨b0, b1, bf, hle, -⟩ := open_cells HA1.out
  dsimp only at b0 b1 bf hle
  cases hmy : mayF s with
  | false =>
    rw [hmy, if_pos rfl] at HO
    clear hmy bf
    go_wp2_with fail
    go_ret
    exact ⟨by rw [HO.out]; rfl, by rw [HO.out]; exact store_shut HA1.out, HB1.out⟩
  | true =>
    rw [hmy, if_neg (by decide)] at HO
    clear hmy
    have ew : wrap64 (1048576 - (x.f1.length : Int)) = 1048576 - (x.f1.length : Int) := by unfold wrap64; omega
    cases hlo : longF st s ys.length with
    | true =>
      rw [hlo, if_pos rfl] at HO
      rw [hlo] at HLO
      have d1 : 1048576 - (x.f1.length : Int) < (ys.length : Int) := of_decide_eq_true HLO.out.symm
      have d2 : decide ((ys.length : Int) > 1048576 - (x.f1.length : Int)) = true := decide_eq_true d1
      clear hlo bf
      go_wp2_with fail
      go_ret
      exact ⟨by rw [HO.out]; rfl, by rw [HO.out]; exact store_shut HA1.out, HB1.out⟩
    | false =>
      rw [hlo, if_neg (by decide)] at HO
      rw [hlo] at HLO
      have d1 : ¬ 1048576 - (x.f1.length : Int) < (ys.length : Int) := of_decide_eq_false HLO.out.symm
      have d2 : decide ((ys.length : Int) > 1048576 - (x.f1.length : Int)) = false := decide_eq_false d1
      clear hlo
      obtain ⟨mb2, e0, hlen⟩ := len_run HA1.out 3
      cases hfu : fullF st s with
      | true =>
        rw [hfu, if_pos rfl] at HO
        rw [hfu] at HFU
        have hfd : fd = false ∧ 64 ≤ st.L.length := by
          have := HFU.out.symm
          simpa using this
        obtain ⟨rfl, h64⟩ := hfd
        have d3 : decide ((st.L.length : Int) ≥ 64) = true := decide_eq_true (by omega)
        have d4 : (64 : Int) ≤ (st.L.length : Int) := by omega
        clear hfu bf
        go_wp2_with fail
        go_ret
        exact ⟨by rw [HO.out]; rfl, by rw [HO.out]; exact store_shut HA1.out, HB1.out⟩
      | false =>
        rw [hfu, if_neg (by decide)] at HO
        rw [hfu] at HFU
        have hL : Aside0 (st.L.length < 1000000) := ⟨by have := HG.out.n; omega⟩
        obtain ⟨w5, A1, c1, happ, a0, af, hA5, hB5⟩ := open_app HA1.out 23 (c2 := c2) HC1.out (by dsimp only; omega)
        dsimp only at happ a0 af hA5 hB5
        have HA5 := Aside0.mk hA5
        have HB5 := Aside0.mk (HB1.out.trans hB5)
        clear hA5 hB5 bf hfu
        obtain ⟨g0, g1, -, -, -⟩ := open_cells HA5.out
        dsimp only at g0 g1
        obtain ⟨mb3, w7, k0, hput, hA7, hB7⟩ := put_run HA5.out.drew HS.out hL.out
        dsimp only at hput hA7
        have HACT := Aside0.mk (act_calls hA7 HG.out.a0 HG.out.a1 HG.out.l0 HG.out.l1)
        have HB7 := Aside0.mk ((HB5.out.trans (below_drew (Below.refl _ _))).trans hB7)
        have k0' : (w5.setCell ⟨b, 0, none⟩ (.slice A1 (x.f1 ++ ys).length c1)).cell? ⟨p, 0, none⟩ = some (.map (some mb3)) := k0
        clear hA7 hB7 k0
        have lab : (x.f1 ++ ys).length = x.f1.length + ys.length := List.length_append
        unfold fv at hput
        dsimp only at hput
        rw [lab] at hput g0 g1 k0' happ
        clear lab
        have FIN : ∀ (fd2 : Bool), fd = fd2 → (fd2 = true ∨ (fd2 = false ∧ decide ((st.L.length : Int) ≥ 64) = false ∧ ¬ (64 : Int) ≤ (st.L.length : Int))) := by
          intro fd2 e
          subst e
          cases fd with
          | true => exact .inl rfl
          | false =>
            have := HFU.out.symm
            simp at this
            exact .inr ⟨rfl, decide_eq_false (by omega), by omega⟩
        rcases FIN fd rfl with rfl | ⟨rfl, d3, d4⟩
        · go_wp2_with (refine wpList_append_run _ rfl _ _ 23 23 rfl rfl rfl happ ?_)
          refine start_ (n := 7) (S := fun w' => w'.cell? ⟨p, 0, none⟩ = some (.map (some mb3)) ∧ w'.cell? ⟨b, 0, none⟩ = some (.slice A1 (x.f1.length + ys.length) c1) ∧ w'.cell? ⟨b, 1, none⟩ = some (.int .i64 x.f2)) (ds := [6]) #[false, false, false, false, false, false, false] (by kernel_rfl) rfl rfl ⟨k0', g0, g1⟩ (fun hHeld => ?_)
          refine pure_ (i := 0) (N := some 59) (v := ?_) (a' := ?_) #[true, false, false, false, false, false, false] rfl rfl (by kernel_rfl) (fun _ _ _ h => h) (Or.inl ⟨by rfl, ?_⟩) ?_ ?_
          rotate_left
          · intro w'
            go_simp
            with_reducible rfl
          rotate_left
          · simp only [Act.put, List.setIfInBounds_toArray, List.set_cons_zero, List.set_cons_succ, i64_w, i32_w]
            rfl
          refine pure_ (i := 1) (N := some 60) (v := ?_) (a' := ?_) #[true, true, false, false, false, false, false] rfl rfl (by kernel_rfl) (fun _ _ _ h => h) (Or.inl ⟨by rfl, ?_⟩) ?_ ?_
          rotate_left
          · intro w'
            go_simp
            with_reducible rfl
          rotate_left
          · simp only [Act.put, List.setIfInBounds_toArray, List.set_cons_zero, List.set_cons_succ, i64_w, i32_w]
            rfl
          refine pure_ (i := 2) (N := some 61) (v := ?_) (a' := ?_) #[true, true, true, false, false, false, false] rfl rfl (by kernel_rfl) (fun _ _ _ h => h) (Or.inl ⟨by rfl, ?_⟩) ?_ ?_
          rotate_left
          · intro w'
            go_simp
            with_reducible rfl
          rotate_left
          · simp only [Act.put, List.setIfInBounds_toArray, List.set_cons_zero, List.set_cons_succ, i64_w, i32_w]
            rfl
          refine pure_ (i := 4) (N := some 63) (v := ?_) (a' := ?_) #[true, true, true, false, true, false, false] rfl rfl (by kernel_rfl) (fun _ _ _ h => h) (Or.inl ⟨by rfl, ?_⟩) ?_ ?_
          rotate_left
          · intro w'
            go_simp
            with_reducible rfl
          rotate_left
          · simp only [Act.put, List.setIfInBounds_toArray, List.set_cons_zero, List.set_cons_succ, i64_w, i32_w]
            rfl
          refine take_ (i := 3) (N := some 62) (v := ?_) (a' := ?_) #[true, true, true, true, true, false, false] rfl rfl (by kernel_rfl) (fun _ _ _ h => h) (Or.inl ⟨by rfl, ?_⟩) hHeld ?_ ?_
          rotate_left
          · rintro w' ⟨s0, s1, s2⟩
            go_simp
            with_reducible rfl
          rotate_left
          · simp only [Act.put, List.setIfInBounds_toArray, List.set_cons_zero, List.set_cons_succ, i64_w, i32_w]
            rfl
          refine take_ (i := 5) (N := some 64) (v := ?_) (a' := ?_) #[true, true, true, true, true, true, false] rfl rfl (by kernel_rfl) (fun _ _ _ h => h) (Or.inl ⟨by rfl, ?_⟩) hHeld ?_ ?_
          rotate_left
          · rintro w' ⟨s0, s1, s2⟩
            go_simp
            with_reducible rfl
          rotate_left
          · simp only [Act.put, List.setIfInBounds_toArray, List.set_cons_zero, List.set_cons_succ, i64_w, i32_w]
            rfl
          refine last_ (i := 6) (N := none) #[true, true, true, true, true, true, true] rfl rfl (by kernel_rfl) (by decide) (fun K hK => ?_)
          refine skip_ (w1 := ?_) (by rfl) rfl ?_ ?_
          rotate_left
          · go_simp
            rfl
          refine hK.out _ _ ?_
          clear hK K
          refine done_ (by kernel_rfl) ?_

          clear g0 g1 k0' hput happ a0 af b0 b1 e0 hlen
          go_wp2_with fail
          refine HACT.out.mono ?_
          rintro e w8 ⟨rfl, hA, hB⟩
          have HA8 := Aside0.mk hA
          have HB8 := Aside0.mk (HB7.out.trans hB)
          clear hA hB
          go_wp2_with fail
          go_ret
          exact ⟨by rw [HO.out]; rfl, by rw [HO.out]; exact store_shut HA8.out, HB8.out⟩
        · go_wp2_with (refine wpList_append_run _ rfl _ _ 23 23 rfl rfl rfl happ ?_)
          refine start_ (n := 7) (S := fun w' => w'.cell? ⟨p, 0, none⟩ = some (.map (some mb3)) ∧ w'.cell? ⟨b, 0, none⟩ = some (.slice A1 (x.f1.length + ys.length) c1) ∧ w'.cell? ⟨b, 1, none⟩ = some (.int .i64 x.f2)) (ds := [6]) #[false, false, false, false, false, false, false] (by kernel_rfl) rfl rfl ⟨k0', g0, g1⟩ (fun hHeld => ?_)
          refine pure_ (i := 0) (N := some 59) (v := ?_) (a' := ?_) #[true, false, false, false, false, false, false] rfl rfl (by kernel_rfl) (fun _ _ _ h => h) (Or.inl ⟨by rfl, ?_⟩) ?_ ?_
          rotate_left
          · intro w'
            go_simp
            with_reducible rfl
          rotate_left
          · simp only [Act.put, List.setIfInBounds_toArray, List.set_cons_zero, List.set_cons_succ, i64_w, i32_w]
            rfl
          refine pure_ (i := 1) (N := some 60) (v := ?_) (a' := ?_) #[true, true, false, false, false, false, false] rfl rfl (by kernel_rfl) (fun _ _ _ h => h) (Or.inl ⟨by rfl, ?_⟩) ?_ ?_
          rotate_left
          · intro w'
            go_simp
            with_reducible rfl
          rotate_left
          · simp only [Act.put, List.setIfInBounds_toArray, List.set_cons_zero, List.set_cons_succ, i64_w, i32_w]
            rfl
          refine pure_ (i := 2) (N := some 61) (v := ?_) (a' := ?_) #[true, true, true, false, false, false, false] rfl rfl (by kernel_rfl) (fun _ _ _ h => h) (Or.inl ⟨by rfl, ?_⟩) ?_ ?_
          rotate_left
          · intro w'
            go_simp
            with_reducible rfl
          rotate_left
          · simp only [Act.put, List.setIfInBounds_toArray, List.set_cons_zero, List.set_cons_succ, i64_w, i32_w]
            rfl
          refine pure_ (i := 4) (N := some 63) (v := ?_) (a' := ?_) #[true, true, true, false, true, false, false] rfl rfl (by kernel_rfl) (fun _ _ _ h => h) (Or.inl ⟨by rfl, ?_⟩) ?_ ?_
          rotate_left
          · intro w'
            go_simp
            with_reducible rfl
          rotate_left
          · simp only [Act.put, List.setIfInBounds_toArray, List.set_cons_zero, List.set_cons_succ, i64_w, i32_w]
            rfl
          refine take_ (i := 3) (N := some 62) (v := ?_) (a' := ?_) #[true, true, true, true, true, false, false] rfl rfl (by kernel_rfl) (fun _ _ _ h => h) (Or.inl ⟨by rfl, ?_⟩) hHeld ?_ ?_
          rotate_left
          · rintro w' ⟨s0, s1, s2⟩
            go_simp
            with_reducible rfl
          rotate_left
          · simp only [Act.put, List.setIfInBounds_toArray, List.set_cons_zero, List.set_cons_succ, i64_w, i32_w]
            rfl
          refine take_ (i := 5) (N := some 64) (v := ?_) (a' := ?_) #[true, true, true, true, true, true, false] rfl rfl (by kernel_rfl) (fun _ _ _ h => h) (Or.inl ⟨by rfl, ?_⟩) hHeld ?_ ?_
          rotate_left
          · rintro w' ⟨s0, s1, s2⟩
            go_simp
            with_reducible rfl
          rotate_left
          · simp only [Act.put, List.setIfInBounds_toArray, List.set_cons_zero, List.set_cons_succ, i64_w, i32_w]
            rfl
          refine last_ (i := 6) (N := none) #[true, true, true, true, true, true, true] rfl rfl (by kernel_rfl) (by decide) (fun K hK => ?_)
          refine skip_ (w1 := ?_) (by rfl) rfl ?_ ?_
          rotate_left
          · go_simp
            rfl
          refine hK.out _ _ ?_
          clear hK K
          refine done_ (by kernel_rfl) ?_

          clear g0 g1 k0' hput happ a0 af b0 b1 e0 hlen
          go_wp2_with fail
          refine HACT.out.mono ?_
          rintro e w8 ⟨rfl, hA, hB⟩
          have HA8 := Aside0.mk hA
          have HB8 := Aside0.mk (HB7.out.trans hB)
          clear hA hB
          go_wp2_with fail
          go_ret
          exact ⟨by rw [HO.out]; rfl, by rw [HO.out]; exact store_shut HA8.out, HB8.out⟩
end Go.Proofs.Ytibnakpefjjoiaa.Fs
