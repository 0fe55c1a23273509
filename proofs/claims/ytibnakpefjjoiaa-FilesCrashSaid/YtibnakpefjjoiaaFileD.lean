/- A store of files: something is done with a file: walked. No law is proved here. -/
import Derived.Test.YtibnakpefjjoiaaFileC
namespace Go.Proofs.Ytibnakpefjjoiaa.Fs
open Go.RowKit Go.Proofs.YtibnakpefjjoiaaW.PrintWords Go.Proofs.YtibnakpefjjoiaaW.PrintLast Go.Proofs.Ytibnakpefjjoiaa.Q Go.Proofs.Ytibnakpefjjoiaa.Own
set_option linter.unusedVariables false
set_option linter.unusedSimpArgs false
attribute [local go_sem ↓] Go.wp_at_zero Go.wp_at_succ

/-- A look-up, whatever is open. -/
theorem look_run {B : Nat} {w : World} {p : Nat} {left acts : Int} {L : List SF} {o : Option Op} {Ts : List Th} (h : Has B w (storeT p left acts L o :: Ts)) {s : ByteArray} (hs : s.size ≤ 9223372036854775807) :
    ∃ mb, w.cell? ⟨p, 0, none⟩ = some (.map (some mb)) ∧ (∀ x, findF L s.data.toList = some x → ∃ A c, (Instr.lookup 60 (.map (some mb)) (.string s) true).run Try.prog w = .ok (.tuple #[fv A x c, .bool true]) w) ∧
      (findF L s.data.toList = none → (Instr.lookup 60 (.map (some mb)) (.string s) true).run Try.prog w = .ok (.tuple #[.agg #[.slice none 0 0, .int .i64 0], .bool false]) w) := by
  obtain ⟨F, ⟨hF, mb, D, h1, h2, h3, h4, h5, h6, h7⟩, hFb, put⟩ := h.head
  obtain ⟨v, ps, hrun, hv⟩ := h4.look_ok lawK Try.underlying60 (zeroF w) (zd := .held (.agg #[.slice none 0 0, .int .i64 0])) (zp := []) rfl (keyS hs)
  refine ⟨mb, by rw [blk_cell h3]; rfl, fun x hx => ?_, fun hx => ?_⟩
  · obtain ⟨A, c, a1, a2, a3⟩ := h5.hit _ x hx
    have hh : Go.Maps.has D (.string s.data.toList) = true := by rw [h5.has, hx]; rfl
    rw [a1] at hv
    have e : v = fv A x c := RV_inj hv
    rw [hh, e] at hrun
    exact ⟨A, c, hrun⟩
  · have hh : Go.Maps.has D (.string s.data.toList) = false := by rw [h5.has, hx]; rfl
    rw [h5.miss _ hx] at hv
    have e : v = .agg #[.slice none 0 0, .int .i64 0] := RV_inj hv
    rw [hh, e] at hrun
    exact hrun
def withL (L : List SF) (s : ByteArray) (x : SF) : List SF := if (findF L s.data.toList).isSome = true then setF L ⟨s, x.f1, x.f2⟩ else L
/-- What a call leaves of a store, and answers. -/
def StPost (B : Nat) (w : World) (p : Nat) (left acts : Int) (L : List SF) (Ts : List Th) (r : Int) (e : Ending) (w' : World) : Prop := e = .returned (.int .i64 r) ∧ Has B w' (storeT p left acts L none :: Ts) ∧ Below B w w'
/-- What a closure leaves of the open file. -/
def CloPost (B : Nat) (w : World) (p b : Nat) (left acts : Int) (L : List SF) (x : SF) (Ts : List Th) (r : Int) (e : Ending) (w' : World) : Prop := ∃ A c, e = .returned (.int .i64 r) ∧ Has B w' (storeT p left acts L (some ⟨b, x, A, c⟩) :: Ts) ∧ Below B w w'
set_option maxHeartbeats 2000000 in
set_option maxRecDepth 100000 in
theorem with_refused {B : Nat} {w : World} {p : Nat} {left acts : Int} {L : List SF} {Ts : List Th} (h : Has B w (storeT p left acts L none :: Ts)) (s : ByteArray) (hl : left = 0) (fv : Value) :
    Calls Try.prog 36 #[ptr p, .string s, fv] w (StPost B w p left acts L Ts 30) := by
  have HR := Aside0.mk (refuse_calls h)
  rw [show refuseE left = 30 from if_pos hl] at HR
  have HA := Aside0.mk h
  clear h hl
  go_enter Try.func36, Try.ntmps36
  go_wp2_with fail
  refine HR.out.mono ?_
  rintro e w1 ⟨rfl, rfl⟩
  go_wp2_with fail
  go_ret
  exact ⟨rfl, HA.out, Below.refl _ _⟩
set_option maxHeartbeats 2000000 in
set_option maxRecDepth 100000 in
theorem with_missing {B : Nat} {w : World} {p : Nat} {left acts : Int} {L : List SF} {Ts : List Th} (h : Has B w (storeT p left acts L none :: Ts)) {s : ByteArray} (hs : s.size ≤ 9223372036854775807) (hx : findF L s.data.toList = none) (hl : left ≠ 0) (fv : Value) :
    Calls Try.prog 36 #[ptr p, .string s, fv] w (StPost B w p left acts L Ts 31) := by
  have HR := Aside0.mk (refuse_calls h)
  rw [show refuseE left = 0 from if_neg hl] at HR
  obtain ⟨mb, c0, hrun, hA, hB⟩ := look_miss h hs hx
  have HA := Aside0.mk (store_shut hA)
  have HB := Aside0.mk hB
  have hu := Try.underlying67
  clear h hA hB hs hl hx
  go_enter Try.func36, Try.ntmps36
  go_wp2_with fail
  refine HR.out.mono ?_
  rintro e w1 ⟨rfl, rfl⟩
  go_wp2_with fail
  go_ret
  exact ⟨rfl, HA.out, HB.out⟩
set_option maxHeartbeats 4000000 in
set_option maxRecDepth 100000 in
theorem with_sync {B : Nat} {w : World} {p : Nat} {left acts left' acts' : Int} {L L' : List SF} {Ts Ts' : List Th} {r : Int} {x x' : SF} {c1 : Nat} (h : Has B w (storeT p left acts L none :: Ts)) {s : ByteArray} (hs : s.size ≤ 9223372036854775807) (hx : findF L s.data.toList = some x) (hl : left ≠ 0) (hn : L'.length < 1000000)
    (HK : ∀ (A : Option Addr) (c b : Nat) (w1 : World), Has B w1 (storeT p left acts L (some ⟨b, x, A, c⟩) :: Ts) → Calls Try.prog 41 #[ptr b, ptr c1] w1 (CloPost B w1 p b left' acts' L' x' Ts' r)) :
    Calls Try.prog 36 #[ptr p, .string s, .func (.func 41) #[] #[ptr c1]] w (StPost B w p left' acts' (withL L' s x') Ts' r) := by
  have HR := Aside0.mk (refuse_calls h)
  rw [show refuseE left = 0 from if_neg hl] at HR
  obtain ⟨mb, A, c, c0, hrun, -, hA, hB⟩ := look_hit h hs hx true
  have HA := Aside0.mk hA
  have HB := Aside0.mk hB
  have HKK := Aside0.mk HK
  have HS := Aside0.mk hs
  have HN := Aside0.mk hn
  have hu := Try.underlying67
  clear h hA hB HK hs hn hl hx
  go_enter Try.func36, Try.ntmps36
  go_wp2_with fail
  refine HR.out.mono ?_
  rintro e w1 ⟨rfl, rfl⟩
  go_wp2_with fail
  generalize w.alloc (.cells #[.slice A x.f1.length c, .int .i64 x.f2] 67) = w2 at HA HB ⊢
  generalize w.heap.size = b at HA ⊢
  refine (HKK.out A c b w2 HA.out).mono ?_
  rintro e w3 ⟨A', c', rfl, hA, hB⟩
  have HA3 := Aside0.mk hA
  have HB3 := Aside0.mk (HB.out.trans hB)
  clear hA hB HA HB HKK HR hrun c0
  obtain ⟨mb2, d0, hit, miss⟩ := look_run HA3.out HS.out
  cases hf : findF L' s.data.toList with
  | none =>
    have hrun := miss hf
    have HW : Aside0 (withL L' s x' = L') := ⟨by unfold withL; rw [hf]; rfl⟩
    have HB4 := Aside0.mk (HB3.out.alloc HA3.out.size (.cells #[.slice none 0 0, .int .i64 0] 67))
    have HA4 := Aside0.mk (HA3.out.alloc (.cells #[.slice none 0 0, .int .i64 0] 67))
    clear hit miss hf
    go_wp2_with fail
    go_ret
    exact ⟨rfl, by rw [HW.out]; exact store_shut HA4.out, HB4.out⟩
  | some y =>
    obtain ⟨A2, c2, hrun⟩ := hit y hf
    have HW : Aside0 (withL L' s x' = setF L' ⟨s, x'.f1, x'.f2⟩) := ⟨by unfold withL; rw [hf]; rfl⟩
    have HB4 := Aside0.mk (HB3.out.alloc HA3.out.size (.cells #[.slice A2 y.f1.length c2, .int .i64 y.f2] 67))
    have HA4 := Aside0.mk (HA3.out.alloc (.cells #[.slice A2 y.f1.length c2, .int .i64 y.f2] 67))
    clear hit miss hf
    go_wp2_with fail
    generalize w3.alloc (.cells #[.slice A2 y.f1.length c2, .int .i64 y.f2] 67) = w4 at HA4 HB4 ⊢
    clear d0 hrun HA3 HB3
    obtain ⟨mb3, w5, e0, hput, hA5, hB5⟩ := put_run HA4.out.drew HS.out HN.out
    obtain ⟨b0, b1, bf, -, -⟩ := open_cells HA4.out
    dsimp only at b0 b1
    have e0' : w4.cell? ⟨p, 0, none⟩ = some (.map (some mb3)) := e0
    have HA5 := Aside0.mk hA5
    have HB5 := Aside0.mk ((HB4.out.trans (below_drew (Below.refl _ _))).trans hB5)
    clear hA5 hB5 bf e0
    refine start_ (n := 7) (S := fun w' => w'.cell? ⟨p, 0, none⟩ = some (.map (some mb3)) ∧ w'.cell? ⟨b, 0, none⟩ = some (.slice A' x'.f1.length c') ∧ w'.cell? ⟨b, 1, none⟩ = some (.int .i64 x'.f2)) (ds := [6]) #[false, false, false, false, false, false, false] (by kernel_rfl) rfl rfl ⟨e0', b0, b1⟩ (fun hHeld => ?_)
    refine pure_ (i := 0) (N := some 41) (v := ?_) (a' := ?_) #[true, false, false, false, false, false, false] rfl rfl (by kernel_rfl) (fun _ _ _ h => h) (Or.inl ⟨by rfl, ?_⟩) ?_ ?_
    rotate_left
    · intro w'
      go_simp
      with_reducible rfl
    rotate_left
    · simp only [Act.put, List.setIfInBounds_toArray, List.set_cons_zero, List.set_cons_succ, i64_w, i32_w]
      rfl
    refine pure_ (i := 1) (N := some 42) (v := ?_) (a' := ?_) #[true, true, false, false, false, false, false] rfl rfl (by kernel_rfl) (fun _ _ _ h => h) (Or.inl ⟨by rfl, ?_⟩) ?_ ?_
    rotate_left
    · intro w'
      go_simp
      with_reducible rfl
    rotate_left
    · simp only [Act.put, List.setIfInBounds_toArray, List.set_cons_zero, List.set_cons_succ, i64_w, i32_w]
      rfl
    refine pure_ (i := 2) (N := some 43) (v := ?_) (a' := ?_) #[true, true, true, false, false, false, false] rfl rfl (by kernel_rfl) (fun _ _ _ h => h) (Or.inl ⟨by rfl, ?_⟩) ?_ ?_
    rotate_left
    · intro w'
      go_simp
      with_reducible rfl
    rotate_left
    · simp only [Act.put, List.setIfInBounds_toArray, List.set_cons_zero, List.set_cons_succ, i64_w, i32_w]
      rfl
    refine pure_ (i := 4) (N := some 45) (v := ?_) (a' := ?_) #[true, true, true, false, true, false, false] rfl rfl (by kernel_rfl) (fun _ _ _ h => h) (Or.inl ⟨by rfl, ?_⟩) ?_ ?_
    rotate_left
    · intro w'
      go_simp
      with_reducible rfl
    rotate_left
    · simp only [Act.put, List.setIfInBounds_toArray, List.set_cons_zero, List.set_cons_succ, i64_w, i32_w]
      rfl
    refine take_ (i := 3) (N := some 44) (v := ?_) (a' := ?_) #[true, true, true, true, true, false, false] rfl rfl (by kernel_rfl) (fun _ _ _ h => h) (Or.inl ⟨by rfl, ?_⟩) hHeld ?_ ?_
    rotate_left
    · rintro w' ⟨s0, s1, s2⟩
      go_simp
      with_reducible rfl
    rotate_left
    · simp only [Act.put, List.setIfInBounds_toArray, List.set_cons_zero, List.set_cons_succ, i64_w, i32_w]
      rfl
    refine take_ (i := 5) (N := some 46) (v := ?_) (a' := ?_) #[true, true, true, true, true, true, false] rfl rfl (by kernel_rfl) (fun _ _ _ h => h) (Or.inl ⟨by rfl, ?_⟩) hHeld ?_ ?_
    rotate_left
    · rintro w' ⟨s0, s1, s2⟩
      go_simp
      with_reducible rfl
    rotate_left
    · simp only [Act.put, List.setIfInBounds_toArray, List.set_cons_zero, List.set_cons_succ, i64_w, i32_w]
      rfl
    refine last_ (i := 6) (N := none) #[true, true, true, true, true, true, true] rfl rfl (by kernel_rfl) (by decide) (fun K hK => ?_)
    refine skip_ (w1 := ?_) (by rfl) rfl ?_ ?_
    rotate_left
    · go_simp
      rfl
    refine hK.out _ _ ?_
    clear hK K
    refine done_ (by kernel_rfl) ?_

    go_wp2_with fail
    go_ret
    exact ⟨rfl, by rw [HW.out]; exact store_shut HA5.out, HB5.out⟩

set_option maxHeartbeats 4000000 in
set_option maxRecDepth 100000 in
theorem with_trunc {B : Nat} {w : World} {p : Nat} {left acts left' acts' : Int} {L L' : List SF} {Ts Ts' : List Th} {r : Int} {x x' : SF} {c1 c2 : Nat} (h : Has B w (storeT p left acts L none :: Ts)) {s : ByteArray} (hs : s.size ≤ 9223372036854775807) (hx : findF L s.data.toList = some x) (hl : left ≠ 0) (hn : L'.length < 1000000)
    (HK : ∀ (A : Option Addr) (c b : Nat) (w1 : World), Has B w1 (storeT p left acts L (some ⟨b, x, A, c⟩) :: Ts) → Calls Try.prog 37 #[ptr b, ptr c1, ptr c2] w1 (CloPost B w1 p b left' acts' L' x' Ts' r)) :
    Calls Try.prog 36 #[ptr p, .string s, .func (.func 37) #[] #[ptr c1, ptr c2]] w (StPost B w p left' acts' (withL L' s x') Ts' r) := by
  have HR := Aside0.mk (refuse_calls h)
  rw [show refuseE left = 0 from if_neg hl] at HR
  obtain ⟨mb, A, c, c0, hrun, -, hA, hB⟩ := look_hit h hs hx true
  have HA := Aside0.mk hA
  have HB := Aside0.mk hB
  have HKK := Aside0.mk HK
  have HS := Aside0.mk hs
  have HN := Aside0.mk hn
  have hu := Try.underlying67
  clear h hA hB HK hs hn hl hx
  go_enter Try.func36, Try.ntmps36
  go_wp2_with fail
  refine HR.out.mono ?_
  rintro e w1 ⟨rfl, rfl⟩
  go_wp2_with fail
  generalize w.alloc (.cells #[.slice A x.f1.length c, .int .i64 x.f2] 67) = w2 at HA HB ⊢
  generalize w.heap.size = b at HA ⊢
  refine (HKK.out A c b w2 HA.out).mono ?_
  rintro e w3 ⟨A', c', rfl, hA, hB⟩
  have HA3 := Aside0.mk hA
  have HB3 := Aside0.mk (HB.out.trans hB)
  clear hA hB HA HB HKK HR hrun c0
  obtain ⟨mb2, d0, hit, miss⟩ := look_run HA3.out HS.out
  cases hf : findF L' s.data.toList with
  | none =>
    have hrun := miss hf
    have HW : Aside0 (withL L' s x' = L') := ⟨by unfold withL; rw [hf]; rfl⟩
    have HB4 := Aside0.mk (HB3.out.alloc HA3.out.size (.cells #[.slice none 0 0, .int .i64 0] 67))
    have HA4 := Aside0.mk (HA3.out.alloc (.cells #[.slice none 0 0, .int .i64 0] 67))
    clear hit miss hf
    go_wp2_with fail
    go_ret
    exact ⟨rfl, by rw [HW.out]; exact store_shut HA4.out, HB4.out⟩
  | some y =>
    obtain ⟨A2, c2, hrun⟩ := hit y hf
    have HW : Aside0 (withL L' s x' = setF L' ⟨s, x'.f1, x'.f2⟩) := ⟨by unfold withL; rw [hf]; rfl⟩
    have HB4 := Aside0.mk (HB3.out.alloc HA3.out.size (.cells #[.slice A2 y.f1.length c2, .int .i64 y.f2] 67))
    have HA4 := Aside0.mk (HA3.out.alloc (.cells #[.slice A2 y.f1.length c2, .int .i64 y.f2] 67))
    clear hit miss hf
    go_wp2_with fail
    generalize w3.alloc (.cells #[.slice A2 y.f1.length c2, .int .i64 y.f2] 67) = w4 at HA4 HB4 ⊢
    clear d0 hrun HA3 HB3
    obtain ⟨mb3, w5, e0, hput, hA5, hB5⟩ := put_run HA4.out.drew HS.out HN.out
    obtain ⟨b0, b1, bf, -, -⟩ := open_cells HA4.out
    dsimp only at b0 b1
    have e0' : w4.cell? ⟨p, 0, none⟩ = some (.map (some mb3)) := e0
    have HA5 := Aside0.mk hA5
    have HB5 := Aside0.mk ((HB4.out.trans (below_drew (Below.refl _ _))).trans hB5)
    clear hA5 hB5 bf e0
    refine start_ (n := 7) (S := fun w' => w'.cell? ⟨p, 0, none⟩ = some (.map (some mb3)) ∧ w'.cell? ⟨b, 0, none⟩ = some (.slice A' x'.f1.length c') ∧ w'.cell? ⟨b, 1, none⟩ = some (.int .i64 x'.f2)) (ds := [6]) #[false, false, false, false, false, false, false] (by kernel_rfl) rfl rfl ⟨e0', b0, b1⟩ (fun hHeld => ?_)
    refine pure_ (i := 0) (N := some 41) (v := ?_) (a' := ?_) #[true, false, false, false, false, false, false] rfl rfl (by kernel_rfl) (fun _ _ _ h => h) (Or.inl ⟨by rfl, ?_⟩) ?_ ?_
    rotate_left
    · intro w'
      go_simp
      with_reducible rfl
    rotate_left
    · simp only [Act.put, List.setIfInBounds_toArray, List.set_cons_zero, List.set_cons_succ, i64_w, i32_w]
      rfl
    refine pure_ (i := 1) (N := some 42) (v := ?_) (a' := ?_) #[true, true, false, false, false, false, false] rfl rfl (by kernel_rfl) (fun _ _ _ h => h) (Or.inl ⟨by rfl, ?_⟩) ?_ ?_
    rotate_left
    · intro w'
      go_simp
      with_reducible rfl
    rotate_left
    · simp only [Act.put, List.setIfInBounds_toArray, List.set_cons_zero, List.set_cons_succ, i64_w, i32_w]
      rfl
    refine pure_ (i := 2) (N := some 43) (v := ?_) (a' := ?_) #[true, true, true, false, false, false, false] rfl rfl (by kernel_rfl) (fun _ _ _ h => h) (Or.inl ⟨by rfl, ?_⟩) ?_ ?_
    rotate_left
    · intro w'
      go_simp
      with_reducible rfl
    rotate_left
    · simp only [Act.put, List.setIfInBounds_toArray, List.set_cons_zero, List.set_cons_succ, i64_w, i32_w]
      rfl
    refine pure_ (i := 4) (N := some 45) (v := ?_) (a' := ?_) #[true, true, true, false, true, false, false] rfl rfl (by kernel_rfl) (fun _ _ _ h => h) (Or.inl ⟨by rfl, ?_⟩) ?_ ?_
    rotate_left
    · intro w'
      go_simp
      with_reducible rfl
    rotate_left
    · simp only [Act.put, List.setIfInBounds_toArray, List.set_cons_zero, List.set_cons_succ, i64_w, i32_w]
      rfl
    refine take_ (i := 3) (N := some 44) (v := ?_) (a' := ?_) #[true, true, true, true, true, false, false] rfl rfl (by kernel_rfl) (fun _ _ _ h => h) (Or.inl ⟨by rfl, ?_⟩) hHeld ?_ ?_
    rotate_left
    · rintro w' ⟨s0, s1, s2⟩
      go_simp
      with_reducible rfl
    rotate_left
    · simp only [Act.put, List.setIfInBounds_toArray, List.set_cons_zero, List.set_cons_succ, i64_w, i32_w]
      rfl
    refine take_ (i := 5) (N := some 46) (v := ?_) (a' := ?_) #[true, true, true, true, true, true, false] rfl rfl (by kernel_rfl) (fun _ _ _ h => h) (Or.inl ⟨by rfl, ?_⟩) hHeld ?_ ?_
    rotate_left
    · rintro w' ⟨s0, s1, s2⟩
      go_simp
      with_reducible rfl
    rotate_left
    · simp only [Act.put, List.setIfInBounds_toArray, List.set_cons_zero, List.set_cons_succ, i64_w, i32_w]
      rfl
    refine last_ (i := 6) (N := none) #[true, true, true, true, true, true, true] rfl rfl (by kernel_rfl) (by decide) (fun K hK => ?_)
    refine skip_ (w1 := ?_) (by rfl) rfl ?_ ?_
    rotate_left
    · go_simp
      rfl
    refine hK.out _ _ ?_
    clear hK K
    refine done_ (by kernel_rfl) ?_

    go_wp2_with fail
    go_ret
    exact ⟨rfl, by rw [HW.out]; exact store_shut HA5.out, HB5.out⟩

set_option maxHeartbeats 4000000 in
set_option maxRecDepth 100000 in
theorem with_read {B : Nat} {w : World} {p : Nat} {left acts left' acts' : Int} {L L' : List SF} {Ts : List Th} {Ts' : Value → List Th} {r : Int} {x x' : SF} {c1 : Nat} (h : Has B w (storeT p left acts L none :: Ts)) {s : ByteArray} (hs : s.size ≤ 9223372036854775807) (hx : findF L s.data.toList = some x) (hl : left ≠ 0) (hn : L'.length < 1000000)
    (HK : ∀ (A : Option Addr) (c b : Nat) (w1 : World), Has B w1 (storeT p left acts L (some ⟨b, x, A, c⟩) :: Ts) → Calls Try.prog 38 #[ptr b, ptr c1] w1 (fun e w' => ∃ v, CloPost B w1 p b left' acts' L' x' (Ts' v) r e w')) :
    Calls Try.prog 36 #[ptr p, .string s, .func (.func 38) #[] #[ptr c1]] w (fun e w' => ∃ v, StPost B w p left' acts' (withL L' s x') (Ts' v) r e w') := by
  have HR := Aside0.mk (refuse_calls h)
  rw [show refuseE left = 0 from if_neg hl] at HR
  obtain ⟨mb, A, c, c0, hrun, -, hA, hB⟩ := look_hit h hs hx true
  have HA := Aside0.mk hA
  have HB := Aside0.mk hB
  have HKK := Aside0.mk HK
  have HS := Aside0.mk hs
  have HN := Aside0.mk hn
  have hu := Try.underlying67
  clear h hA hB HK hs hn hl hx
  go_enter Try.func36, Try.ntmps36
  go_wp2_with fail
  refine HR.out.mono ?_
  rintro e w1 ⟨rfl, rfl⟩
  go_wp2_with fail
  generalize w.alloc (.cells #[.slice A x.f1.length c, .int .i64 x.f2] 67) = w2 at HA HB ⊢
  generalize w.heap.size = b at HA ⊢
  refine (HKK.out A c b w2 HA.out).mono ?_
  rintro e w3 ⟨v, A', c', rfl, hA, hB⟩
  have HA3 := Aside0.mk hA
  have HB3 := Aside0.mk (HB.out.trans hB)
  clear hA hB HA HB HKK HR hrun c0
  obtain ⟨mb2, d0, hit, miss⟩ := look_run HA3.out HS.out
  cases hf : findF L' s.data.toList with
  | none =>
    have hrun := miss hf
    have HW : Aside0 (withL L' s x' = L') := ⟨by unfold withL; rw [hf]; rfl⟩
    have HB4 := Aside0.mk (HB3.out.alloc HA3.out.size (.cells #[.slice none 0 0, .int .i64 0] 67))
    have HA4 := Aside0.mk (HA3.out.alloc (.cells #[.slice none 0 0, .int .i64 0] 67))
    clear hit miss hf
    go_wp2_with fail
    go_ret
    exact ⟨v, rfl, by rw [HW.out]; exact store_shut HA4.out, HB4.out⟩
  | some y =>
    obtain ⟨A2, c2, hrun⟩ := hit y hf
    have HW : Aside0 (withL L' s x' = setF L' ⟨s, x'.f1, x'.f2⟩) := ⟨by unfold withL; rw [hf]; rfl⟩
    have HB4 := Aside0.mk (HB3.out.alloc HA3.out.size (.cells #[.slice A2 y.f1.length c2, .int .i64 y.f2] 67))
    have HA4 := Aside0.mk (HA3.out.alloc (.cells #[.slice A2 y.f1.length c2, .int .i64 y.f2] 67))
    clear hit miss hf
    go_wp2_with fail
    generalize w3.alloc (.cells #[.slice A2 y.f1.length c2, .int .i64 y.f2] 67) = w4 at HA4 HB4 ⊢
    clear d0 hrun HA3 HB3
    obtain ⟨mb3, w5, e0, hput, hA5, hB5⟩ := put_run HA4.out.drew HS.out HN.out
    obtain ⟨b0, b1, bf, -, -⟩ := open_cells HA4.out
    dsimp only at b0 b1
    have e0' : w4.cell? ⟨p, 0, none⟩ = some (.map (some mb3)) := e0
    have HA5 := Aside0.mk hA5
    have HB5 := Aside0.mk ((HB4.out.trans (below_drew (Below.refl _ _))).trans hB5)
    clear hA5 hB5 bf e0
    refine start_ (n := 7) (S := fun w' => w'.cell? ⟨p, 0, none⟩ = some (.map (some mb3)) ∧ w'.cell? ⟨b, 0, none⟩ = some (.slice A' x'.f1.length c') ∧ w'.cell? ⟨b, 1, none⟩ = some (.int .i64 x'.f2)) (ds := [6]) #[false, false, false, false, false, false, false] (by kernel_rfl) rfl rfl ⟨e0', b0, b1⟩ (fun hHeld => ?_)
    refine pure_ (i := 0) (N := some 41) (v := ?_) (a' := ?_) #[true, false, false, false, false, false, false] rfl rfl (by kernel_rfl) (fun _ _ _ h => h) (Or.inl ⟨by rfl, ?_⟩) ?_ ?_
    rotate_left
    · intro w'
      go_simp
      with_reducible rfl
    rotate_left
    · simp only [Act.put, List.setIfInBounds_toArray, List.set_cons_zero, List.set_cons_succ, i64_w, i32_w]
      rfl
    refine pure_ (i := 1) (N := some 42) (v := ?_) (a' := ?_) #[true, true, false, false, false, false, false] rfl rfl (by kernel_rfl) (fun _ _ _ h => h) (Or.inl ⟨by rfl, ?_⟩) ?_ ?_
    rotate_left
    · intro w'
      go_simp
      with_reducible rfl
    rotate_left
    · simp only [Act.put, List.setIfInBounds_toArray, List.set_cons_zero, List.set_cons_succ, i64_w, i32_w]
      rfl
    refine pure_ (i := 2) (N := some 43) (v := ?_) (a' := ?_) #[true, true, true, false, false, false, false] rfl rfl (by kernel_rfl) (fun _ _ _ h => h) (Or.inl ⟨by rfl, ?_⟩) ?_ ?_
    rotate_left
    · intro w'
      go_simp
      with_reducible rfl
    rotate_left
    · simp only [Act.put, List.setIfInBounds_toArray, List.set_cons_zero, List.set_cons_succ, i64_w, i32_w]
      rfl
    refine pure_ (i := 4) (N := some 45) (v := ?_) (a' := ?_) #[true, true, true, false, true, false, false] rfl rfl (by kernel_rfl) (fun _ _ _ h => h) (Or.inl ⟨by rfl, ?_⟩) ?_ ?_
    rotate_left
    · intro w'
      go_simp
      with_reducible rfl
    rotate_left
    · simp only [Act.put, List.setIfInBounds_toArray, List.set_cons_zero, List.set_cons_succ, i64_w, i32_w]
      rfl
    refine take_ (i := 3) (N := some 44) (v := ?_) (a' := ?_) #[true, true, true, true, true, false, false] rfl rfl (by kernel_rfl) (fun _ _ _ h => h) (Or.inl ⟨by rfl, ?_⟩) hHeld ?_ ?_
    rotate_left
    · rintro w' ⟨s0, s1, s2⟩
      go_simp
      with_reducible rfl
    rotate_left
    · simp only [Act.put, List.setIfInBounds_toArray, List.set_cons_zero, List.set_cons_succ, i64_w, i32_w]
      rfl
    refine take_ (i := 5) (N := some 46) (v := ?_) (a' := ?_) #[true, true, true, true, true, true, false] rfl rfl (by kernel_rfl) (fun _ _ _ h => h) (Or.inl ⟨by rfl, ?_⟩) hHeld ?_ ?_
    rotate_left
    · rintro w' ⟨s0, s1, s2⟩
      go_simp
      with_reducible rfl
    rotate_left
    · simp only [Act.put, List.setIfInBounds_toArray, List.set_cons_zero, List.set_cons_succ, i64_w, i32_w]
      rfl
    refine last_ (i := 6) (N := none) #[true, true, true, true, true, true, true] rfl rfl (by kernel_rfl) (by decide) (fun K hK => ?_)
    refine skip_ (w1 := ?_) (by rfl) rfl ?_ ?_
    rotate_left
    · go_simp
      rfl
    refine hK.out _ _ ?_
    clear hK K
    refine done_ (by kernel_rfl) ?_

    go_wp2_with fail
    go_ret
    exact ⟨v, rfl, by rw [HW.out]; exact store_shut HA5.out, HB5.out⟩

set_option maxHeartbeats 4000000 in
set_option maxRecDepth 100000 in
theorem with_rename {B : Nat} {w : World} {p : Nat} {left acts left' acts' : Int} {L L' : List SF} {Ts Ts' : List Th} {r : Int} {x x' : SF} {c1 c2 c3 : Nat} (h : Has B w (storeT p left acts L none :: Ts)) {s : ByteArray} (hs : s.size ≤ 9223372036854775807) (hx : findF L s.data.toList = some x) (hl : left ≠ 0) (hn : L'.length < 1000000)
    (HK : ∀ (A : Option Addr) (c b : Nat) (w1 : World), Has B w1 (storeT p left acts L (some ⟨b, x, A, c⟩) :: Ts) → Calls Try.prog 40 #[ptr b, ptr c1, ptr c2, ptr c3] w1 (CloPost B w1 p b left' acts' L' x' Ts' r)) :
    Calls Try.prog 36 #[ptr p, .string s, .func (.func 40) #[] #[ptr c1, ptr c2, ptr c3]] w (StPost B w p left' acts' (withL L' s x') Ts' r) := by
  have HR := Aside0.mk (refuse_calls h)
  rw [show refuseE left = 0 from if_neg hl] at HR
  obtain ⟨mb, A, c, c0, hrun, -, hA, hB⟩ := look_hit h hs hx true
  have HA := Aside0.mk hA
  have HB := Aside0.mk hB
  have HKK := Aside0.mk HK
  have HS := Aside0.mk hs
  have HN := Aside0.mk hn
  have hu := Try.underlying67
  clear h hA hB HK hs hn hl hx
  go_enter Try.func36, Try.ntmps36
  go_wp2_with fail
  refine HR.out.mono ?_
  rintro e w1 ⟨rfl, rfl⟩
  go_wp2_with fail
  generalize w.alloc (.cells #[.slice A x.f1.length c, .int .i64 x.f2] 67) = w2 at HA HB ⊢
  generalize w.heap.size = b at HA ⊢
  refine (HKK.out A c b w2 HA.out).mono ?_
  rintro e w3 ⟨A', c', rfl, hA, hB⟩
  have HA3 := Aside0.mk hA
  have HB3 := Aside0.mk (HB.out.trans hB)
  clear hA hB HA HB HKK HR hrun c0
  obtain ⟨mb2, d0, hit, miss⟩ := look_run HA3.out HS.out
  cases hf : findF L' s.data.toList with
  | none =>
    have hrun := miss hf
    have HW : Aside0 (withL L' s x' = L') := ⟨by unfold withL; rw [hf]; rfl⟩
    have HB4 := Aside0.mk (HB3.out.alloc HA3.out.size (.cells #[.slice none 0 0, .int .i64 0] 67))
    have HA4 := Aside0.mk (HA3.out.alloc (.cells #[.slice none 0 0, .int .i64 0] 67))
    clear hit miss hf
    go_wp2_with fail
    go_ret
    exact ⟨rfl, by rw [HW.out]; exact store_shut HA4.out, HB4.out⟩
  | some y =>
    obtain ⟨A2, c2, hrun⟩ := hit y hf
    have HW : Aside0 (withL L' s x' = setF L' ⟨s, x'.f1, x'.f2⟩) := ⟨by unfold withL; rw [hf]; rfl⟩
    have HB4 := Aside0.mk (HB3.out.alloc HA3.out.size (.cells #[.slice A2 y.f1.length c2, .int .i64 y.f2] 67))
    have HA4 := Aside0.mk (HA3.out.alloc (.cells #[.slice A2 y.f1.length c2, .int .i64 y.f2] 67))
    clear hit miss hf
    go_wp2_with fail
    generalize w3.alloc (.cells #[.slice A2 y.f1.length c2, .int .i64 y.f2] 67) = w4 at HA4 HB4 ⊢
    clear d0 hrun HA3 HB3
    obtain ⟨mb3, w5, e0, hput, hA5, hB5⟩ := put_run HA4.out.drew HS.out HN.out
    obtain ⟨b0, b1, bf, -, -⟩ := open_cells HA4.out
    dsimp only at b0 b1
    have e0' : w4.cell? ⟨p, 0, none⟩ = some (.map (some mb3)) := e0
    have HA5 := Aside0.mk hA5
    have HB5 := Aside0.mk ((HB4.out.trans (below_drew (Below.refl _ _))).trans hB5)
    clear hA5 hB5 bf e0
    refine start_ (n := 7) (S := fun w' => w'.cell? ⟨p, 0, none⟩ = some (.map (some mb3)) ∧ w'.cell? ⟨b, 0, none⟩ = some (.slice A' x'.f1.length c') ∧ w'.cell? ⟨b, 1, none⟩ = some (.int .i64 x'.f2)) (ds := [6]) #[false, false, false, false, false, false, false] (by kernel_rfl) rfl rfl ⟨e0', b0, b1⟩ (fun hHeld => ?_)
    refine pure_ (i := 0) (N := some 41) (v := ?_) (a' := ?_) #[true, false, false, false, false, false, false] rfl rfl (by kernel_rfl) (fun _ _ _ h => h) (Or.inl ⟨by rfl, ?_⟩) ?_ ?_
    rotate_left
    · intro w'
      go_simp
      with_reducible rfl
    rotate_left
    · simp only [Act.put, List.setIfInBounds_toArray, List.set_cons_zero, List.set_cons_succ, i64_w, i32_w]
      rfl
    refine pure_ (i := 1) (N := some 42) (v := ?_) (a' := ?_) #[true, true, false, false, false, false, false] rfl rfl (by kernel_rfl) (fun _ _ _ h => h) (Or.inl ⟨by rfl, ?_⟩) ?_ ?_
    rotate_left
    · intro w'
      go_simp
      with_reducible rfl
    rotate_left
    · simp only [Act.put, List.setIfInBounds_toArray, List.set_cons_zero, List.set_cons_succ, i64_w, i32_w]
      rfl
    refine pure_ (i := 2) (N := some 43) (v := ?_) (a' := ?_) #[true, true, true, false, false, false, false] rfl rfl (by kernel_rfl) (fun _ _ _ h => h) (Or.inl ⟨by rfl, ?_⟩) ?_ ?_
    rotate_left
    · intro w'
      go_simp
      with_reducible rfl
    rotate_left
    · simp only [Act.put, List.setIfInBounds_toArray, List.set_cons_zero, List.set_cons_succ, i64_w, i32_w]
      rfl
    refine pure_ (i := 4) (N := some 45) (v := ?_) (a' := ?_) #[true, true, true, false, true, false, false] rfl rfl (by kernel_rfl) (fun _ _ _ h => h) (Or.inl ⟨by rfl, ?_⟩) ?_ ?_
    rotate_left
    · intro w'
      go_simp
      with_reducible rfl
    rotate_left
    · simp only [Act.put, List.setIfInBounds_toArray, List.set_cons_zero, List.set_cons_succ, i64_w, i32_w]
      rfl
    refine take_ (i := 3) (N := some 44) (v := ?_) (a' := ?_) #[true, true, true, true, true, false, false] rfl rfl (by kernel_rfl) (fun _ _ _ h => h) (Or.inl ⟨by rfl, ?_⟩) hHeld ?_ ?_
    rotate_left
    · rintro w' ⟨s0, s1, s2⟩
      go_simp
      with_reducible rfl
    rotate_left
    · simp only [Act.put, List.setIfInBounds_toArray, List.set_cons_zero, List.set_cons_succ, i64_w, i32_w]
      rfl
    refine take_ (i := 5) (N := some 46) (v := ?_) (a' := ?_) #[true, true, true, true, true, true, false] rfl rfl (by kernel_rfl) (fun _ _ _ h => h) (Or.inl ⟨by rfl, ?_⟩) hHeld ?_ ?_
    rotate_left
    · rintro w' ⟨s0, s1, s2⟩
      go_simp
      with_reducible rfl
    rotate_left
    · simp only [Act.put, List.setIfInBounds_toArray, List.set_cons_zero, List.set_cons_succ, i64_w, i32_w]
      rfl
    refine last_ (i := 6) (N := none) #[true, true, true, true, true, true, true] rfl rfl (by kernel_rfl) (by decide) (fun K hK => ?_)
    refine skip_ (w1 := ?_) (by rfl) rfl ?_ ?_
    rotate_left
    · go_simp
      rfl
    refine hK.out _ _ ?_
    clear hK K
    refine done_ (by kernel_rfl) ?_

    go_wp2_with fail
    go_ret
    exact ⟨rfl, by rw [HW.out]; exact store_shut HA5.out, HB5.out⟩

set_option maxHeartbeats 4000000 in
set_option maxRecDepth 100000 in
theorem with_remove {B : Nat} {w : World} {p : Nat} {left acts left' acts' : Int} {L L' : List SF} {Ts Ts' : List Th} {r : Int} {x x' : SF} {c1 c2 : Nat} (h : Has B w (storeT p left acts L none :: Ts)) {s : ByteArray} (hs : s.size ≤ 9223372036854775807) (hx : findF L s.data.toList = some x) (hl : left ≠ 0) (hn : L'.length < 1000000)
    (HK : ∀ (A : Option Addr) (c b : Nat) (w1 : World), Has B w1 (storeT p left acts L (some ⟨b, x, A, c⟩) :: Ts) → Calls Try.prog 42 #[ptr b, ptr c1, ptr c2] w1 (CloPost B w1 p b left' acts' L' x' Ts' r)) :
    Calls Try.prog 36 #[ptr p, .string s, .func (.func 42) #[] #[ptr c1, ptr c2]] w (StPost B w p left' acts' (withL L' s x') Ts' r) := by
  have HR := Aside0.mk (refuse_calls h)
  rw [show refuseE left = 0 from if_neg hl] at HR
  obtain ⟨mb, A, c, c0, hrun, -, hA, hB⟩ := look_hit h hs hx true
  have HA := Aside0.mk hA
  have HB := Aside0.mk hB
  have HKK := Aside0.mk HK
  have HS := Aside0.mk hs
  have HN := Aside0.mk hn
  have hu := Try.underlying67
  clear h hA hB HK hs hn hl hx
  go_enter Try.func36, Try.ntmps36
  go_wp2_with fail
  refine HR.out.mono ?_
  rintro e w1 ⟨rfl, rfl⟩
  go_wp2_with fail
  generalize w.alloc (.cells #[.slice A x.f1.length c, .int .i64 x.f2] 67) = w2 at HA HB ⊢
  generalize w.heap.size = b at HA ⊢
  refine (HKK.out A c b w2 HA.out).mono ?_
  rintro e w3 ⟨A', c', rfl, hA, hB⟩
  have HA3 := Aside0.mk hA
  have HB3 := Aside0.mk (HB.out.trans hB)
  clear hA hB HA HB HKK HR hrun c0
  obtain ⟨mb2, d0, hit, miss⟩ := look_run HA3.out HS.out
  cases hf : findF L' s.data.toList with
  | none =>
    have hrun := miss hf
    have HW : Aside0 (withL L' s x' = L') := ⟨by unfold withL; rw [hf]; rfl⟩
    have HB4 := Aside0.mk (HB3.out.alloc HA3.out.size (.cells #[.slice none 0 0, .int .i64 0] 67))
    have HA4 := Aside0.mk (HA3.out.alloc (.cells #[.slice none 0 0, .int .i64 0] 67))
    clear hit miss hf
    go_wp2_with fail
    go_ret
    exact ⟨rfl, by rw [HW.out]; exact store_shut HA4.out, HB4.out⟩
  | some y =>
    obtain ⟨A2, c2, hrun⟩ := hit y hf
    have HW : Aside0 (withL L' s x' = setF L' ⟨s, x'.f1, x'.f2⟩) := ⟨by unfold withL; rw [hf]; rfl⟩
    have HB4 := Aside0.mk (HB3.out.alloc HA3.out.size (.cells #[.slice A2 y.f1.length c2, .int .i64 y.f2] 67))
    have HA4 := Aside0.mk (HA3.out.alloc (.cells #[.slice A2 y.f1.length c2, .int .i64 y.f2] 67))
    clear hit miss hf
    go_wp2_with fail
    generalize w3.alloc (.cells #[.slice A2 y.f1.length c2, .int .i64 y.f2] 67) = w4 at HA4 HB4 ⊢
    clear d0 hrun HA3 HB3
    obtain ⟨mb3, w5, e0, hput, hA5, hB5⟩ := put_run HA4.out.drew HS.out HN.out
    obtain ⟨b0, b1, bf, -, -⟩ := open_cells HA4.out
    dsimp only at b0 b1
    have e0' : w4.cell? ⟨p, 0, none⟩ = some (.map (some mb3)) := e0
    have HA5 := Aside0.mk hA5
    have HB5 := Aside0.mk ((HB4.out.trans (below_drew (Below.refl _ _))).trans hB5)
    clear hA5 hB5 bf e0
    refine start_ (n := 7) (S := fun w' => w'.cell? ⟨p, 0, none⟩ = some (.map (some mb3)) ∧ w'.cell? ⟨b, 0, none⟩ = some (.slice A' x'.f1.length c') ∧ w'.cell? ⟨b, 1, none⟩ = some (.int .i64 x'.f2)) (ds := [6]) #[false, false, false, false, false, false, false] (by kernel_rfl) rfl rfl ⟨e0', b0, b1⟩ (fun hHeld => ?_)
    refine pure_ (i := 0) (N := some 41) (v := ?_) (a' := ?_) #[true, false, false, false, false, false, false] rfl rfl (by kernel_rfl) (fun _ _ _ h => h) (Or.inl ⟨by rfl, ?_⟩) ?_ ?_
    rotate_left
    · intro w'
      go_simp
      with_reducible rfl
    rotate_left
    · simp only [Act.put, List.setIfInBounds_toArray, List.set_cons_zero, List.set_cons_succ, i64_w, i32_w]
      rfl
    refine pure_ (i := 1) (N := some 42) (v := ?_) (a' := ?_) #[true, true, false, false, false, false, false] rfl rfl (by kernel_rfl) (fun _ _ _ h => h) (Or.inl ⟨by rfl, ?_⟩) ?_ ?_
    rotate_left
    · intro w'
      go_simp
      with_reducible rfl
    rotate_left
    · simp only [Act.put, List.setIfInBounds_toArray, List.set_cons_zero, List.set_cons_succ, i64_w, i32_w]
      rfl
    refine pure_ (i := 2) (N := some 43) (v := ?_) (a' := ?_) #[true, true, true, false, false, false, false] rfl rfl (by kernel_rfl) (fun _ _ _ h => h) (Or.inl ⟨by rfl, ?_⟩) ?_ ?_
    rotate_left
    · intro w'
      go_simp
      with_reducible rfl
    rotate_left
    · simp only [Act.put, List.setIfInBounds_toArray, List.set_cons_zero, List.set_cons_succ, i64_w, i32_w]
      rfl
    refine pure_ (i := 4) (N := some 45) (v := ?_) (a' := ?_) #[true, true, true, false, true, false, false] rfl rfl (by kernel_rfl) (fun _ _ _ h => h) (Or.inl ⟨by rfl, ?_⟩) ?_ ?_
    rotate_left
    · intro w'
      go_simp
      with_reducible rfl
    rotate_left
    · simp only [Act.put, List.setIfInBounds_toArray, List.set_cons_zero, List.set_cons_succ, i64_w, i32_w]
      rfl
    refine take_ (i := 3) (N := some 44) (v := ?_) (a' := ?_) #[true, true, true, true, true, false, false] rfl rfl (by kernel_rfl) (fun _ _ _ h => h) (Or.inl ⟨by rfl, ?_⟩) hHeld ?_ ?_
    rotate_left
    · rintro w' ⟨s0, s1, s2⟩
      go_simp
      with_reducible rfl
    rotate_left
    · simp only [Act.put, List.setIfInBounds_toArray, List.set_cons_zero, List.set_cons_succ, i64_w, i32_w]
      rfl
    refine take_ (i := 5) (N := some 46) (v := ?_) (a' := ?_) #[true, true, true, true, true, true, false] rfl rfl (by kernel_rfl) (fun _ _ _ h => h) (Or.inl ⟨by rfl, ?_⟩) hHeld ?_ ?_
    rotate_left
    · rintro w' ⟨s0, s1, s2⟩
      go_simp
      with_reducible rfl
    rotate_left
    · simp only [Act.put, List.setIfInBounds_toArray, List.set_cons_zero, List.set_cons_succ, i64_w, i32_w]
      rfl
    refine last_ (i := 6) (N := none) #[true, true, true, true, true, true, true] rfl rfl (by kernel_rfl) (by decide) (fun K hK => ?_)
    refine skip_ (w1 := ?_) (by rfl) rfl ?_ ?_
    rotate_left
    · go_simp
      rfl
    refine hK.out _ _ ?_
    clear hK K
    refine done_ (by kernel_rfl) ?_

    go_wp2_with fail
    go_ret
    exact ⟨rfl, by rw [HW.out]; exact store_shut HA5.out, HB5.out⟩

set_option maxHeartbeats 4000000 in
set_option maxRecDepth 100000 in
theorem with_synced {B : Nat} {w : World} {p : Nat} {left acts left' acts' : Int} {L L' : List SF} {Ts Ts' : List Th} {r : Int} {x x' : SF} {c1 : Nat} (h : Has B w (storeT p left acts L none :: Ts)) {s : ByteArray} (hs : s.size ≤ 9223372036854775807) (hx : findF L s.data.toList = some x) (hl : left ≠ 0) (hn : L'.length < 1000000)
    (HK : ∀ (A : Option Addr) (c b : Nat) (w1 : World), Has B w1 (storeT p left acts L (some ⟨b, x, A, c⟩) :: Ts) → Calls Try.prog 43 #[ptr b, ptr c1] w1 (CloPost B w1 p b left' acts' L' x' Ts' r)) :
    Calls Try.prog 36 #[ptr p, .string s, .func (.func 43) #[] #[ptr c1]] w (StPost B w p left' acts' (withL L' s x') Ts' r) := by
  have HR := Aside0.mk (refuse_calls h)
  rw [show refuseE left = 0 from if_neg hl] at HR
  obtain ⟨mb, A, c, c0, hrun, -, hA, hB⟩ := look_hit h hs hx true
  have HA := Aside0.mk hA
  have HB := Aside0.mk hB
  have HKK := Aside0.mk HK
  have HS := Aside0.mk hs
  have HN := Aside0.mk hn
  have hu := Try.underlying67
  clear h hA hB HK hs hn hl hx
  go_enter Try.func36, Try.ntmps36
  go_wp2_with fail
  refine HR.out.mono ?_
  rintro e w1 ⟨rfl, rfl⟩
  go_wp2_with fail
  generalize w.alloc (.cells #[.slice A x.f1.length c, .int .i64 x.f2] 67) = w2 at HA HB ⊢
  generalize w.heap.size = b at HA ⊢
  refine (HKK.out A c b w2 HA.out).mono ?_
  rintro e w3 ⟨A', c', rfl, hA, hB⟩
  have HA3 := Aside0.mk hA
  have HB3 := Aside0.mk (HB.out.trans hB)
  clear hA hB HA HB HKK HR hrun c0
  obtain ⟨mb2, d0, hit, miss⟩ := look_run HA3.out HS.out
  cases hf : findF L' s.data.toList with
  | none =>
    have hrun := miss hf
    have HW : Aside0 (withL L' s x' = L') := ⟨by unfold withL; rw [hf]; rfl⟩
    have HB4 := Aside0.mk (HB3.out.alloc HA3.out.size (.cells #[.slice none 0 0, .int .i64 0] 67))
    have HA4 := Aside0.mk (HA3.out.alloc (.cells #[.slice none 0 0, .int .i64 0] 67))
    clear hit miss hf
    go_wp2_with fail
    go_ret
    exact ⟨rfl, by rw [HW.out]; exact store_shut HA4.out, HB4.out⟩
  | some y =>
    obtain ⟨A2, c2, hrun⟩ := hit y hf
    have HW : Aside0 (withL L' s x' = setF L' ⟨s, x'.f1, x'.f2⟩) := ⟨by unfold withL; rw [hf]; rfl⟩
    have HB4 := Aside0.mk (HB3.out.alloc HA3.out.size (.cells #[.slice A2 y.f1.length c2, .int .i64 y.f2] 67))
    have HA4 := Aside0.mk (HA3.out.alloc (.cells #[.slice A2 y.f1.length c2, .int .i64 y.f2] 67))
    clear hit miss hf
    go_wp2_with fail
    generalize w3.alloc (.cells #[.slice A2 y.f1.length c2, .int .i64 y.f2] 67) = w4 at HA4 HB4 ⊢
    clear d0 hrun HA3 HB3
    obtain ⟨mb3, w5, e0, hput, hA5, hB5⟩ := put_run HA4.out.drew HS.out HN.out
    obtain ⟨b0, b1, bf, -, -⟩ := open_cells HA4.out
    dsimp only at b0 b1
    have e0' : w4.cell? ⟨p, 0, none⟩ = some (.map (some mb3)) := e0
    have HA5 := Aside0.mk hA5
    have HB5 := Aside0.mk ((HB4.out.trans (below_drew (Below.refl _ _))).trans hB5)
    clear hA5 hB5 bf e0
    refine start_ (n := 7) (S := fun w' => w'.cell? ⟨p, 0, none⟩ = some (.map (some mb3)) ∧ w'.cell? ⟨b, 0, none⟩ = some (.slice A' x'.f1.length c') ∧ w'.cell? ⟨b, 1, none⟩ = some (.int .i64 x'.f2)) (ds := [6]) #[false, false, false, false, false, false, false] (by kernel_rfl) rfl rfl ⟨e0', b0, b1⟩ (fun hHeld => ?_)
    refine pure_ (i := 0) (N := some 41) (v := ?_) (a' := ?_) #[true, false, false, false, false, false, false] rfl rfl (by kernel_rfl) (fun _ _ _ h => h) (Or.inl ⟨by rfl, ?_⟩) ?_ ?_
    rotate_left
    · intro w'
      go_simp
      with_reducible rfl
    rotate_left
    · simp only [Act.put, List.setIfInBounds_toArray, List.set_cons_zero, List.set_cons_succ, i64_w, i32_w]
      rfl
    refine pure_ (i := 1) (N := some 42) (v := ?_) (a' := ?_) #[true, true, false, false, false, false, false] rfl rfl (by kernel_rfl) (fun _ _ _ h => h) (Or.inl ⟨by rfl, ?_⟩) ?_ ?_
    rotate_left
    · intro w'
      go_simp
      with_reducible rfl
    rotate_left
    · simp only [Act.put, List.setIfInBounds_toArray, List.set_cons_zero, List.set_cons_succ, i64_w, i32_w]
      rfl
    refine pure_ (i := 2) (N := some 43) (v := ?_) (a' := ?_) #[true, true, true, false, false, false, false] rfl rfl (by kernel_rfl) (fun _ _ _ h => h) (Or.inl ⟨by rfl, ?_⟩) ?_ ?_
    rotate_left
    · intro w'
      go_simp
      with_reducible rfl
    rotate_left
    · simp only [Act.put, List.setIfInBounds_toArray, List.set_cons_zero, List.set_cons_succ, i64_w, i32_w]
      rfl
    refine pure_ (i := 4) (N := some 45) (v := ?_) (a' := ?_) #[true, true, true, false, true, false, false] rfl rfl (by kernel_rfl) (fun _ _ _ h => h) (Or.inl ⟨by rfl, ?_⟩) ?_ ?_
    rotate_left
    · intro w'
      go_simp
      with_reducible rfl
    rotate_left
    · simp only [Act.put, List.setIfInBounds_toArray, List.set_cons_zero, List.set_cons_succ, i64_w, i32_w]
      rfl
    refine take_ (i := 3) (N := some 44) (v := ?_) (a' := ?_) #[true, true, true, true, true, false, false] rfl rfl (by kernel_rfl) (fun _ _ _ h => h) (Or.inl ⟨by rfl, ?_⟩) hHeld ?_ ?_
    rotate_left
    · rintro w' ⟨s0, s1, s2⟩
      go_simp
      with_reducible rfl
    rotate_left
    · simp only [Act.put, List.setIfInBounds_toArray, List.set_cons_zero, List.set_cons_succ, i64_w, i32_w]
      rfl
    refine take_ (i := 5) (N := some 46) (v := ?_) (a' := ?_) #[true, true, true, true, true, true, false] rfl rfl (by kernel_rfl) (fun _ _ _ h => h) (Or.inl ⟨by rfl, ?_⟩) hHeld ?_ ?_
    rotate_left
    · rintro w' ⟨s0, s1, s2⟩
      go_simp
      with_reducible rfl
    rotate_left
    · simp only [Act.put, List.setIfInBounds_toArray, List.set_cons_zero, List.set_cons_succ, i64_w, i32_w]
      rfl
    refine last_ (i := 6) (N := none) #[true, true, true, true, true, true, true] rfl rfl (by kernel_rfl) (by decide) (fun K hK => ?_)
    refine skip_ (w1 := ?_) (by rfl) rfl ?_ ?_
    rotate_left
    · go_simp
      rfl
    refine hK.out _ _ ?_
    clear hK K
    refine done_ (by kernel_rfl) ?_

    go_wp2_with fail
    go_ret
    exact ⟨rfl, by rw [HW.out]; exact store_shut HA5.out, HB5.out⟩

set_option maxHeartbeats 4000000 in
set_option maxRecDepth 100000 in
theorem with_size {B : Nat} {w : World} {p : Nat} {left acts left' acts' : Int} {L L' : List SF} {Ts Ts' : List Th} {r : Int} {x x' : SF} {c1 : Nat} (h : Has B w (storeT p left acts L none :: Ts)) {s : ByteArray} (hs : s.size ≤ 9223372036854775807) (hx : findF L s.data.toList = some x) (hl : left ≠ 0) (hn : L'.length < 1000000)
    (HK : ∀ (A : Option Addr) (c b : Nat) (w1 : World), Has B w1 (storeT p left acts L (some ⟨b, x, A, c⟩) :: Ts) → Calls Try.prog 54 #[ptr b, ptr c1] w1 (CloPost B w1 p b left' acts' L' x' Ts' r)) :
    Calls Try.prog 36 #[ptr p, .string s, .func (.func 54) #[] #[ptr c1]] w (StPost B w p left' acts' (withL L' s x') Ts' r) := by
  have HR := Aside0.mk (refuse_calls h)
  rw [show refuseE left = 0 from if_neg hl] at HR
  obtain ⟨mb, A, c, c0, hrun, -, hA, hB⟩ := look_hit h hs hx true
  have HA := Aside0.mk hA
  have HB := Aside0.mk hB
  have HKK := Aside0.mk HK
  have HS := Aside0.mk hs
  have HN := Aside0.mk hn
  have hu := Try.underlying67
  clear h hA hB HK hs hn hl hx
  go_enter Try.func36, Try.ntmps36
  go_wp2_with fail
  refine HR.out.mono ?_
  rintro e w1 ⟨rfl, rfl⟩
  go_wp2_with fail
  generalize w.alloc (.cells #[.slice A x.f1.length c, .int .i64 x.f2] 67) = w2 at HA HB ⊢
  generalize w.heap.size = b at HA ⊢
  refine (HKK.out A c b w2 HA.out).mono ?_
  rintro e w3 ⟨A', c', rfl, hA, hB⟩
  have HA3 := Aside0.mk hA
  have HB3 := Aside0.mk (HB.out.trans hB)
  clear hA hB HA HB HKK HR hrun c0
  obtain ⟨mb2, d0, hit, miss⟩ := look_run HA3.out HS.out
  cases hf : findF L' s.data.toList with
  | none =>
    have hrun := miss hf
    have HW : Aside0 (withL L' s x' = L') := ⟨by unfold withL; rw [hf]; rfl⟩
    have HB4 := Aside0.mk (HB3.out.alloc HA3.out.size (.cells #[.slice none 0 0, .int .i64 0] 67))
    have HA4 := Aside0.mk (HA3.out.alloc (.cells #[.slice none 0 0, .int .i64 0] 67))
    clear hit miss hf
    go_wp2_with fail
    go_ret
    exact ⟨rfl, by rw [HW.out]; exact store_shut HA4.out, HB4.out⟩
  | some y =>
    obtain ⟨A2, c2, hrun⟩ := hit y hf
    have HW : Aside0 (withL L' s x' = setF L' ⟨s, x'.f1, x'.f2⟩) := ⟨by unfold withL; rw [hf]; rfl⟩
    have HB4 := Aside0.mk (HB3.out.alloc HA3.out.size (.cells #[.slice A2 y.f1.length c2, .int .i64 y.f2] 67))
    have HA4 := Aside0.mk (HA3.out.alloc (.cells #[.slice A2 y.f1.length c2, .int .i64 y.f2] 67))
    clear hit miss hf
    go_wp2_with fail
    generalize w3.alloc (.cells #[.slice A2 y.f1.length c2, .int .i64 y.f2] 67) = w4 at HA4 HB4 ⊢
    clear d0 hrun HA3 HB3
    obtain ⟨mb3, w5, e0, hput, hA5, hB5⟩ := put_run HA4.out.drew HS.out HN.out
    obtain ⟨b0, b1, bf, -, -⟩ := open_cells HA4.out
    dsimp only at b0 b1
    have e0' : w4.cell? ⟨p, 0, none⟩ = some (.map (some mb3)) := e0
    have HA5 := Aside0.mk hA5
    have HB5 := Aside0.mk ((HB4.out.trans (below_drew (Below.refl _ _))).trans hB5)
    clear hA5 hB5 bf e0
    refine start_ (n := 7) (S := fun w' => w'.cell? ⟨p, 0, none⟩ = some (.map (some mb3)) ∧ w'.cell? ⟨b, 0, none⟩ = some (.slice A' x'.f1.length c') ∧ w'.cell? ⟨b, 1, none⟩ = some (.int .i64 x'.f2)) (ds := [6]) #[false, false, false, false, false, false, false] (by kernel_rfl) rfl rfl ⟨e0', b0, b1⟩ (fun hHeld => ?_)
    refine pure_ (i := 0) (N := some 41) (v := ?_) (a' := ?_) #[true, false, false, false, false, false, false] rfl rfl (by kernel_rfl) (fun _ _ _ h => h) (Or.inl ⟨by rfl, ?_⟩) ?_ ?_
    rotate_left
    · intro w'
      go_simp
      with_reducible rfl
    rotate_left
    · simp only [Act.put, List.setIfInBounds_toArray, List.set_cons_zero, List.set_cons_succ, i64_w, i32_w]
      rfl
    refine pure_ (i := 1) (N := some 42) (v := ?_) (a' := ?_) #[true, true, false, false, false, false, false] rfl rfl (by kernel_rfl) (fun _ _ _ h => h) (Or.inl ⟨by rfl, ?_⟩) ?_ ?_
    rotate_left
    · intro w'
      go_simp
      with_reducible rfl
    rotate_left
    · simp only [Act.put, List.setIfInBounds_toArray, List.set_cons_zero, List.set_cons_succ, i64_w, i32_w]
      rfl
    refine pure_ (i := 2) (N := some 43) (v := ?_) (a' := ?_) #[true, true, true, false, false, false, false] rfl rfl (by kernel_rfl) (fun _ _ _ h => h) (Or.inl ⟨by rfl, ?_⟩) ?_ ?_
    rotate_left
    · intro w'
      go_simp
      with_reducible rfl
    rotate_left
    · simp only [Act.put, List.setIfInBounds_toArray, List.set_cons_zero, List.set_cons_succ, i64_w, i32_w]
      rfl
    refine pure_ (i := 4) (N := some 45) (v := ?_) (a' := ?_) #[true, true, true, false, true, false, false] rfl rfl (by kernel_rfl) (fun _ _ _ h => h) (Or.inl ⟨by rfl, ?_⟩) ?_ ?_
    rotate_left
    · intro w'
      go_simp
      with_reducible rfl
    rotate_left
    · simp only [Act.put, List.setIfInBounds_toArray, List.set_cons_zero, List.set_cons_succ, i64_w, i32_w]
      rfl
    refine take_ (i := 3) (N := some 44) (v := ?_) (a' := ?_) #[true, true, true, true, true, false, false] rfl rfl (by kernel_rfl) (fun _ _ _ h => h) (Or.inl ⟨by rfl, ?_⟩) hHeld ?_ ?_
    rotate_left
    · rintro w' ⟨s0, s1, s2⟩
      go_simp
      with_reducible rfl
    rotate_left
    · simp only [Act.put, List.setIfInBounds_toArray, List.set_cons_zero, List.set_cons_succ, i64_w, i32_w]
      rfl
    refine take_ (i := 5) (N := some 46) (v := ?_) (a' := ?_) #[true, true, true, true, true, true, false] rfl rfl (by kernel_rfl) (fun _ _ _ h => h) (Or.inl ⟨by rfl, ?_⟩) hHeld ?_ ?_
    rotate_left
    · rintro w' ⟨s0, s1, s2⟩
      go_simp
      with_reducible rfl
    rotate_left
    · simp only [Act.put, List.setIfInBounds_toArray, List.set_cons_zero, List.set_cons_succ, i64_w, i32_w]
      rfl
    refine last_ (i := 6) (N := none) #[true, true, true, true, true, true, true] rfl rfl (by kernel_rfl) (by decide) (fun K hK => ?_)
    refine skip_ (w1 := ?_) (by rfl) rfl ?_ ?_
    rotate_left
    · go_simp
      rfl
    refine hK.out _ _ ?_
    clear hK K
    refine done_ (by kernel_rfl) ?_

    go_wp2_with fail
    go_ret
    exact ⟨rfl, by rw [HW.out]; exact store_shut HA5.out, HB5.out⟩
end Go.Proofs.Ytibnakpefjjoiaa.Fs
