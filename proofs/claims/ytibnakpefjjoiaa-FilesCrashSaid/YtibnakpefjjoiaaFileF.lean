/- A store of files: a file is removed, renamed, cut, read: walked. No law is proved here. -/
import Derived.Test.YtibnakpefjjoiaaFileE
import Derived.Test.YtibnakpefjjoiaaQ1
namespace Go.Proofs.Ytibnakpefjjoiaa.Fs
open Go.RowKit Go.Proofs.YtibnakpefjjoiaaW.PrintWords Go.Proofs.YtibnakpefjjoiaaW.PrintLast Go.Proofs.YtibnakpefjjoiaaW.PrintMore Go.Proofs.Ytibnakpefjjoiaa.Q Go.Proofs.Ytibnakpefjjoiaa.Own
set_option linter.unusedVariables false
set_option linter.unusedSimpArgs false
attribute [local go_sem ↓] Go.wp_at_zero Go.wp_at_succ

abbrev stT (c : Nat) (p : Nat) : Th := boxT c #[ptr p] 24
abbrev nmT (c : Nat) (s : ByteArray) : Th := boxT c #[.string s] 9
theorem box_mem {B : Nat} {w : World} {Ts : List Th} {b : Nat} {cs : Array Value} {t : TypeId} (h : Has B w Ts) (hm : boxT b cs t ∈ Ts) : ∀ i, w.cell? ⟨b, i, none⟩ = cs[i]? := (Has.box_cell h hm).1
set_option maxHeartbeats 2000000 in
set_option maxRecDepth 100000 in
theorem clo_remove {B : Nat} {w : World} {p b c1 c2 : Nat} {left acts : Int} {L : List SF} {x : SF} {A : Option Addr} {c : Nat} {Ts : List Th} {s : ByteArray} (hs : s.size ≤ 9223372036854775807) (h : Has B w (storeT p left acts L (some ⟨b, x, A, c⟩) :: stT c1 p :: nmT c2 s :: Ts)) (ha : 0 ≤ acts) (hb : acts < 1000000) (hw : -1 ≤ left) (hw2 : left ≤ 9223372036854775807) :
    Calls Try.prog 42 #[ptr b, ptr c1, ptr c2] w (CloPost B w p b (leftF left) (acts + 1) (cutF L s.data.toList) x (stT c1 p :: nmT c2 s :: Ts) 0) := by
  have q1 : w.cell? ⟨c1, 0, none⟩ = some (ptr p) := box_mem h (b := c1) (cs := #[ptr p]) (t := 24) (by simp) 0
  have q2 : w.cell? ⟨c2, 0, none⟩ = some (.string s) := box_mem h (b := c2) (cs := #[.string s]) (t := 9) (by simp) 0
  obtain ⟨mb, w2, c0, hdel, hA, hB⟩ := del_run h.drew hs 0
  have q0 : w.cell? ⟨p, 0, none⟩ = some (.map (some mb)) := c0
  have r1 : w2.cell? ⟨c1, 0, none⟩ = some (ptr p) := box_mem hA (b := c1) (cs := #[ptr p]) (t := 24) (by simp) 0
  have r2 : w2.cell? ⟨c2, 0, none⟩ = some (.string s) := box_mem hA (b := c2) (cs := #[.string s]) (t := 9) (by simp) 0
  have HB : Aside0 (Below B w w2) := ⟨Below.trans (below_drew (Below.refl _ _)) hB⟩
  have HACT := Aside0.mk (act_calls hA ha hb hw hw2)
  clear h hA hB ha hb hw hw2 c0 hs
  go_enter Try.func42, Try.ntmps42
  go_wp2_with fail
  refine start_ (n := 6) (S := fun w' => w'.cell? ⟨c1, 0, none⟩ = some (ptr p) ∧ w'.cell? ⟨p, 0, none⟩ = some (.map (some mb)) ∧ w'.cell? ⟨c2, 0, none⟩ = some (.string s)) (ds := [5]) #[false, false, false, false, false, false] (by kernel_rfl) rfl rfl ⟨q1, q0, q2⟩ (fun hHeld => ?_)
  refine take_ (i := 0) (N := some 5) (v := ?_) (a' := ?_) #[true, false, false, false, false, false] rfl rfl (by kernel_rfl) (fun _ _ _ h => h) (Or.inl ⟨by rfl, ?_⟩) hHeld ?_ ?_
  rotate_left
  · rintro w' ⟨s0, s1, s2⟩
    go_simp
    with_reducible rfl
  rotate_left
  · simp only [Act.put, List.setIfInBounds_toArray, List.set_cons_zero, List.set_cons_succ, i64_w, i32_w]
    rfl
  refine pure_ (i := 1) (N := some 6) (v := ?_) (a' := ?_) #[true, true, false, false, false, false] rfl rfl (by kernel_rfl) (fun _ _ _ h => h) (Or.inl ⟨by rfl, ?_⟩) ?_ ?_
  rotate_left
  · intro w'
    go_simp
    with_reducible rfl
  rotate_left
  · simp only [Act.put, List.setIfInBounds_toArray, List.set_cons_zero, List.set_cons_succ, i64_w, i32_w]
    rfl
  refine pure_ (i := 2) (N := some 7) (v := ?_) (a' := ?_) #[true, true, true, false, false, false] rfl rfl (by kernel_rfl) (fun _ _ _ h => h) (Or.inl ⟨by rfl, ?_⟩) ?_ ?_
  rotate_left
  · intro w'
    go_simp
    with_reducible rfl
  rotate_left
  · simp only [Act.put, List.setIfInBounds_toArray, List.set_cons_zero, List.set_cons_succ, i64_w, i32_w]
    rfl
  refine take_ (i := 3) (N := some 8) (v := ?_) (a' := ?_) #[true, true, true, true, false, false] rfl rfl (by kernel_rfl) (fun _ _ _ h => h) (Or.inl ⟨by rfl, ?_⟩) hHeld ?_ ?_
  rotate_left
  · rintro w' ⟨s0, s1, s2⟩
    go_simp
    with_reducible rfl
  rotate_left
  · simp only [Act.put, List.setIfInBounds_toArray, List.set_cons_zero, List.set_cons_succ, i64_w, i32_w]
    rfl
  refine take_ (i := 4) (N := some 9) (v := ?_) (a' := ?_) #[true, true, true, true, true, false] rfl rfl (by kernel_rfl) (fun _ _ _ h => h) (Or.inl ⟨by rfl, ?_⟩) hHeld ?_ ?_
  rotate_left
  · rintro w' ⟨s0, s1, s2⟩
    go_simp
    with_reducible rfl
  rotate_left
  · simp only [Act.put, List.setIfInBounds_toArray, List.set_cons_zero, List.set_cons_succ, i64_w, i32_w]
    rfl
  refine last_ (i := 5) (N := none) #[true, true, true, true, true, true] rfl rfl (by kernel_rfl) (by decide) (fun K hK => ?_)
  refine value_ (w1 := ?_) (v := ?_) (by rfl) rfl ?_ ?_
  rotate_left 2
  · go_simp
    constructor
    · rfl
    · rfl
  refine hK.out _ _ ?_
  clear hK K
  refine done_ (by kernel_rfl) ?_

  clear q0 q1 q2 hdel
  go_wp2_with fail
  refine HACT.out.mono ?_
  rintro e w3 ⟨rfl, hA, hB⟩
  have HA3 := Aside0.mk hA
  have HB3 := Aside0.mk (HB.out.trans hB)
  clear hA hB
  go_wp2_with fail
  go_ret
  exact ⟨A, c, rfl, HA3.out, HB3.out⟩
def mayF (s : ByteArray) : Bool := decide (1 ≤ s.size ∧ s.size ≤ 32)
theorem may_calls {s : ByteArray} (hs : s.size ≤ 9223372036854775807) (w : World) : Calls Try.prog 31 #[.string s] w fun e w' => e = .returned (.bool (mayF s)) ∧ Drawn0 w w' := by
  refine files_may.calls s _ w ?_
  unfold files_may.f mayF
  by_cases h0 : s.toList = []
  · rw [if_pos h0]
    have : s.size = 0 := by rw [ByteArray.toList_eq] at h0; show s.data.size = 0; rw [← Array.length_toList, h0]; rfl
    rw [decide_eq_false (by omega)]
  · rw [if_neg h0]
    have : s.size ≠ 0 := fun e => h0 (by rw [ByteArray.toList_eq]; exact List.eq_nil_of_length_eq_zero (by rw [Array.length_toList]; exact e))
    congr 1
    rw [decide_eq_decide]
    omega
set_option maxHeartbeats 4000000 in
set_option maxRecDepth 100000 in
theorem clo_rename {B : Nat} {w : World} {p b c1 c2 c3 : Nat} {left acts : Int} {L : List SF} {x : SF} {A : Option Addr} {c : Nat} {Ts : List Th} {s old : ByteArray} (hs : s.size ≤ 9223372036854775807) (ho : old.size ≤ 9223372036854775807) (h : Has B w (storeT p left acts L (some ⟨b, x, A, c⟩) :: nmT c1 s :: stT c2 p :: nmT c3 old :: Ts)) (ha : 0 ≤ acts) (hb : acts < 1000000) (hw : -1 ≤ left) (hw2 : left ≤ 9223372036854775807) (hn : L.length < 1000000) (hm : mayF s = true) :
    Calls Try.prog 40 #[ptr b, ptr c1, ptr c2, ptr c3] w (CloPost B w p b (leftF left) (acts + 1) (setF (cutF L old.data.toList) ⟨s, x.f1, x.f2⟩) x (nmT c1 s :: stT c2 p :: nmT c3 old :: Ts) 0) := by
  have HMY := Aside0.mk (may_calls hs w)
  rw [hm] at HMY
  have m1 : w.cell? ⟨c1, 0, none⟩ = some (.string s) := box_mem h (b := c1) (cs := #[.string s]) (t := 9) (by simp) 0
  have HH := Aside0.mk h
  have HS := Aside0.mk hs
  have HO := Aside0.mk ho
  have HL : Aside0 ((cutF L old.data.toList).length < 1000000) := ⟨by
    have := List.length_filter_le (fun y : SF => nameL y != old.data.toList) L
    unfold cutF
    omega⟩
  clear h hs ho hm hn
  go_enter Try.func40, Try.ntmps40
  go_wp2_with fail
  refine HMY.out.mono ?_
  rintro e w1 ⟨rfl, hd⟩
  obtain ⟨nd, rfl⟩ := hd.out
  have HH1 := Aside0.mk (HH.out.drewN nd)
  have HB1 : Aside0 (Below B w (w.drewN nd)) := ⟨⟨rfl, rfl, rfl, Nat.le_refl _, fun _ _ => rfl⟩⟩
  clear hd m1 HMY HH
  generalize w.drewN nd = w1 at HH1 HB1 ⊢
  go_wp2_with fail
  have m2 : w1.cell? ⟨c2, 0, none⟩ = some (ptr p) := box_mem HH1.out (b := c2) (cs := #[ptr p]) (t := 24) (by simp) 0
  have m3 : w1.cell? ⟨c3, 0, none⟩ = some (.string old) := box_mem HH1.out (b := c3) (cs := #[.string old]) (t := 9) (by simp) 0
  obtain ⟨mb, w2, c0, hdel, hA, hB⟩ := del_run HH1.out.drew HO.out 0
  have q0 : w1.cell? ⟨p, 0, none⟩ = some (.map (some mb)) := c0
  have HA2 := Aside0.mk hA
  have HB2 := Aside0.mk ((HB1.out.trans (below_drew (Below.refl _ _))).trans hB)
  clear hA hB c0
  refine start_ (n := 6) (S := fun w' => w'.cell? ⟨c2, 0, none⟩ = some (ptr p) ∧ w'.cell? ⟨p, 0, none⟩ = some (.map (some mb)) ∧ w'.cell? ⟨c3, 0, none⟩ = some (.string old)) (ds := [5]) #[false, false, false, false, false, false] (by kernel_rfl) rfl rfl ⟨m2, q0, m3⟩ (fun hHeld => ?_)
  refine take_ (i := 0) (N := some 9) (v := ?_) (a' := ?_) #[true, false, false, false, false, false] rfl rfl (by kernel_rfl) (fun _ _ _ h => h) (Or.inl ⟨by rfl, ?_⟩) hHeld ?_ ?_
  rotate_left
  · rintro w' ⟨s0, s1, s2⟩
    go_simp
    with_reducible rfl
  rotate_left
  · simp only [Act.put, List.setIfInBounds_toArray, List.set_cons_zero, List.set_cons_succ, i64_w, i32_w]
    rfl
  refine pure_ (i := 1) (N := some 10) (v := ?_) (a' := ?_) #[true, true, false, false, false, false] rfl rfl (by kernel_rfl) (fun _ _ _ h => h) (Or.inl ⟨by rfl, ?_⟩) ?_ ?_
  rotate_left
  · intro w'
    go_simp
    with_reducible rfl
  rotate_left
  · simp only [Act.put, List.setIfInBounds_toArray, List.set_cons_zero, List.set_cons_succ, i64_w, i32_w]
    rfl
  refine pure_ (i := 2) (N := some 11) (v := ?_) (a' := ?_) #[true, true, true, false, false, false] rfl rfl (by kernel_rfl) (fun _ _ _ h => h) (Or.inl ⟨by rfl, ?_⟩) ?_ ?_
  rotate_left
  · intro w'
    go_simp
    with_reducible rfl
  rotate_left
  · simp only [Act.put, List.setIfInBounds_toArray, List.set_cons_zero, List.set_cons_succ, i64_w, i32_w]
    rfl
  refine take_ (i := 3) (N := some 12) (v := ?_) (a' := ?_) #[true, true, true, true, false, false] rfl rfl (by kernel_rfl) (fun _ _ _ h => h) (Or.inl ⟨by rfl, ?_⟩) hHeld ?_ ?_
  rotate_left
  · rintro w' ⟨s0, s1, s2⟩
    go_simp
    with_reducible rfl
  rotate_left
  · simp only [Act.put, List.setIfInBounds_toArray, List.set_cons_zero, List.set_cons_succ, i64_w, i32_w]
    rfl
  refine take_ (i := 4) (N := some 13) (v := ?_) (a' := ?_) #[true, true, true, true, true, false] rfl rfl (by kernel_rfl) (fun _ _ _ h => h) (Or.inl ⟨by rfl, ?_⟩) hHeld ?_ ?_
  rotate_left
  · rintro w' ⟨s0, s1, s2⟩
    go_simp
    with_reducible rfl
  rotate_left
  · simp only [Act.put, List.setIfInBounds_toArray, List.set_cons_zero, List.set_cons_succ, i64_w, i32_w]
    rfl
  refine last_ (i := 5) (N := none) #[true, true, true, true, true, true] rfl rfl (by kernel_rfl) (by decide) (fun K hK => ?_)
  refine value_ (w1 := ?_) (v := ?_) (by rfl) rfl ?_ ?_
  rotate_left 2
  · go_simp
    constructor
    · rfl
    · rfl
  refine hK.out _ _ ?_
  clear hK K
  refine done_ (by kernel_rfl) ?_

  clear m2 q0 m3 hdel HH1 HB1
  go_wp2_with fail
  have m1 : w2.cell? ⟨c1, 0, none⟩ = some (.string s) := box_mem HA2.out (b := c1) (cs := #[.string s]) (t := 9) (by simp) 0
  have m2 : w2.cell? ⟨c2, 0, none⟩ = some (ptr p) := box_mem HA2.out (b := c2) (cs := #[ptr p]) (t := 24) (by simp) 0
  obtain ⟨b0, b1, -, -, -⟩ := open_cells HA2.out
  dsimp only at b0 b1
  obtain ⟨mb3, w5, e0, hput, hA, hB⟩ := put_run HA2.out.drew HS.out HL.out
  have q0 : w2.cell? ⟨p, 0, none⟩ = some (.map (some mb3)) := e0
  have r2 : w5.cell? ⟨c2, 0, none⟩ = some (ptr p) := box_mem hA (b := c2) (cs := #[ptr p]) (t := 24) (by simp) 0
  have HB5 := Aside0.mk ((HB2.out.trans (below_drew (Below.refl _ _))).trans hB)
  have HACT := Aside0.mk (act_calls hA ha hb hw hw2)
  clear hA hB e0
  refine start_ (n := 9) (S := fun w' => w'.cell? ⟨c2, 0, none⟩ = some (ptr p) ∧ w'.cell? ⟨p, 0, none⟩ = some (.map (some mb3)) ∧ w'.cell? ⟨c1, 0, none⟩ = some (.string s) ∧ w'.cell? ⟨b, 0, none⟩ = some (.slice A x.f1.length c) ∧ w'.cell? ⟨b, 1, none⟩ = some (.int .i64 x.f2)) (ds := [8]) #[false, false, false, false, false, false, false, false, false] (by kernel_rfl) rfl rfl ⟨m2, q0, m1, b0, b1⟩ (fun hHeld => ?_)
  refine pure_ (i := 5) (N := some 19) (v := ?_) (a' := ?_) #[false, false, false, false, false, true, false, false, false] rfl rfl (by kernel_rfl) (fun _ _ _ h => h) (Or.inl ⟨by rfl, ?_⟩) ?_ ?_
  rotate_left
  · intro w'
    go_simp
    with_reducible rfl
  rotate_left
  · simp only [Act.put, List.setIfInBounds_toArray, List.set_cons_zero, List.set_cons_succ, i64_w, i32_w]
    rfl
  refine pure_ (i := 6) (N := some 20) (v := ?_) (a' := ?_) #[false, false, false, false, false, true, true, false, false] rfl rfl (by kernel_rfl) (fun _ _ _ h => h) (Or.inl ⟨by rfl, ?_⟩) ?_ ?_
  rotate_left
  · intro w'
    go_simp
    with_reducible rfl
  rotate_left
  · simp only [Act.put, List.setIfInBounds_toArray, List.set_cons_zero, List.set_cons_succ, i64_w, i32_w]
    rfl
  refine take_ (i := 0) (N := some 14) (v := ?_) (a' := ?_) #[true, false, false, false, false, true, true, false, false] rfl rfl (by kernel_rfl) (fun _ _ _ h => h) (Or.inl ⟨by rfl, ?_⟩) hHeld ?_ ?_
  rotate_left
  · rintro w' ⟨s0, s1, s2, s3, s4⟩
    go_simp
    with_reducible rfl
  rotate_left
  · simp only [Act.put, List.setIfInBounds_toArray, List.set_cons_zero, List.set_cons_succ, i64_w, i32_w]
    rfl
  refine pure_ (i := 1) (N := some 15) (v := ?_) (a' := ?_) #[true, true, false, false, false, true, true, false, false] rfl rfl (by kernel_rfl) (fun _ _ _ h => h) (Or.inl ⟨by rfl, ?_⟩) ?_ ?_
  rotate_left
  · intro w'
    go_simp
    with_reducible rfl
  rotate_left
  · simp only [Act.put, List.setIfInBounds_toArray, List.set_cons_zero, List.set_cons_succ, i64_w, i32_w]
    rfl
  refine pure_ (i := 2) (N := some 16) (v := ?_) (a' := ?_) #[true, true, true, false, false, true, true, false, false] rfl rfl (by kernel_rfl) (fun _ _ _ h => h) (Or.inl ⟨by rfl, ?_⟩) ?_ ?_
  rotate_left
  · intro w'
    go_simp
    with_reducible rfl
  rotate_left
  · simp only [Act.put, List.setIfInBounds_toArray, List.set_cons_zero, List.set_cons_succ, i64_w, i32_w]
    rfl
  refine take_ (i := 3) (N := some 17) (v := ?_) (a' := ?_) #[true, true, true, true, false, true, true, false, false] rfl rfl (by kernel_rfl) (fun _ _ _ h => h) (Or.inl ⟨by rfl, ?_⟩) hHeld ?_ ?_
  rotate_left
  · rintro w' ⟨s0, s1, s2, s3, s4⟩
    go_simp
    with_reducible rfl
  rotate_left
  · simp only [Act.put, List.setIfInBounds_toArray, List.set_cons_zero, List.set_cons_succ, i64_w, i32_w]
    rfl
  refine take_ (i := 4) (N := some 18) (v := ?_) (a' := ?_) #[true, true, true, true, true, true, true, false, false] rfl rfl (by kernel_rfl) (fun _ _ _ h => h) (Or.inl ⟨by rfl, ?_⟩) hHeld ?_ ?_
  rotate_left
  · rintro w' ⟨s0, s1, s2, s3, s4⟩
    go_simp
    with_reducible rfl
  rotate_left
  · simp only [Act.put, List.setIfInBounds_toArray, List.set_cons_zero, List.set_cons_succ, i64_w, i32_w]
    rfl
  refine take_ (i := 7) (N := some 21) (v := ?_) (a' := ?_) #[true, true, true, true, true, true, true, true, false] rfl rfl (by kernel_rfl) (fun _ _ _ h => h) (Or.inl ⟨by rfl, ?_⟩) hHeld ?_ ?_
  rotate_left
  · rintro w' ⟨s0, s1, s2, s3, s4⟩
    go_simp
    with_reducible rfl
  rotate_left
  · simp only [Act.put, List.setIfInBounds_toArray, List.set_cons_zero, List.set_cons_succ, i64_w, i32_w]
    rfl
  refine last_ (i := 8) (N := none) #[true, true, true, true, true, true, true, true, true] rfl rfl (by kernel_rfl) (by decide) (fun K hK => ?_)
  refine skip_ (w1 := ?_) (by rfl) rfl ?_ ?_
  rotate_left
  · go_simp
    rfl
  refine hK.out _ _ ?_
  clear hK K
  refine done_ (by kernel_rfl) ?_

  clear m1 m2 q0 b0 b1 hput HA2 HB2
  go_wp2_with fail
  refine HACT.out.mono ?_
  rintro e w6 ⟨rfl, hA, hB⟩
  have HA6 := Aside0.mk hA
  have HB6 := Aside0.mk (HB5.out.trans hB)
  clear hA hB
  go_wp2_with fail
  go_ret
  exact ⟨A, c, rfl, HA6.out, HB6.out⟩
set_option maxHeartbeats 2000000 in
set_option maxRecDepth 100000 in
theorem clo_rename_bad {B : Nat} {w : World} {p b c1 c2 c3 : Nat} {left acts : Int} {L : List SF} {x : SF} {A : Option Addr} {c : Nat} {Ts : List Th} {s old : ByteArray} (hs : s.size ≤ 9223372036854775807) (h : Has B w (storeT p left acts L (some ⟨b, x, A, c⟩) :: nmT c1 s :: stT c2 p :: nmT c3 old :: Ts)) (hm : mayF s = false) :
    Calls Try.prog 40 #[ptr b, ptr c1, ptr c2, ptr c3] w (CloPost B w p b left acts L x (nmT c1 s :: stT c2 p :: nmT c3 old :: Ts) 2) := by
  have HMY := Aside0.mk (may_calls hs w)
  rw [hm] at HMY
  have m1 : w.cell? ⟨c1, 0, none⟩ = some (.string s) := box_mem h (b := c1) (cs := #[.string s]) (t := 9) (by simp) 0
  have HH := Aside0.mk h
  clear h hs hm
  go_enter Try.func40, Try.ntmps40
  go_wp2_with fail
  refine HMY.out.mono ?_
  rintro e w1 ⟨rfl, hd⟩
  obtain ⟨nd, rfl⟩ := hd.out
  go_wp2_with fail
  go_ret
  exact ⟨A, c, rfl, HH.out.drewN nd, ⟨rfl, rfl, rfl, Nat.le_refl _, fun _ _ => rfl⟩⟩
end Go.Proofs.Ytibnakpefjjoiaa.Fs
