/- Stepped on from instant to instant, alerts are what has held, since when, and when it was told: walked. -/
import Derived.Test.YtgfkdcckifdcpaaHoldC
namespace Go.Proofs.Ytgfkdcckifdcpaa.Hold
open Go.RowKit Go.Proofs.YtgfkdcckifdcpaaW.PrintWords Go.Proofs.YtgfkdcckifdcpaaW.PrintLast Go.Proofs.YtgfkdcckifdcpaaW.PrintMore Go.Proofs.Ytgfkdcckifdcpaa.Q Go.Proofs.Ytgfkdcckifdcpaa.Own Go.Proofs.Ytgfkdcckifdcpaa.Pure
set_option linter.unusedVariables false
set_option linter.unusedSimpArgs false
attribute [local go_sem ↓] Go.wp_at_zero Go.wp_at_succ

abbrev zeroA : Array Value := #[.int .u32 0, .string ⟨#[]⟩, .int .u8 0, .int .i64 0, .int .i64 0]
abbrev boxA (b : Nat) (r : Int) (s : ByteArray) (z : Int) (x y : Int) : Th := boxT b #[.int .u32 r, .string s, .int .u8 z, .int .i64 x, .int .i64 y] 36
theorem box_cells {B : Nat} {w : World} {As Bs : List Th} {b : Nat} {r z x y : Int} {s : ByteArray} (h : Has B w (As ++ boxA b r s z x y :: Bs)) : w.cell? ⟨b, 0, none⟩ = some (.int .u32 r) ∧ w.cell? ⟨b, 1, none⟩ = some (.string s) ∧ w.cell? ⟨b, 2, none⟩ = some (.int .u8 z) ∧ w.cell? ⟨b, 3, none⟩ = some (.int .i64 x) ∧ w.cell? ⟨b, 4, none⟩ = some (.int .i64 y) ∧ ∀ j, w.frozen? ⟨b, j, none⟩ = false := by
  obtain ⟨h1, h2, -, -⟩ := Has.box_cell h (b := b) (cs := #[.int .u32 r, .string s, .int .u8 z, .int .i64 x, .int .i64 y]) (t := 36) (by simp)
  exact ⟨h1 0, h1 1, h1 2, h1 3, h1 4, h2⟩
theorem zero_cells {B : Nat} {w : World} {Ts : List Th} (h : Has B w Ts) : (∀ j, j < 5 → ∃ v, (w.alloc (.cells zeroA 36)).cell? ⟨w.heap.size, j, none⟩ = some v) ∧ ∀ j, (w.alloc (.cells zeroA 36)).frozen? ⟨w.heap.size, j, none⟩ = false := by
  have h0 := h.box zeroA 36
  obtain ⟨h1, h2, -, -⟩ := h0.box_cell (b := w.heap.size) (cs := zeroA) (t := 36) (by simp)
  refine ⟨fun j hj => ?_, h2⟩
  rw [h1]
  match j, hj with
  | 0, _ => exact ⟨_, rfl⟩
  | 1, _ => exact ⟨_, rfl⟩
  | 2, _ => exact ⟨_, rfl⟩
  | 3, _ => exact ⟨_, rfl⟩
  | 4, _ => exact ⟨_, rfl⟩
  | n + 5, h => exact absurd h (by omega)
set_option maxHeartbeats 16000000 in
set_option maxRecDepth 100000 in
theorem hold_law {G : S32 → Prop} (a0 a1 a2 : Int) (A3 : Option Addr) (c3 : Nat) (l3 : List S32) (W : World) (hr3 : Kd.C k32 W A3 l3.length l3) (hc3 : l3.length ≤ c3) (w0 : (Lit.int .u32 a0).wf = true) (w1 : (Lit.int .i64 a1).wf = true) (w2 : (Lit.int .i64 a2).wf = true) (hm3 : l3.length ≤ 9223372036854775807) (y3 : l3.length * 24 ≤ 140737488351232) (hg3 : ∀ x ∈ l3, G x) :
    Calls Try.prog 3 #[.int .u32 a0, .int .i64 a1, .int .i64 a2, .slice A3 l3.length c3] W fun e w' => e = .returned (.bool true) ∧ Below W.heap.size W w' := by
  have HC := Aside0.mk hr3
  have hu36 := Try.underlying36
  clear hr3 hc3 w0 w1 w2 hm3 hg3 y3
  go_enter Try.func3, Try.ntmps3
  go_wp2_with fail
  refine (awake_c W).mono ?_
  rintro e w1 ⟨rfl, hb1⟩
  have HA1 : Aside0 (Has W.heap.size w1 []) := ⟨(Has.nil W).below hb1⟩
  have HB1 := Aside0.mk hb1
  clear hb1
  by_cases hl : 60 < l3.length
  · have d1 : decide ((l3.length : Int) > 60) = true := decide_eq_true (by omega)
    go_wp2_with fail
    go_ret
    exact ⟨rfl, HB1.out⟩
  have d1 : decide ((l3.length : Int) > 60) = false := decide_eq_false (by omega)
  go_wp2_with fail
  refine (small_c a1 w1).mono ?_
  rintro e w2 ⟨rfl, ⟨n1, rfl⟩⟩
  have HA2 := Aside0.mk (HA1.out.drewN n1)
  have HB2 := Aside0.mk (bl_drewN HB1.out n1)
  clear HA1 HB1
  generalize w1.drewN n1 = w2 at HA2 HB2 ⊢
  cases smallB a1
  · go_wp2_with fail
    go_ret
    exact ⟨rfl, HB2.out⟩
  go_wp2_with fail
  refine (small_c a2 w2).mono ?_
  rintro e w3 ⟨rfl, ⟨n2, rfl⟩⟩
  have HA3 := Aside0.mk (HA2.out.drewN n2)
  have HB3 := Aside0.mk (bl_drewN HB2.out n2)
  clear HA2 HB2
  generalize w2.drewN n2 = w3 at HA3 HB3 ⊢
  cases smallB a2
  · go_wp2_with fail
    go_ret
    exact ⟨rfl, HB3.out⟩
  obtain ⟨vx, w4, hmk1, hA4, hB4⟩ := made_1 (enc := Value.int .i64) (h1 := fun _ => rfl) HA3.out (t := 27) (e := 3) (z0 := 0) Try.underlying27 infI rfl (by decide) (m := l3.length) (by omega)
  obtain ⟨vs, w5, hmk2, hA5, hB5⟩ := made_1 (enc := Value.int .i64) (h1 := fun _ => rfl) hA4 (t := 27) (e := 3) (z0 := 0) Try.underlying27 infI rfl (by decide) (m := 6) (by omega)
  have hA6 := lit_1 (enc := Value.int .i64) (h1 := fun _ => rfl) hA5 3 [-1, -1, -1, -1, -1, -1] (by decide)
  obtain ⟨vh, w7, hmk3, hA7, hB7⟩ := made_1 (enc := Value.bool) (h1 := fun _ => rfl) hA6 (t := 28) (e := 4) (z0 := false) Try.underlying28 infB rfl (by decide) (m := 6) (by omega)
  have hmk2' : (Instr.makeSlice 27 (.int .i64 6) (.int .i64 6)).run Try.prog w4 = .ok vs w5 := hmk2
  have hmk3' : (Instr.makeSlice 28 (.int .i64 6) (.int .i64 6)).run Try.prog (w5.alloc (.cells #[.int .i64 (-1), .int .i64 (-1), .int .i64 (-1), .int .i64 (-1), .int .i64 (-1), .int .i64 (-1)] 3)) = .ok vh w7 := hmk3
  have HB7 : Aside0 (Below W.heap.size W w7) := ⟨((((HB3.out.trans hB4).trans hB5).alloc hA5.size _).trans hB7)⟩
  obtain ⟨gs, cs, evs, -⟩ := row_addr hA7 (d := kI) (e := 3) (v := vs) (xs := List.replicate 6 0) (.tail _ (.tail _ (.head _))) (by decide)
  obtain ⟨gh, ch, evh, -⟩ := row_addr hA7 (d := kBl) (e := 4) (v := vh) (xs := List.replicate 6 false) (.head _) (by decide)
  obtain ⟨Ax, cx, evx, -, -⟩ := hA7.reads (d := kI) (e := 3) (v := vx) (xs := List.replicate l3.length 0) (.tail _ (.tail _ (.tail _ (.head _))))
  subst evs
  subst evh
  subst evx
  rw [List.length_replicate] at hmk1
  have HSX := Aside0.mk (six_c hA7)
  clear hA4 hB4 hA5 hB5 hA6 hA7 hB7 hmk2 hmk3 HA3 HB3
  go_wp2_with fail
  refine HSX.out.mono ?_
  rintro e w8 ⟨va, rfl, hA8, hB8⟩
  obtain ⟨ga, ca, rfl, -⟩ := row_addr hA8 (d := kS) (e := 9) (v := va) (xs := six) (by simp) (by decide)
  have hA9 : Has W.heap.size w8 (hold6 (.slice none 0 0) [] ⟨gs, 0, none⟩ cs (List.replicate 6 0) ⟨w5.heap.size, 0, none⟩ 6 [-1, -1, -1, -1, -1, -1] ⟨gh, 0, none⟩ ch (List.replicate 6 false) (.slice Ax l3.length cx) (List.replicate l3.length 0) ⟨ga, 0, none⟩ ca ++ []) := by
    simp only [List.length_replicate] at hA8
    exact row_nil kA (hA8.perm ((List.perm_append_comm (l₁ := [_]) (l₂ := [_, _, _, _])).trans ((List.reverse_perm [_, _, _]).symm.append_right [_, _]))) 36
  have HA9 := Aside0.mk hA9
  have HB9 := Aside0.mk (HB7.out.trans hB8)
  clear hA8 hB8 hA9 HSX HB7 hmk1 hmk2' hmk3'
  generalize (⟨gs, 0, none⟩ : Addr) = sa at HA9 ⊢
  generalize (⟨w5.heap.size, 0, none⟩ : Addr) = ta at HA9 ⊢
  generalize (⟨gh, 0, none⟩ : Addr) = ha at HA9 ⊢
  generalize (⟨ga, 0, none⟩ : Addr) = aa at HA9 ⊢
  have HI0 : Aside0 ((List.replicate 6 (0 : Int)).length = 6 ∧ ([-1, -1, -1, -1, -1, -1] : List Int).length = 6 ∧ (List.replicate 6 false).length = 6 ∧ ∀ j, j < 6 → Cond a0 j none (rd (List.replicate 6 0) (j : Nat)) (rd [-1, -1, -1, -1, -1, -1] (j : Nat)) (rdOf false (List.replicate 6 false) (j : Nat))) := ⟨rfl, rfl, rfl, fun j hj => .inr (.inr ⟨by
    match j, hj with
    | 0, _ => rfl
    | 1, _ => rfl
    | 2, _ => rfl
    | 3, _ => rfl
    | 4, _ => rfl
    | 5, _ => rfl
    | n + 6, h => exact absurd h (by omega), by
    match j, hj with
    | 0, _ => rfl
    | 1, _ => rfl
    | 2, _ => rfl
    | 3, _ => rfl
    | 4, _ => rfl
    | 5, _ => rfl
    | n + 6, h => exact absurd h (by omega), rfl⟩)⟩
  go_wp2_with fail
  go_loopw [16, 9, 10] (fun iv nv av wr => ∃ (i : Nat) (E : Nat → Option SA) (at_ : Int) (An : Option Addr) (n cn : Nat) (S T : List Int) (H : List Bool) (X : List Int), iv = .int .i64 i ∧ nv = .slice An n cn ∧ av = .int .i64 at_ ∧ i ≤ l3.length ∧ 0 ≤ at_ ∧ at_ ≤ 1000 * i ∧ X.length = l3.length ∧ Aside0 (S.length = 6 ∧ T.length = 6 ∧ H.length = 6 ∧ ∀ j, j < 6 → Cond a0 j (E j) (rd S (j : Nat)) (rd T (j : Nat)) (rdOf false H (j : Nat))) ∧ Aside0 (Has W.heap.size wr (hold6 (.slice An n cn) (listE E) sa cs S ta 6 T ha ch H (.slice Ax l3.length cx) X aa ca ++ [])) ∧ Aside0 (Below W.heap.size W wr)) (fun iv _ _ _ => l3.length - (intOf iv).toNat)
  case atStart => exact ⟨0, fun _ => none, 0, none, 0, 0, _, _, _, _, rfl, rfl, rfl, by omega, by omega, by omega, List.length_replicate, HI0, HA9, HB9⟩
  case round =>
    clear HA9 HB9 HI0
    obtain ⟨i, E, at_, An, n, cn, S, T, H, X, rfl, rfl, rfl, hi, hat0, hat1, hX, HI, HA, HB⟩ := hrel
    by_cases hlt : i < l3.length
    · have d2 : decide ((i : Int) < (l3.length : Int)) = true := decide_eq_true (by omega)
      have d3 : decide (0 ≤ (i : Int)) = true := decide_eq_true (by omega)
      have ei : wrap64 ((i : Int) + 1) = ((i + 1 : Nat) : Int) := (w64 (x := (i : Int) + 1) (by omega) (by omega)).trans (by omega)
      obtain ⟨ad3, rfl, q0, q1, q2⟩ := at_T32 HC.out (i : Int) (by omega) (by omega)
      rw [Int.toNat_natCast] at q0 q1 q2
      obtain ⟨m0, m1⟩ := more_le (rd_T32 l3 (i : Int)).f0
      generalize rd_T32 l3 (i : Int) = x at q0 q1 q2 m0 m1
      obtain ⟨x0, x1, x2⟩ := x
      dsimp only at q0 q1 q2 m0 m1
      have QI := Aside0.mk q2
      have QI1 := q1
      have q0 := pw_cell_below HB.out q0
      obtain ⟨gx, cx', evx, -⟩ := row_addr HA.out (d := kI) (e := 3) (v := .slice Ax l3.length cx) (xs := X) (by simp [hold6]) (by omega)
      obtain ⟨ax, rfl⟩ : ∃ ax, Ax = some ax := by
        injection evx with e1 e2 e3
        exact ⟨_, e1⟩
      generalize hm : Int.tmod (wrap64 (Int.tmod x0 1000 + 1000)) 1000 = m at m0 m1
      have e1 : wrap64 (at_ + 1) = at_ + 1 := w64 (by omega) (by omega)
      obtain ⟨at2, hat2⟩ : ∃ z, at_ + 1 + m = z := ⟨_, rfl⟩
      have e2 : wrap64 (at_ + 1 + m) = at2 := (w64 (by omega) (by omega)).trans hat2
      have hat3 : 0 ≤ at2 := by omega
      have hat4 : at2 ≤ 1000 * ((i + 1 : Nat) : Int) := by omega
      obtain ⟨hA1, hB1, zf, zv, hz⟩ := put_time HA.out (k := i) (by omega) at2
      have hq1 : (wr.setCell (ax.add i) (.int .i64 at2)).cell? ⟨(ad3.add (i * 3)).block, (ad3.add (i * 3)).off + 1, none⟩ = some (.int .i64 x1) := pw_cell_below (HB.out.trans hB1) QI1
      have HNM := Aside0.mk (names_c hA1 x1)
      have HB1 := Aside0.mk (HB.out.trans hB1)
      have HAT : Aside0 (at_ + 1 + m = at2 ∧ 0 ≤ at2 ∧ at2 ≤ 1000 * ((i + 1 : Nat) : Int)) := ⟨hat2, hat3, hat4⟩
      have HXL : Aside0 ((X.set i at2).length = l3.length) := ⟨by rw [List.length_set]; exact hX⟩
      clear hA1 hB1 HA HB m0 m1 hat0 hat1 hX evx hat2 hat3 hat4 q2 QI1
      go_wp2_with fail
      refine HNM.out.mono ?_
      rintro e w2 ⟨vk, ks, rfl, hin, hA2, hB2⟩
      obtain ⟨Ak, ck, rfl, -, -⟩ := hA2.reads (d := kS) (e := 9) (v := vk) (xs := ks) (by simp)
      have hN : Named a0 E := fun j hj => cond_named (HI.out.2.2.2 j hj)
      have hlen := list_len E
      have HST := Aside0.mk (step_c hA2 (A0 := An) (n0 := n) (c0 := cn) (l0 := listE E) (A5 := Ak) (n5 := ks.length) (c5 := ck) (l5 := ks) (by simp [hold6]) (by simp) a0 a1 a2 at2 (by omega) (by have := hin.1; omega) (by
        intro y hy
        obtain ⟨j, hj, hjy⟩ := mem_list hy
        rw [(hN j hj y hjy).2]
        have := sx_size hj
        omega) (by
        intro y hy
        obtain ⟨j, hj, rfl⟩ := hin.2 y hy
        have := sx_size hj
        omega))
      rw [step_E hN a1 a2 at2 hin] at HST
      have HN := Aside0.mk hN
      have HIN := Aside0.mk hin
      have HB2 := Aside0.mk (HB1.out.trans hB2)
      generalize hnk : ks.length = nk at HST hA2 ⊢
      clear hA2 hB2 HNM HB1 hlen hN hin hnk hq1 hz zf q0 q1
      go_wp2_with fail
      refine HST.out.mono ?_
      rintro e w3 ⟨v3, rfl, hA3, hB3⟩
      obtain ⟨An2, cn2, rfl, -, -⟩ := hA3.reads (d := kA) (e := 36) (v := v3) (xs := listE (nextE E a0 a1 a2 at2 ks)) (by simp)
      have HRI : Aside0 (i + 1 ≤ l3.length) := ⟨hlt⟩
      have HEI := Aside0.mk ei
      have HM := Aside0.mk hm
      have HD : Aside0 (decide ((i : Int) < (l3.length : Int)) = true ∧ decide (0 ≤ (i : Int)) = true) := ⟨d2, d3⟩
      generalize hNE : nextE E a0 a1 a2 at2 ks = NE at hA3
      have HNE := Aside0.mk hNE
      generalize hNL : (listE NE).length = N at hA3
      have HNL := Aside0.mk hNL
      have hA4 : Has W.heap.size w3 (hold6 (.slice An2 N cn2) ([] ++ restE NE 0) sa cs S ta 6 T ha ch H (.slice (some ax) l3.length cx) (X.set i at2) aa ca ++ [rowS (.slice Ak nk ck) ks]) := by
        rw [rest_start]
        exact (hA3.third.tail).perm (List.Perm.cons _ (List.perm_append_comm (l₁ := [_]) (l₂ := [_, _, _, _, _])))
      have HAI : Aside0 (headE (fun _ => none) 0 = [] ∧ At a0 E (fun _ => none) 0 (fun j => rd S (j : Nat)) (fun j => rd T (j : Nat)) (fun j => rdOf false H (j : Nat)) S T H) := ⟨rfl, HI.out.1, HI.out.2.1, HI.out.2.2.1, fun j hj => by omega, fun j _ _ => ⟨rfl, rfl, rfl⟩⟩
      have HA4 := Aside0.mk hA4
      have HB4 := Aside0.mk (HB2.out.trans hB3)
      clear hA3 hB3 hA4 HST HB2 hNE hNL ei hm d2 d3 e1 e2
      go_wp2_with fail
      go_loopw [19, 18] (fun kv nv wr => ∃ (k : Nat) (E' : Nat → Option SA) (L : List SA) (S1 T1 : List Int) (H1 : List Bool), kv = .int .i64 k ∧ nv = .int .i64 (L.length : Nat) ∧ k ≤ 6 ∧ Aside0 (headE E' k = L ∧ At a0 E E' k (fun j => rd S (j : Nat)) (fun j => rd T (j : Nat)) (fun j => rdOf false H (j : Nat)) S1 T1 H1) ∧ Aside0 (Has W.heap.size wr (hold6 (.slice An2 N cn2) (L ++ restE NE k) sa cs S1 ta 6 T1 ha ch H1 (.slice (some ax) l3.length cx) (X.set i at2) aa ca ++ [rowS (.slice Ak nk ck) ks])) ∧ Aside0 (Below W.heap.size W wr)) (fun kv _ _ => 6 - (intOf kv).toNat)
      case atStart => exact ⟨0, fun _ => none, [], S, T, H, rfl, rfl, by omega, HAI, HA4, HB4⟩
      case round =>
        clear HA4 HB4 HAI
        obtain ⟨k, E', L, S1, T1, H1, rfl, rfl, hk, HAT2, HA, HB⟩ := hrel
        by_cases hk6 : k < 6
        · have d4 : decide ((k : Int) < 6) = true := decide_eq_true (by omega)
          have d5 : decide (0 ≤ (k : Int)) = true := decide_eq_true (by omega)
          have d6 : k < 6 := hk6
          have d8 : (k : Int) < 6 := by omega
          have ek : wrap64 ((k : Int) + 1) = ((k + 1 : Nat) : Int) := wn k (by omega)
          have hL6 : L.length ≤ 6 := by rw [← HAT2.out.1]; exact Nat.le_trans (head_len E' k) hk
          have eL : wrap64 ((L.length : Int) + 1) = ((L.length + 1 : Nat) : Int) := wn _ hL6
          have hls := HAT2.out.2.ls
          have hlt2 := HAT2.out.2.lt
          have hlh := HAT2.out.2.lh
          obtain ⟨z1, z2, z3⟩ := HAT2.out.2.was k (Nat.le_refl _) hk6
          have HCD := Aside0.mk (HI.out.2.2.2 k hk6)
          obtain ⟨cA, cS, cT, cH⟩ := hold_cells HA.out hk6 hls hlt2 hlh
          have HHS := Aside0.mk (has_c HA.out (A := Ak) (n := nk) (c := ck) (l := ks) (by simp) (by have := HIN.out.1; omega) (sx k))
          have HZ : Aside0 (S1.length = 6 ∧ T1.length = 6 ∧ H1.length = 6) := ⟨hls, hlt2, hlh⟩
          have HZZ : Aside0 (rd S1 (k : Nat) = rd S (k : Nat) ∧ rd T1 (k : Nat) = rd T (k : Nat) ∧ rdOf false H1 (k : Nat) = rdOf false H (k : Nat)) := ⟨z1, z2, z3⟩
          obtain ⟨s0, hs0⟩ : ∃ z, rd S (k : Nat) = z := ⟨_, rfl⟩
          obtain ⟨t0, ht0⟩ : ∃ z, rd T (k : Nat) = z := ⟨_, rfl⟩
          obtain ⟨h0, hh0⟩ : ∃ z, rdOf false H (k : Nat) = z := ⟨_, rfl⟩
          rw [z1, hs0] at cS
          rw [z2, ht0] at cT
          rw [z3, hh0] at cH
          rw [hs0, ht0, hh0] at HCD HZZ
          have HEK := Aside0.mk ek
          have HEL := Aside0.mk eL
          have HD6 : Aside0 (decide ((k : Int) < 6) = true ∧ decide (0 ≤ (k : Int)) = true) := ⟨d4, d5⟩
          clear hls hlt2 hlh z1 z2 z3 hs0 ht0 hh0 ek eL
          go_wp2_with fail
          refine HHS.out.mono ?_
          rintro e w5 ⟨rfl, ⟨nd, rfl⟩⟩
          have HA5 := Aside0.mk (HA.out.drewN nd)
          have HB5 := Aside0.mk (bl_drewN HB.out nd)
          clear HA HB HHS cA cS cT cH
          generalize wr.drewN nd = w5 at HA5 HB5 ⊢
          have hcd := HCD.out
          have ht1 : -1 ≤ t0 := cond_low hcd
          by_cases b : hasK ks (sx k).data.toList = true
          · rw [b]
            have hE := next_holds HN.out hk6 hcd a1 a2 at2 (keys := ks) b
            rw [HNE.out] at hE
            have HA5 := HA5.out
            rw [rest_step NE hk6, hE, Option.toList_some, List.singleton_append] at HA5
            have HA5 := Aside0.mk HA5
            obtain ⟨ga2, ca2, eva, -⟩ := row_addr HA5.out (d := kA) (e := 36) (v := .slice An2 N cn2) (xs := _) (.head _) (by rw [List.length_append, List.length_cons]; omega)
            obtain ⟨an, rfl⟩ : ∃ an, An2 = some an := by
              injection eva with e1 e2 e3
              exact ⟨_, e1⟩
            clear eva hE hcd
            cases h0
            · skip
              as_aux_lemma =>
                have HA5 : Aside0 (Has W.heap.size w5 (hold6 (.slice (some an) N cn2) (L ++ (⟨a0, sx k, if a1 ≤ wrap64 (at2 - at2) then 2 else 1, at2, t0⟩ : SA) :: restE NE (k + 1)) sa cs S1 ta 6 T1 ha ch H1 (.slice (some ax) l3.length cx) (X.set i at2) aa ca ++ [rowS (.slice Ak nk ck) ks])) := ⟨HA5.out⟩
                obtain ⟨cA, cS, cT, cH⟩ := hold_cells HA5.out hk6 (by simp [HZ.out]) (by simp [HZ.out]) (by simp [HZ.out])
                rw [HZZ.out.1] at cS
                rw [HZZ.out.2.1] at cT
                rw [HZZ.out.2.2] at cH
                obtain ⟨hA5, hB5, fs⟩ := put_since HA5.out (k := k) (by simp [HZ.out, hk6]) at2
                obtain ⟨-, -, -, cH2⟩ := hold_cells hA5 hk6 (by simp [HZ.out]) (by simp [HZ.out]) (by simp [HZ.out])
                obtain ⟨hA6, hB6, fh⟩ := put_held hA5 (k := k) (by simp [HZ.out, hk6]) true
                have HA6 := Aside0.mk hA6
                have HB6 := Aside0.mk ((HB5.out.trans hB5).trans hB6)
                have HSV : Aside0 (rd (S1.set k at2) (k : Nat) = at2) := ⟨by rw [rd_set S1 k at2 (by simp [HZ.out, hk6]), if_pos rfl]⟩
                clear hA5 hB5 hA6 hB6 HA5 HB5
                go_wp2_with fail
                generalize (w5.setCell (sa.add k) (.int .i64 at2)).setCell (ha.add k) (.bool true) = w6 at HA6 HB6 ⊢
                clear cA cS cT cH fh cH2 fs
                have HTV : rd T1 (k : Nat) = t0 := HZZ.out.2.1
                obtain ⟨cA, cS, cT, cH⟩ := hold_cells HA6.out.drew hk6 (by simp [HZ.out]) (by simp [HZ.out]) (by simp [HZ.out])
                have cT : w6.drew.cell? (ta.add k) = some (.int .i64 t0) := by rw [HTV] at cT; exact cT
                obtain ⟨zc, zf⟩ := zero_cells HA6.out.drew
                obtain ⟨zv0, zc0⟩ := zc 0 (by omega)
                obtain ⟨zv1, zc1⟩ := zc 1 (by omega)
                obtain ⟨zv2, zc2⟩ := zc 2 (by omega)
                obtain ⟨zv3, zc3⟩ := zc 3 (by omega)
                obtain ⟨zv4, zc4⟩ := zc 4 (by omega)
                have zf0 := zf 0
                have zf1 := zf 1
                have zf2 := zf 2
                have zf3 := zf 3
                have zf4 := zf 4
                have hA7 : Has W.heap.size (w6.alloc (.cells #[.int .u32 a0, .string (sx k), .int .u8 0, .int .i64 0, .int .i64 t0] 36)).drew (hold6 (.slice (some an) N cn2) (L ++ (⟨a0, sx k, if a1 ≤ wrap64 (at2 - at2) then 2 else 1, at2, t0⟩ : SA) :: restE NE (k + 1)) sa cs (S1.set k at2) ta 6 T1 ha ch (H1.set k true) (.slice (some ax) l3.length cx) (X.set i at2) aa ca ++ boxA w6.heap.size a0 (sx k) 0 0 t0 :: [rowS (.slice Ak nk ck) ks]) := has_back ((HA6.out.box #[.int .u32 a0, .string (sx k), .int .u8 0, .int .i64 0, .int .i64 t0] 36).drew)
                have HA7 := Aside0.mk hA7
                have HB7 := Aside0.mk (bl_drew (HB6.out.alloc HA6.out.size (.cells #[.int .u32 a0, .string (sx k), .int .u8 0, .int .i64 0, .int .i64 t0] 36)))
                clear zc zf hA7 cS cH
                refine start_ (n := 12) (S := fun w' => w'.cell? (aa.add k) = some (.string (sx k)) ∧ w'.cell? (ta.add k) = some (.int .i64 t0)) (ds := [11]) #[false, false, false, false, false, false, false, false, false, false, false, false] (by kernel_rfl) rfl rfl ⟨cA, cT⟩ (fun hHeld => ?_)
                refine pure_ (i := 0) (N := some 126) (v := ?_) (a' := ?_) #[true, false, false, false, false, false, false, false, false, false, false, false] rfl rfl (by kernel_rfl) (fun _ _ _ h => h) (Or.inl ⟨by rfl, ?_⟩) ?_ ?_
                rotate_left
                · intro w'
                  go_simp
                  with_reducible rfl
                rotate_left
                · simp only [Act.put, List.setIfInBounds_toArray, List.set_cons_zero, List.set_cons_succ, i64_w, i32_w]
                  rfl
                refine pure_ (i := 1) (N := some 127) (v := ?_) (a' := ?_) #[true, true, false, false, false, false, false, false, false, false, false, false] rfl rfl (by kernel_rfl) (fun _ _ _ h => h) (Or.inl ⟨by rfl, ?_⟩) ?_ ?_
                rotate_left
                · intro w'
                  go_simp
                  with_reducible rfl
                rotate_left
                · simp only [Act.put, List.setIfInBounds_toArray, List.set_cons_zero, List.set_cons_succ, i64_w, i32_w]
                  rfl
                refine pure_ (i := 2) (N := some 128) (v := ?_) (a' := ?_) #[true, true, true, false, false, false, false, false, false, false, false, false] rfl rfl (by kernel_rfl) (fun _ _ _ h => h) (Or.inl ⟨by rfl, ?_⟩) ?_ ?_
                rotate_left
                · intro w'
                  go_simp
                  with_reducible rfl
                rotate_left
                · simp only [Act.put, List.setIfInBounds_toArray, List.set_cons_zero, List.set_cons_succ, i64_w, i32_w]
                  rfl
                refine pure_ (i := 3) (N := some 129) (v := ?_) (a' := ?_) #[true, true, true, true, false, false, false, false, false, false, false, false] rfl rfl (by kernel_rfl) (fun _ _ _ h => h) (Or.inl ⟨by rfl, ?_⟩) ?_ ?_
                rotate_left
                · intro w'
                  go_simp
                  with_reducible rfl
                rotate_left
                · simp only [Act.put, List.setIfInBounds_toArray, List.set_cons_zero, List.set_cons_succ, i64_w, i32_w]
                  rfl
                refine pure_ (i := 5) (N := some 131) (v := ?_) (a' := ?_) #[true, true, true, true, false, true, false, false, false, false, false, false] rfl rfl (by kernel_rfl) (fun _ _ _ h => h) (Or.inl ⟨by rfl, ?_⟩) ?_ ?_
                rotate_left
                · intro w'
                  go_simp
                  with_reducible rfl
                rotate_left
                · simp only [Act.put, List.setIfInBounds_toArray, List.set_cons_zero, List.set_cons_succ, i64_w, i32_w]
                  rfl
                refine pure_ (i := 6) (N := some 132) (v := ?_) (a' := ?_) #[true, true, true, true, false, true, true, false, false, false, false, false] rfl rfl (by kernel_rfl) (fun _ _ _ h => h) (Or.inl ⟨by rfl, ?_⟩) ?_ ?_
                rotate_left
                · intro w'
                  go_simp
                  with_reducible rfl
                rotate_left
                · simp only [Act.put, List.setIfInBounds_toArray, List.set_cons_zero, List.set_cons_succ, i64_w, i32_w]
                  rfl
                refine pure_ (i := 7) (N := some 133) (v := ?_) (a' := ?_) #[true, true, true, true, false, true, true, true, false, false, false, false] rfl rfl (by kernel_rfl) (fun _ _ _ h => h) (Or.inl ⟨by rfl, ?_⟩) ?_ ?_
                rotate_left
                · intro w'
                  go_simp
                  with_reducible rfl
                rotate_left
                · simp only [Act.put, List.setIfInBounds_toArray, List.set_cons_zero, List.set_cons_succ, i64_w, i32_w]
                  rfl
                refine take_ (i := 4) (N := some 130) (v := ?_) (a' := ?_) #[true, true, true, true, true, true, true, true, false, false, false, false] rfl rfl (by kernel_rfl) (fun _ _ _ h => h) (Or.inl ⟨by rfl, ?_⟩) hHeld ?_ ?_
                rotate_left
                · rintro w' ⟨s0, s1⟩
                  go_simp
                  with_reducible rfl
                rotate_left
                · simp only [Act.put, List.setIfInBounds_toArray, List.set_cons_zero, List.set_cons_succ, i64_w, i32_w]
                  rfl
                refine take_ (i := 8) (N := some 134) (v := ?_) (a' := ?_) #[true, true, true, true, true, true, true, true, true, false, false, false] rfl rfl (by kernel_rfl) (fun _ _ _ h => h) (Or.inl ⟨by rfl, ?_⟩) hHeld ?_ ?_
                rotate_left
                · rintro w' ⟨s0, s1⟩
                  go_simp
                  with_reducible rfl
                rotate_left
                · simp only [Act.put, List.setIfInBounds_toArray, List.set_cons_zero, List.set_cons_succ, i64_w, i32_w]
                  rfl
                refine pure_ (i := 9) (N := some 135) (v := ?_) (a' := ?_) #[true, true, true, true, true, true, true, true, true, true, false, false] rfl rfl (by kernel_rfl) (fun _ _ _ h => h) (Or.inl ⟨by rfl, ?_⟩) ?_ ?_
                rotate_left
                · intro w'
                  go_simp
                  with_reducible rfl
                rotate_left
                · simp only [Act.put, List.setIfInBounds_toArray, List.set_cons_zero, List.set_cons_succ, i64_w, i32_w]
                  rfl
                refine one_ (i := 10) (N := some 21) #[true, true, true, true, true, true, true, true, true, true, true, false] rfl rfl (by kernel_rfl) (by decide) (fun K hK => ?_)
                refine value_ (w1 := ?_) (v := ?_) (by rfl) rfl ?_ ?_
                rotate_left 2
                · go_simp
                  constructor
                  · rfl
                  · rfl
                refine hK.out _ _ ⟨c_al _ cA, c_al _ cT⟩ (fun hHeld => ?_)
                clear hK K
                refine norm_ (a' := ?_) ?_ ?_
                rotate_left
                · show Act.put _ (some 21) _ = _
                  simp only [Act.put, List.setIfInBounds_toArray, List.set_cons_zero, List.set_cons_succ, i64_w, i32_w]
                  rfl
                refine last_ (i := 11) (N := none) #[true, true, true, true, true, true, true, true, true, true, true, true] rfl rfl (by kernel_rfl) (by decide) (fun K hK => ?_)
                refine skip_ (w1 := ?_) (by rfl) rfl ?_ ?_
                rotate_left
                · go_simp
                  rfl
                refine hK.out _ _ ?_
                clear hK K
                refine done_ (by kernel_rfl) ?_

                clear zc0 zc1 zc2 zc3 zc4 zf0 zf1 zf2 zf3 zf4 cA cT
                generalize (w6.alloc (.cells #[.int .u32 a0, .string (sx k), .int .u8 0, .int .i64 0, .int .i64 t0] 36)).drew = w7 at HA7 HB7 ⊢
                generalize w6.heap.size = bb at HA7 ⊢
                clear HTV HA6 HB6
                obtain ⟨-, cS, -, -⟩ := hold_cells HA7.out hk6 (by simp [HZ.out]) (by simp [HZ.out]) (by simp [HZ.out])
                rw [HSV.out] at cS
                obtain ⟨-, -, -, bc3, -, bf⟩ := box_cells HA7.out
                have f3 := bf 3
                obtain ⟨hA8, hB8⟩ := box_put HA7.out 3 (.int .i64 at2)
                have hA8 : Has W.heap.size (w7.setCell ⟨bb, 3, none⟩ (.int .i64 at2)) (hold6 (.slice (some an) N cn2) (L ++ (⟨a0, sx k, if a1 ≤ wrap64 (at2 - at2) then 2 else 1, at2, t0⟩ : SA) :: restE NE (k + 1)) sa cs (S1.set k at2) ta 6 T1 ha ch (H1.set k true) (.slice (some ax) l3.length cx) (X.set i at2) aa ca ++ boxA bb a0 (sx k) 0 at2 t0 :: [rowS (.slice Ak nk ck) ks]) := hA8
                obtain ⟨-, -, bc2, -, -, bf2⟩ := box_cells hA8
                have f2 := bf2 2
                obtain ⟨hA9, hB9⟩ := box_put hA8 2 (.int .u8 1)
                have hA9 : Has W.heap.size ((w7.setCell ⟨bb, 3, none⟩ (.int .i64 at2)).setCell ⟨bb, 2, none⟩ (.int .u8 1)) (hold6 (.slice (some an) N cn2) (L ++ (⟨a0, sx k, if a1 ≤ wrap64 (at2 - at2) then 2 else 1, at2, t0⟩ : SA) :: restE NE (k + 1)) sa cs (S1.set k at2) ta 6 T1 ha ch (H1.set k true) (.slice (some ax) l3.length cx) (X.set i at2) aa ca ++ boxA bb a0 (sx k) 1 at2 t0 :: [rowS (.slice Ak nk ck) ks]) := hA9
                obtain ⟨-, cS2, -, -⟩ := hold_cells hA9 hk6 (by simp [HZ.out]) (by simp [HZ.out]) (by simp [HZ.out])
                rw [HSV.out] at cS2
                obtain ⟨-, -, bc22, -, -, bf3⟩ := box_cells hA9
                have f4 := bf3 2
                obtain ⟨hA10, hB10⟩ := box_put hA9 2 (.int .u8 2)
                have hA10 : Has W.heap.size (((w7.setCell ⟨bb, 3, none⟩ (.int .i64 at2)).setCell ⟨bb, 2, none⟩ (.int .u8 1)).setCell ⟨bb, 2, none⟩ (.int .u8 2)) (hold6 (.slice (some an) N cn2) (L ++ (⟨a0, sx k, if a1 ≤ wrap64 (at2 - at2) then 2 else 1, at2, t0⟩ : SA) :: restE NE (k + 1)) sa cs (S1.set k at2) ta 6 T1 ha ch (H1.set k true) (.slice (some ax) l3.length cx) (X.set i at2) aa ca ++ boxA bb a0 (sx k) 2 at2 t0 :: [rowS (.slice Ak nk ck) ks]) := hA10
                have HA9 := Aside0.mk hA9
                have HB9 := Aside0.mk ((HB7.out.trans hB8).trans hB9)
                have HA10 := Aside0.mk hA10
                have HB10 := Aside0.mk (((HB7.out.trans hB8).trans hB9).trans hB10)
                clear hA8 hB8 hA9 hB9 hA10 hB10 bf bf2 bf3 HA7 HB7
                by_cases c : a1 ≤ wrap64 (at2 - at2)
                · have d7 : decide (wrap64 (at2 - at2) ≥ a1) = true := decide_eq_true c
                  as_aux_lemma =>
                    have hw0 : wrap64 (at2 - at2) = 0 := by rw [Int.sub_self]; exact w64 (by omega) (by omega)
                    have c0 : a1 ≤ 0 := by rw [hw0] at c; exact c
                    have d70 : decide (0 ≥ a1) = true := decide_eq_true c0
                    have HA8 : Aside0 (Has W.heap.size (((w7.setCell ⟨bb, 3, none⟩ (.int .i64 at2)).setCell ⟨bb, 2, none⟩ (.int .u8 1)).setCell ⟨bb, 2, none⟩ (.int .u8 2)) (hold6 (.slice (some an) N cn2) (L ++ (⟨a0, sx k, 2, at2, t0⟩ : SA) :: restE NE (k + 1)) sa cs (S1.set k at2) ta 6 T1 ha ch (H1.set k true) (.slice (some ax) l3.length cx) (X.set i at2) aa ca ++ boxA bb a0 (sx k) 2 at2 t0 :: [rowS (.slice Ak nk ck) ks])) := ⟨by have := HA10.out; rw [if_pos c] at this; exact this⟩
                    have HB8 := HB10
                    clear HA9 HB9 HA10 HB10
                    go_wp2_with fail
                    generalize (((w7.setCell ⟨bb, 3, none⟩ (.int .i64 at2)).setCell ⟨bb, 2, none⟩ (.int .u8 1)).setCell ⟨bb, 2, none⟩ (.int .u8 2)) = w8 at HA8 HB8 ⊢
                    clear cS bc3 f3 bc2 f2 cS2 bc22 f4 d7 c
                    clear hw0 c0 d70
                    obtain ⟨nc0, nc1, nc2, nc3, nc4⟩ := now_cells HA8.out
                    dsimp only at nc0 nc1 nc2 nc3 nc4
                    obtain ⟨bc0, bc1, bc2, bc3, bc4, -⟩ := box_cells HA8.out
                    obtain ⟨hNN, -, -⟩ := row_reads HA8.out (d := kA) (e := 36) (A := some an) (n := N) (c := cn2) (xs := (L ++ (⟨a0, sx k, 2, at2, t0⟩ : SA) :: restE NE (k + 1))) (.head _)
                    rw [List.length_append, List.length_cons] at hNN
                    have g1 : decide ((L.length : Int) ≥ (N : Int)) = false := decide_eq_false (by omega)
                    have g2 : decide ((L.length : Int) < (N : Int)) = true := decide_eq_true (by omega)
                    have g3 : ¬ N ≤ L.length := by omega
                    have g4 : L.length < N := by omega
                    clear hNN
                    go_wp2_with fail
                    refine start_ (n := 12) (S := fun w' => w'.cell? (an.add (L.length * 5)) = some (.int .u32 a0) ∧ w'.cell? ⟨(an.add (L.length * 5)).block, (an.add (L.length * 5)).off + 1, none⟩ = some (.string (sx k)) ∧ w'.cell? ⟨(an.add (L.length * 5)).block, (an.add (L.length * 5)).off + 2, none⟩ = some (.int .u8 2) ∧ w'.cell? ⟨(an.add (L.length * 5)).block, (an.add (L.length * 5)).off + 3, none⟩ = some (.int .i64 at2) ∧ w'.cell? ⟨(an.add (L.length * 5)).block, (an.add (L.length * 5)).off + 4, none⟩ = some (.int .i64 t0) ∧ w'.cell? ⟨bb, 0, none⟩ = some (.int .u32 a0) ∧ w'.cell? ⟨bb, 1, none⟩ = some (.string (sx k)) ∧ w'.cell? ⟨bb, 2, none⟩ = some (.int .u8 2) ∧ w'.cell? ⟨bb, 3, none⟩ = some (.int .i64 at2) ∧ w'.cell? ⟨bb, 4, none⟩ = some (.int .i64 t0)) (ds := []) #[false, false, false, false, false, false, false, false, false, false, false, false] (by kernel_rfl) rfl rfl ⟨nc0, nc1, nc2, nc3, nc4, bc0, bc1, bc2, bc3, bc4⟩ (fun hHeld => ?_)
                    refine pure_ (i := 0) (N := some 157) (v := ?_) (a' := ?_) #[true, false, false, false, false, false, false, false, false, false, false, false] rfl rfl (by kernel_rfl) (fun _ _ _ h => h) (Or.inl ⟨by rfl, ?_⟩) ?_ ?_
                    rotate_left
                    · intro w'
                      go_simp
                      with_reducible rfl
                    rotate_left
                    · simp only [Act.put, List.setIfInBounds_toArray, List.set_cons_zero, List.set_cons_succ, i64_w, i32_w]
                      rfl
                    refine pure_ (i := 1) (N := some 158) (v := ?_) (a' := ?_) #[true, true, false, false, false, false, false, false, false, false, false, false] rfl rfl (by kernel_rfl) (fun _ _ _ h => h) (Or.inl ⟨by rfl, ?_⟩) ?_ ?_
                    rotate_left
                    · intro w'
                      go_simp
                      with_reducible rfl
                    rotate_left
                    · simp only [Act.put, List.setIfInBounds_toArray, List.set_cons_zero, List.set_cons_succ, i64_w, i32_w]
                      rfl
                    refine pure_ (i := 2) (N := some 159) (v := ?_) (a' := ?_) #[true, true, true, false, false, false, false, false, false, false, false, false] rfl rfl (by kernel_rfl) (fun _ _ _ h => h) (Or.inl ⟨by rfl, ?_⟩) ?_ ?_
                    rotate_left
                    · intro w'
                      go_simp
                      with_reducible rfl
                    rotate_left
                    · simp only [Act.put, List.setIfInBounds_toArray, List.set_cons_zero, List.set_cons_succ, i64_w, i32_w]
                      rfl
                    refine pure_ (i := 3) (N := some 160) (v := ?_) (a' := ?_) #[true, true, true, true, false, false, false, false, false, false, false, false] rfl rfl (by kernel_rfl) (fun _ _ _ h => h) (Or.inl ⟨by rfl, ?_⟩) ?_ ?_
                    rotate_left
                    · intro w'
                      go_simp
                      with_reducible rfl
                    rotate_left
                    · simp only [Act.put, List.setIfInBounds_toArray, List.set_cons_zero, List.set_cons_succ, i64_w, i32_w]
                      rfl
                    refine pure_ (i := 4) (N := some 161) (v := ?_) (a' := ?_) #[true, true, true, true, true, false, false, false, false, false, false, false] rfl rfl (by kernel_rfl) (fun _ _ _ h => h) (Or.inl ⟨by rfl, ?_⟩) ?_ ?_
                    rotate_left
                    · intro w'
                      go_simp
                      with_reducible rfl
                    rotate_left
                    · simp only [Act.put, List.setIfInBounds_toArray, List.set_cons_zero, List.set_cons_succ, i64_w, i32_w]
                      rfl
                    refine pure_ (i := 5) (N := some 162) (v := ?_) (a' := ?_) #[true, true, true, true, true, true, false, false, false, false, false, false] rfl rfl (by kernel_rfl) (fun _ _ _ h => h) (Or.inl ⟨by rfl, ?_⟩) ?_ ?_
                    rotate_left
                    · intro w'
                      go_simp
                      with_reducible rfl
                    rotate_left
                    · simp only [Act.put, List.setIfInBounds_toArray, List.set_cons_zero, List.set_cons_succ, i64_w, i32_w]
                      rfl
                    refine pure_ (i := 6) (N := some 163) (v := ?_) (a' := ?_) #[true, true, true, true, true, true, true, false, false, false, false, false] rfl rfl (by kernel_rfl) (fun _ _ _ h => h) (Or.inl ⟨by rfl, ?_⟩) ?_ ?_
                    rotate_left
                    · intro w'
                      go_simp
                      with_reducible rfl
                    rotate_left
                    · simp only [Act.put, List.setIfInBounds_toArray, List.set_cons_zero, List.set_cons_succ, i64_w, i32_w]
                      rfl
                    refine pure_ (i := 7) (N := some 164) (v := ?_) (a' := ?_) #[true, true, true, true, true, true, true, true, false, false, false, false] rfl rfl (by kernel_rfl) (fun _ _ _ h => h) (Or.inl ⟨by rfl, ?_⟩) ?_ ?_
                    rotate_left
                    · intro w'
                      go_simp
                      with_reducible rfl
                    rotate_left
                    · simp only [Act.put, List.setIfInBounds_toArray, List.set_cons_zero, List.set_cons_succ, i64_w, i32_w]
                      rfl
                    refine take_ (i := 8) (N := some 165) (v := ?_) (a' := ?_) #[true, true, true, true, true, true, true, true, true, false, false, false] rfl rfl (by kernel_rfl) (fun _ _ _ h => h) (Or.inl ⟨by rfl, ?_⟩) hHeld ?_ ?_
                    rotate_left
                    · rintro w' ⟨s0, s1, s2, s3, s4, s5, s6, s7, s8, s9⟩
                      go_simp
                      with_reducible rfl
                    rotate_left
                    · simp only [Act.put, List.setIfInBounds_toArray, List.set_cons_zero, List.set_cons_succ, i64_w, i32_w]
                      rfl
                    refine take_ (i := 9) (N := some 166) (v := ?_) (a' := ?_) #[true, true, true, true, true, true, true, true, true, true, false, false] rfl rfl (by kernel_rfl) (fun _ _ _ h => h) (Or.inl ⟨by rfl, ?_⟩) hHeld ?_ ?_
                    rotate_left
                    · rintro w' ⟨s0, s1, s2, s3, s4, s5, s6, s7, s8, s9⟩
                      go_simp
                      with_reducible rfl
                    rotate_left
                    · simp only [Act.put, List.setIfInBounds_toArray, List.set_cons_zero, List.set_cons_succ, i64_w, i32_w]
                      rfl
                    refine pure_ (i := 10) (N := some 167) (v := ?_) (a' := ?_) #[true, true, true, true, true, true, true, true, true, true, true, false] rfl rfl (by kernel_rfl) (fun _ _ _ h => h) (Or.inl ⟨by rfl, ?_⟩) ?_ ?_
                    rotate_left
                    · intro w'
                      go_simp
                      with_reducible rfl
                    rotate_left
                    · simp only [Act.put, List.setIfInBounds_toArray, List.set_cons_zero, List.set_cons_succ, i64_w, i32_w]
                      rfl
                    refine pure_ (i := 11) (N := some 168) (v := ?_) (a' := ?_) #[true, true, true, true, true, true, true, true, true, true, true, true] rfl rfl (by kernel_rfl) (fun _ _ _ h => h) (Or.inl ⟨by rfl, ?_⟩) ?_ ?_
                    rotate_left
                    · intro w'
                      go_simp
                      with_reducible rfl
                    rotate_left
                    · simp only [Act.put, List.setIfInBounds_toArray, List.set_cons_zero, List.set_cons_succ, i64_w, i32_w]
                      rfl
                    refine done_ (by kernel_rfl) ?_

                    have HA9 := Aside0.mk HA8.out.drew
                    have HB9 := Aside0.mk (bl_drew HB8.out)
                    clear nc0 nc1 nc2 nc3 nc4 bc0 bc1 bc2 bc3 bc4 HA8 HB8 g1 g3
                    generalize w8.drew = w9 at HA9 HB9 ⊢
                    go_wp2_with fail
                    obtain ⟨cA, -, -, -⟩ := hold_cells HA9.out hk6 (by simp [HZ.out]) (by simp [HZ.out]) (by simp [HZ.out])
                    obtain ⟨-, -, bc2, -, -, -⟩ := box_cells HA9.out
                    have cL := pw_cell_below HB9.out QI.out
                    have HNM := Aside0.mk (names_c HA9.out.drew x2)
                    have d2 := HD.out.1
                    have d3 := HD.out.2
                    refine start_ (n := 16) (S := fun w' => w'.cell? ⟨bb, 2, none⟩ = some (.int .u8 2) ∧ w'.cell? ⟨(ad3.add (i * 3)).block, (ad3.add (i * 3)).off + 2, none⟩ = some (.int .i64 x2) ∧ w'.cell? (aa.add k) = some (.string (sx k))) (ds := [14]) #[false, false, false, false, false, false, false, false, false, false, false, false, false, false, false, false] (by kernel_rfl) rfl rfl ⟨bc2, cL, cA⟩ (fun hHeld => ?_)
                    refine pure_ (i := 0) (N := some 169) (v := ?_) (a' := ?_) #[true, false, false, false, false, false, false, false, false, false, false, false, false, false, false, false] rfl rfl (by kernel_rfl) (fun _ _ _ h => h) (Or.inl ⟨by rfl, ?_⟩) ?_ ?_
                    rotate_left
                    · intro w'
                      go_simp
                      with_reducible rfl
                    rotate_left
                    · simp only [Act.put, List.setIfInBounds_toArray, List.set_cons_zero, List.set_cons_succ, i64_w, i32_w]
                      rfl
                    refine take_ (i := 1) (N := some 170) (v := ?_) (a' := ?_) #[true, true, false, false, false, false, false, false, false, false, false, false, false, false, false, false] rfl rfl (by kernel_rfl) (fun _ _ _ h => h) (Or.inl ⟨by rfl, ?_⟩) hHeld ?_ ?_
                    rotate_left
                    · rintro w' ⟨s0, s1, s2⟩
                      go_simp
                      with_reducible rfl
                    rotate_left
                    · simp only [Act.put, List.setIfInBounds_toArray, List.set_cons_zero, List.set_cons_succ, i64_w, i32_w]
                      rfl
                    refine pure_ (i := 2) (N := some 171) (v := ?_) (a' := ?_) #[true, true, true, false, false, false, false, false, false, false, false, false, false, false, false, false] rfl rfl (by kernel_rfl) (fun _ _ _ h => h) (Or.inl ⟨by rfl, ?_⟩) ?_ ?_
                    rotate_left
                    · intro w'
                      go_simp
                      with_reducible rfl
                    rotate_left
                    · simp only [Act.put, List.setIfInBounds_toArray, List.set_cons_zero, List.set_cons_succ, i64_w, i32_w]
                      rfl
                    refine pure_ (i := 3) (N := some 172) (v := ?_) (a' := ?_) #[true, true, true, true, false, false, false, false, false, false, false, false, false, false, false, false] rfl rfl (by kernel_rfl) (fun _ _ _ h => h) (Or.inl ⟨by rfl, ?_⟩) ?_ ?_
                    rotate_left
                    · intro w'
                      go_simp
                      with_reducible rfl
                    rotate_left
                    · simp only [Act.put, List.setIfInBounds_toArray, List.set_cons_zero, List.set_cons_succ, i64_w, i32_w]
                      rfl
                    refine pure_ (i := 4) (N := some 173) (v := ?_) (a' := ?_) #[true, true, true, true, true, false, false, false, false, false, false, false, false, false, false, false] rfl rfl (by kernel_rfl) (fun _ _ _ h => h) (Or.inl ⟨by rfl, ?_⟩) ?_ ?_
                    rotate_left
                    · intro w'
                      go_simp
                      with_reducible rfl
                    rotate_left
                    · simp only [Act.put, List.setIfInBounds_toArray, List.set_cons_zero, List.set_cons_succ, i64_w, i32_w]
                      rfl
                    refine pure_ (i := 5) (N := some 174) (v := ?_) (a' := ?_) #[true, true, true, true, true, true, false, false, false, false, false, false, false, false, false, false] rfl rfl (by kernel_rfl) (fun _ _ _ h => h) (Or.inl ⟨by rfl, ?_⟩) ?_ ?_
                    rotate_left
                    · intro w'
                      go_simp
                      with_reducible rfl
                    rotate_left
                    · simp only [Act.put, List.setIfInBounds_toArray, List.set_cons_zero, List.set_cons_succ, i64_w, i32_w]
                      rfl
                    refine pure_ (i := 6) (N := some 175) (v := ?_) (a' := ?_) #[true, true, true, true, true, true, true, false, false, false, false, false, false, false, false, false] rfl rfl (by kernel_rfl) (fun _ _ _ h => h) (Or.inl ⟨by rfl, ?_⟩) ?_ ?_
                    rotate_left
                    · intro w'
                      go_simp
                      with_reducible rfl
                    rotate_left
                    · simp only [Act.put, List.setIfInBounds_toArray, List.set_cons_zero, List.set_cons_succ, i64_w, i32_w]
                      rfl
                    refine pure_ (i := 7) (N := some 176) (v := ?_) (a' := ?_) #[true, true, true, true, true, true, true, true, false, false, false, false, false, false, false, false] rfl rfl (by kernel_rfl) (fun _ _ _ h => h) (Or.inl ⟨by rfl, ?_⟩) ?_ ?_
                    rotate_left
                    · intro w'
                      go_simp
                      with_reducible rfl
                    rotate_left
                    · simp only [Act.put, List.setIfInBounds_toArray, List.set_cons_zero, List.set_cons_succ, i64_w, i32_w]
                      rfl
                    refine pure_ (i := 10) (N := some 179) (v := ?_) (a' := ?_) #[true, true, true, true, true, true, true, true, false, false, true, false, false, false, false, false] rfl rfl (by kernel_rfl) (fun _ _ _ h => h) (Or.inl ⟨by rfl, ?_⟩) ?_ ?_
                    rotate_left
                    · intro w'
                      go_simp
                      with_reducible rfl
                    rotate_left
                    · simp only [Act.put, List.setIfInBounds_toArray, List.set_cons_zero, List.set_cons_succ, i64_w, i32_w]
                      rfl
                    refine pure_ (i := 11) (N := some 180) (v := ?_) (a' := ?_) #[true, true, true, true, true, true, true, true, false, false, true, true, false, false, false, false] rfl rfl (by kernel_rfl) (fun _ _ _ h => h) (Or.inl ⟨by rfl, ?_⟩) ?_ ?_
                    rotate_left
                    · intro w'
                      go_simp
                      with_reducible rfl
                    rotate_left
                    · simp only [Act.put, List.setIfInBounds_toArray, List.set_cons_zero, List.set_cons_succ, i64_w, i32_w]
                      rfl
                    refine pure_ (i := 12) (N := some 181) (v := ?_) (a' := ?_) #[true, true, true, true, true, true, true, true, false, false, true, true, true, false, false, false] rfl rfl (by kernel_rfl) (fun _ _ _ h => h) (Or.inl ⟨by rfl, ?_⟩) ?_ ?_
                    rotate_left
                    · intro w'
                      go_simp
                      with_reducible rfl
                    rotate_left
                    · simp only [Act.put, List.setIfInBounds_toArray, List.set_cons_zero, List.set_cons_succ, i64_w, i32_w]
                      rfl
                    refine take_ (i := 8) (N := some 177) (v := ?_) (a' := ?_) #[true, true, true, true, true, true, true, true, true, false, true, true, true, false, false, false] rfl rfl (by kernel_rfl) (fun _ _ _ h => h) (Or.inl ⟨by rfl, ?_⟩) hHeld ?_ ?_
                    rotate_left
                    · rintro w' ⟨s0, s1, s2⟩
                      go_simp
                      with_reducible rfl
                    rotate_left
                    · simp only [Act.put, List.setIfInBounds_toArray, List.set_cons_zero, List.set_cons_succ, i64_w, i32_w]
                      rfl
                    refine take_ (i := 13) (N := some 182) (v := ?_) (a' := ?_) #[true, true, true, true, true, true, true, true, true, false, true, true, true, true, false, false] rfl rfl (by kernel_rfl) (fun _ _ _ h => h) (Or.inl ⟨by rfl, ?_⟩) hHeld ?_ ?_
                    rotate_left
                    · rintro w' ⟨s0, s1, s2⟩
                      go_simp
                      with_reducible rfl
                    rotate_left
                    · simp only [Act.put, List.setIfInBounds_toArray, List.set_cons_zero, List.set_cons_succ, i64_w, i32_w]
                      rfl
                    refine one_ (i := 9) (N := some 178) #[true, true, true, true, true, true, true, true, true, true, true, true, true, true, false, false] rfl rfl (by kernel_rfl) (by decide) (fun K hK => ?_)
                    refine goes_ Try.func10 (by kernel_rfl) rfl #[.int .i64 x2] (by rfl) rfl rfl (by simp only [List.map_toArray, List.map_cons, List.map_nil]; rfl) ?_
                    with_reducible refine (HNM.out).mono ?_
                    rintro e w10 ⟨v10, ks2, rfl, hin2, hA10, hB10⟩
                    refine ⟨_, rfl, ?_⟩
                    obtain ⟨A10, c10, rfl, -, -⟩ := hA10.reads (d := kS) (e := 9) (v := v10) (xs := ks2) (by simp)
                    obtain ⟨u2, -, -, -⟩ := hold_cells hA10.tail hk6 (by simp [HZ.out]) (by simp [HZ.out]) (by simp [HZ.out])
                    obtain ⟨-, -, u0, -, -, -⟩ := box_cells hA10.tail
                    have u1 := pw_cell_below ((bl_drew HB9.out).trans hB10) QI.out
                    have HH2 := Aside0.mk (has_c hA10 (A := A10) (n := ks2.length) (c := c10) (l := ks2) (by simp) (by have := hin2.1; omega) (sx k))
                    generalize hasK ks2 (sx k).data.toList = b2 at HH2
                    have HA10 := Aside0.mk hA10.tail
                    have HB10 := Aside0.mk ((bl_drew HB9.out).trans hB10)
                    clear hA10 hB10 hin2
                    refine hK.out _ _ ⟨u0, u1, u2⟩ (fun hHeld => ?_)
                    clear hK K
                    refine norm_ (a' := ?_) ?_ ?_
                    rotate_left
                    · show Act.put _ (some 178) _ = _
                      simp only [Act.put, List.setIfInBounds_toArray, List.set_cons_zero, List.set_cons_succ, i64_w, i32_w]
                      rfl
                    refine last_ (i := 14) (N := some 183) #[true, true, true, true, true, true, true, true, true, true, true, true, true, true, true, false] rfl rfl (by kernel_rfl) (by decide) (fun K hK => ?_)
                    refine goes_ Try.func12 (by kernel_rfl) rfl #[.slice A10 ks2.length c10, .string (sx k)] (by rfl) rfl rfl (by simp only [List.map_toArray, List.map_cons, List.map_nil]; rfl) ?_
                    with_reducible refine (HH2.out).mono ?_
                    rintro e w11 ⟨rfl, ⟨n11, rfl⟩⟩
                    refine ⟨_, rfl, ?_⟩
                    refine hK.out _ _ ?_
                    clear hK K
                    refine norm_ (a' := ?_) ?_ ?_
                    rotate_left
                    · show Act.put _ (some 183) _ = _
                      simp only [Act.put, List.setIfInBounds_toArray, List.set_cons_zero, List.set_cons_succ, i64_w, i32_w]
                      rfl
                    refine pure_ (i := 15) (N := some 184) (v := ?_) (a' := ?_) #[true, true, true, true, true, true, true, true, true, true, true, true, true, true, true, true] rfl rfl (by kernel_rfl) (fun _ _ _ h => h) (Or.inl ⟨by rfl, ?_⟩) ?_ ?_
                    rotate_left
                    · intro w'
                      go_simp
                      with_reducible rfl
                    rotate_left
                    · simp only [Act.put, List.setIfInBounds_toArray, List.set_cons_zero, List.set_cons_succ, i64_w, i32_w]
                      rfl
                    refine done_ (by kernel_rfl) ?_

                    have HA11 := Aside0.mk (HA10.out.drewN n11)
                    have HB11 := Aside0.mk (bl_drewN HB10.out n11)
                    clear cA bc2 cL u0 u1 u2 HNM HH2 HA9 HB9 HA10 HB10 d2 d3
                    generalize w10.drewN n11 = w11 at HA11 HB11 ⊢
                    cases b2
                    · skip
                      have HLS : Aside0 (headE (fun j => if j = k then some (⟨a0, sx k, 2, at2, t0⟩ : SA) else E' j) (k + 1) = L ++ [(⟨a0, sx k, 2, at2, t0⟩ : SA)]) := ⟨by rw [head_put, HAT2.out.1]; first | rfl | simp⟩
                      have HAT3 := Aside0.mk (HAT2.out.2.put hk6 (e := some (⟨a0, sx k, 2, at2, t0⟩ : SA)) (S' := (S1.set k at2)) (T' := T1) (H' := (H1.set k true)) at2 t0 true (by simp [HZ.out]) (by simp [HZ.out]) (by simp [HZ.out]) (rd_set S1 k at2 (by simp [HZ.out, hk6])) (same_rd T1 k _ HZZ.out.2.1) (rdB_set H1 k true (by simp [HZ.out, hk6])) (.inl ⟨rfl, ht1, _, rfl, rfl, rfl, (show (2 : Int) ≠ 0 by decide), rfl, rfl⟩))
                      have ek := HEK.out
                      have eL := HEL.out
                      have d4 := HD6.out.1
                      go_wp2_with fail
                      go_roundw
                      case rel => exact ⟨k + 1, _, L ++ [(⟨a0, sx k, 2, at2, t0⟩ : SA)], _, _, _, by first | rfl | rw [ek], by first | rfl | (rw [List.length_append]; first | rfl | (rw [eL]; rfl)), by omega, ⟨HLS.out, HAT3.out⟩, ⟨by rw [List.append_assoc]; exact (has_mid HA11.out).tail⟩, HB11⟩
                      case measure => first | (simp [intOf]; omega) | (rw [ek]; simp [intOf]; omega)
                    · skip
                      obtain ⟨-, -, -, -, nc4⟩ := now_cells HA11.out
                      dsimp only at nc4
                      obtain ⟨hA12, hB12, fn⟩ := put_now HA11.out at2
                      dsimp only at hA12
                      obtain ⟨-, -, cT, -⟩ := hold_cells hA12 hk6 (by simp [HZ.out]) (by simp [HZ.out]) (by simp [HZ.out])
                      obtain ⟨hA13, hB13, ft⟩ := put_told hA12 (k := k) (by simp [HZ.out, hk6]) at2
                      have HA13 := Aside0.mk (has_mid hA13).tail
                      have HB13 := Aside0.mk ((HB11.out.trans hB12).trans hB13)
                      have hat := HAT.out.2.1
                      clear hA12 hB12 hA13 hB13
                      have HLS : Aside0 (headE (fun j => if j = k then some (⟨a0, sx k, 2, at2, at2⟩ : SA) else E' j) (k + 1) = L ++ [(⟨a0, sx k, 2, at2, at2⟩ : SA)]) := ⟨by rw [head_put, HAT2.out.1]; first | rfl | simp⟩
                      have HAT3 := Aside0.mk (HAT2.out.2.put hk6 (e := some (⟨a0, sx k, 2, at2, at2⟩ : SA)) (S' := (S1.set k at2)) (T' := (T1.set k at2)) (H' := (H1.set k true)) at2 at2 true (by simp [HZ.out]) (by simp [HZ.out]) (by simp [HZ.out]) (rd_set S1 k at2 (by simp [HZ.out, hk6])) (rd_set T1 k at2 (by simp [HZ.out, hk6])) (rdB_set H1 k true (by simp [HZ.out, hk6])) (.inl ⟨rfl, by omega, _, rfl, rfl, rfl, (show (2 : Int) ≠ 0 by decide), rfl, rfl⟩))
                      have ek := HEK.out
                      have eL := HEL.out
                      have d4 := HD6.out.1
                      go_wp2_with fail
                      go_roundw
                      case rel => exact ⟨k + 1, _, L ++ [(⟨a0, sx k, 2, at2, at2⟩ : SA)], _, _, _, by first | rfl | rw [ek], by first | rfl | (rw [List.length_append]; first | rfl | (rw [eL]; rfl)), by omega, ⟨HLS.out, HAT3.out⟩, ⟨by rw [List.append_assoc]; exact HA13.out⟩, HB13⟩
                      case measure => first | (simp [intOf]; omega) | (rw [ek]; simp [intOf]; omega)
                · have d7 : decide (wrap64 (at2 - at2) ≥ a1) = false := decide_eq_false c
                  as_aux_lemma =>
                    have hw0 : wrap64 (at2 - at2) = 0 := by rw [Int.sub_self]; exact w64 (by omega) (by omega)
                    have c0 : ¬ a1 ≤ 0 := by rw [hw0] at c; exact c
                    have d70 : decide (0 ≥ a1) = false := decide_eq_false c0
                    have HA8 : Aside0 (Has W.heap.size ((w7.setCell ⟨bb, 3, none⟩ (.int .i64 at2)).setCell ⟨bb, 2, none⟩ (.int .u8 1)) (hold6 (.slice (some an) N cn2) (L ++ (⟨a0, sx k, 1, at2, t0⟩ : SA) :: restE NE (k + 1)) sa cs (S1.set k at2) ta 6 T1 ha ch (H1.set k true) (.slice (some ax) l3.length cx) (X.set i at2) aa ca ++ boxA bb a0 (sx k) 1 at2 t0 :: [rowS (.slice Ak nk ck) ks])) := ⟨by have := HA9.out; rw [if_neg c] at this; exact this⟩
                    have HB8 := HB9
                    clear HA9 HB9 HA10 HB10
                    go_wp2_with fail
                    generalize ((w7.setCell ⟨bb, 3, none⟩ (.int .i64 at2)).setCell ⟨bb, 2, none⟩ (.int .u8 1)) = w8 at HA8 HB8 ⊢
                    clear cS bc3 f3 bc2 f2 cS2 bc22 f4 d7 c
                    clear hw0 c0 d70
                    obtain ⟨nc0, nc1, nc2, nc3, nc4⟩ := now_cells HA8.out
                    dsimp only at nc0 nc1 nc2 nc3 nc4
                    obtain ⟨bc0, bc1, bc2, bc3, bc4, -⟩ := box_cells HA8.out
                    obtain ⟨hNN, -, -⟩ := row_reads HA8.out (d := kA) (e := 36) (A := some an) (n := N) (c := cn2) (xs := (L ++ (⟨a0, sx k, 1, at2, t0⟩ : SA) :: restE NE (k + 1))) (.head _)
                    rw [List.length_append, List.length_cons] at hNN
                    have g1 : decide ((L.length : Int) ≥ (N : Int)) = false := decide_eq_false (by omega)
                    have g2 : decide ((L.length : Int) < (N : Int)) = true := decide_eq_true (by omega)
                    have g3 : ¬ N ≤ L.length := by omega
                    have g4 : L.length < N := by omega
                    clear hNN
                    go_wp2_with fail
                    refine start_ (n := 12) (S := fun w' => w'.cell? (an.add (L.length * 5)) = some (.int .u32 a0) ∧ w'.cell? ⟨(an.add (L.length * 5)).block, (an.add (L.length * 5)).off + 1, none⟩ = some (.string (sx k)) ∧ w'.cell? ⟨(an.add (L.length * 5)).block, (an.add (L.length * 5)).off + 2, none⟩ = some (.int .u8 1) ∧ w'.cell? ⟨(an.add (L.length * 5)).block, (an.add (L.length * 5)).off + 3, none⟩ = some (.int .i64 at2) ∧ w'.cell? ⟨(an.add (L.length * 5)).block, (an.add (L.length * 5)).off + 4, none⟩ = some (.int .i64 t0) ∧ w'.cell? ⟨bb, 0, none⟩ = some (.int .u32 a0) ∧ w'.cell? ⟨bb, 1, none⟩ = some (.string (sx k)) ∧ w'.cell? ⟨bb, 2, none⟩ = some (.int .u8 1) ∧ w'.cell? ⟨bb, 3, none⟩ = some (.int .i64 at2) ∧ w'.cell? ⟨bb, 4, none⟩ = some (.int .i64 t0)) (ds := []) #[false, false, false, false, false, false, false, false, false, false, false, false] (by kernel_rfl) rfl rfl ⟨nc0, nc1, nc2, nc3, nc4, bc0, bc1, bc2, bc3, bc4⟩ (fun hHeld => ?_)
                    refine pure_ (i := 0) (N := some 157) (v := ?_) (a' := ?_) #[true, false, false, false, false, false, false, false, false, false, false, false] rfl rfl (by kernel_rfl) (fun _ _ _ h => h) (Or.inl ⟨by rfl, ?_⟩) ?_ ?_
                    rotate_left
                    · intro w'
                      go_simp
                      with_reducible rfl
                    rotate_left
                    · simp only [Act.put, List.setIfInBounds_toArray, List.set_cons_zero, List.set_cons_succ, i64_w, i32_w]
                      rfl
                    refine pure_ (i := 1) (N := some 158) (v := ?_) (a' := ?_) #[true, true, false, false, false, false, false, false, false, false, false, false] rfl rfl (by kernel_rfl) (fun _ _ _ h => h) (Or.inl ⟨by rfl, ?_⟩) ?_ ?_
                    rotate_left
                    · intro w'
                      go_simp
                      with_reducible rfl
                    rotate_left
                    · simp only [Act.put, List.setIfInBounds_toArray, List.set_cons_zero, List.set_cons_succ, i64_w, i32_w]
                      rfl
                    refine pure_ (i := 2) (N := some 159) (v := ?_) (a' := ?_) #[true, true, true, false, false, false, false, false, false, false, false, false] rfl rfl (by kernel_rfl) (fun _ _ _ h => h) (Or.inl ⟨by rfl, ?_⟩) ?_ ?_
                    rotate_left
                    · intro w'
                      go_simp
                      with_reducible rfl
                    rotate_left
                    · simp only [Act.put, List.setIfInBounds_toArray, List.set_cons_zero, List.set_cons_succ, i64_w, i32_w]
                      rfl
                    refine pure_ (i := 3) (N := some 160) (v := ?_) (a' := ?_) #[true, true, true, true, false, false, false, false, false, false, false, false] rfl rfl (by kernel_rfl) (fun _ _ _ h => h) (Or.inl ⟨by rfl, ?_⟩) ?_ ?_
                    rotate_left
                    · intro w'
                      go_simp
                      with_reducible rfl
                    rotate_left
                    · simp only [Act.put, List.setIfInBounds_toArray, List.set_cons_zero, List.set_cons_succ, i64_w, i32_w]
                      rfl
                    refine pure_ (i := 4) (N := some 161) (v := ?_) (a' := ?_) #[true, true, true, true, true, false, false, false, false, false, false, false] rfl rfl (by kernel_rfl) (fun _ _ _ h => h) (Or.inl ⟨by rfl, ?_⟩) ?_ ?_
                    rotate_left
                    · intro w'
                      go_simp
                      with_reducible rfl
                    rotate_left
                    · simp only [Act.put, List.setIfInBounds_toArray, List.set_cons_zero, List.set_cons_succ, i64_w, i32_w]
                      rfl
                    refine pure_ (i := 5) (N := some 162) (v := ?_) (a' := ?_) #[true, true, true, true, true, true, false, false, false, false, false, false] rfl rfl (by kernel_rfl) (fun _ _ _ h => h) (Or.inl ⟨by rfl, ?_⟩) ?_ ?_
                    rotate_left
                    · intro w'
                      go_simp
                      with_reducible rfl
                    rotate_left
                    · simp only [Act.put, List.setIfInBounds_toArray, List.set_cons_zero, List.set_cons_succ, i64_w, i32_w]
                      rfl
                    refine pure_ (i := 6) (N := some 163) (v := ?_) (a' := ?_) #[true, true, true, true, true, true, true, false, false, false, false, false] rfl rfl (by kernel_rfl) (fun _ _ _ h => h) (Or.inl ⟨by rfl, ?_⟩) ?_ ?_
                    rotate_left
                    · intro w'
                      go_simp
                      with_reducible rfl
                    rotate_left
                    · simp only [Act.put, List.setIfInBounds_toArray, List.set_cons_zero, List.set_cons_succ, i64_w, i32_w]
                      rfl
                    refine pure_ (i := 7) (N := some 164) (v := ?_) (a' := ?_) #[true, true, true, true, true, true, true, true, false, false, false, false] rfl rfl (by kernel_rfl) (fun _ _ _ h => h) (Or.inl ⟨by rfl, ?_⟩) ?_ ?_
                    rotate_left
                    · intro w'
                      go_simp
                      with_reducible rfl
                    rotate_left
                    · simp only [Act.put, List.setIfInBounds_toArray, List.set_cons_zero, List.set_cons_succ, i64_w, i32_w]
                      rfl
                    refine take_ (i := 8) (N := some 165) (v := ?_) (a' := ?_) #[true, true, true, true, true, true, true, true, true, false, false, false] rfl rfl (by kernel_rfl) (fun _ _ _ h => h) (Or.inl ⟨by rfl, ?_⟩) hHeld ?_ ?_
                    rotate_left
                    · rintro w' ⟨s0, s1, s2, s3, s4, s5, s6, s7, s8, s9⟩
                      go_simp
                      with_reducible rfl
                    rotate_left
                    · simp only [Act.put, List.setIfInBounds_toArray, List.set_cons_zero, List.set_cons_succ, i64_w, i32_w]
                      rfl
                    refine take_ (i := 9) (N := some 166) (v := ?_) (a' := ?_) #[true, true, true, true, true, true, true, true, true, true, false, false] rfl rfl (by kernel_rfl) (fun _ _ _ h => h) (Or.inl ⟨by rfl, ?_⟩) hHeld ?_ ?_
                    rotate_left
                    · rintro w' ⟨s0, s1, s2, s3, s4, s5, s6, s7, s8, s9⟩
                      go_simp
                      with_reducible rfl
                    rotate_left
                    · simp only [Act.put, List.setIfInBounds_toArray, List.set_cons_zero, List.set_cons_succ, i64_w, i32_w]
                      rfl
                    refine pure_ (i := 10) (N := some 167) (v := ?_) (a' := ?_) #[true, true, true, true, true, true, true, true, true, true, true, false] rfl rfl (by kernel_rfl) (fun _ _ _ h => h) (Or.inl ⟨by rfl, ?_⟩) ?_ ?_
                    rotate_left
                    · intro w'
                      go_simp
                      with_reducible rfl
                    rotate_left
                    · simp only [Act.put, List.setIfInBounds_toArray, List.set_cons_zero, List.set_cons_succ, i64_w, i32_w]
                      rfl
                    refine pure_ (i := 11) (N := some 168) (v := ?_) (a' := ?_) #[true, true, true, true, true, true, true, true, true, true, true, true] rfl rfl (by kernel_rfl) (fun _ _ _ h => h) (Or.inl ⟨by rfl, ?_⟩) ?_ ?_
                    rotate_left
                    · intro w'
                      go_simp
                      with_reducible rfl
                    rotate_left
                    · simp only [Act.put, List.setIfInBounds_toArray, List.set_cons_zero, List.set_cons_succ, i64_w, i32_w]
                      rfl
                    refine done_ (by kernel_rfl) ?_

                    have HA9 := Aside0.mk HA8.out.drew
                    have HB9 := Aside0.mk (bl_drew HB8.out)
                    clear nc0 nc1 nc2 nc3 nc4 bc0 bc1 bc2 bc3 bc4 HA8 HB8 g1 g3
                    generalize w8.drew = w9 at HA9 HB9 ⊢
                    go_wp2_with fail
                    obtain ⟨-, -, bc2, -, -, -⟩ := box_cells HA9.out
                    refine start_ (n := 16) (S := fun w' => w'.cell? ⟨bb, 2, none⟩ = some (.int .u8 1)) (ds := []) #[false, false, false, false, false, false, false, false, false, false, false, false, false, false, false, false] (by kernel_rfl) rfl rfl (bc2) (fun hHeld => ?_)
                    refine pure_ (i := 0) (N := some 169) (v := ?_) (a' := ?_) #[true, false, false, false, false, false, false, false, false, false, false, false, false, false, false, false] rfl rfl (by kernel_rfl) (fun _ _ _ h => h) (Or.inl ⟨by rfl, ?_⟩) ?_ ?_
                    rotate_left
                    · intro w'
                      go_simp
                      with_reducible rfl
                    rotate_left
                    · simp only [Act.put, List.setIfInBounds_toArray, List.set_cons_zero, List.set_cons_succ, i64_w, i32_w]
                      rfl
                    refine take_ (i := 1) (N := some 170) (v := ?_) (a' := ?_) #[true, true, false, false, false, false, false, false, false, false, false, false, false, false, false, false] rfl rfl (by kernel_rfl) (fun _ _ _ h => h) (Or.inl ⟨by rfl, ?_⟩) hHeld ?_ ?_
                    rotate_left
                    · intro w' s0
                      go_simp
                      with_reducible rfl
                    rotate_left
                    · simp only [Act.put, List.setIfInBounds_toArray, List.set_cons_zero, List.set_cons_succ, i64_w, i32_w]
                      rfl
                    refine pure_ (i := 2) (N := some 171) (v := ?_) (a' := ?_) #[true, true, true, false, false, false, false, false, false, false, false, false, false, false, false, false] rfl rfl (by kernel_rfl) (fun _ _ _ h => h) (Or.inl ⟨by rfl, ?_⟩) ?_ ?_
                    rotate_left
                    · intro w'
                      go_simp
                      with_reducible rfl
                    rotate_left
                    · simp only [Act.put, List.setIfInBounds_toArray, List.set_cons_zero, List.set_cons_succ, i64_w, i32_w]
                      rfl
                    refine pure_ (i := 3) (N := some 172) (v := ?_) (a' := ?_) #[true, true, true, true, false, false, false, false, false, false, false, false, false, false, false, false] rfl rfl (by kernel_rfl) (fun _ _ _ h => h) (Or.inl ⟨by rfl, ?_⟩) ?_ ?_
                    rotate_left
                    · intro w'
                      go_simp
                      with_reducible rfl
                    rotate_left
                    · simp only [Act.put, List.setIfInBounds_toArray, List.set_cons_zero, List.set_cons_succ, i64_w, i32_w]
                      rfl
                    refine pure_ (i := 4) (N := some 173) (v := undef) (a' := ?_) #[true, true, true, true, true, false, false, false, false, false, false, false, false, false, false, false] rfl rfl (by kernel_rfl) (fun _ _ _ h => h) (Or.inr ⟨by rfl, rfl⟩) ?_ ?_
                    rotate_left
                    · simp only [Act.put, List.setIfInBounds_toArray, List.set_cons_zero, List.set_cons_succ, i64_w, i32_w]
                      rfl
                    refine pure_ (i := 5) (N := some 174) (v := undef) (a' := ?_) #[true, true, true, true, true, true, false, false, false, false, false, false, false, false, false, false] rfl rfl (by kernel_rfl) (fun _ _ _ h => h) (Or.inr ⟨by rfl, rfl⟩) ?_ ?_
                    rotate_left
                    · simp only [Act.put, List.setIfInBounds_toArray, List.set_cons_zero, List.set_cons_succ, i64_w, i32_w]
                      rfl
                    refine pure_ (i := 6) (N := some 175) (v := undef) (a' := ?_) #[true, true, true, true, true, true, true, false, false, false, false, false, false, false, false, false] rfl rfl (by kernel_rfl) (fun _ _ _ h => h) (Or.inr ⟨by rfl, rfl⟩) ?_ ?_
                    rotate_left
                    · simp only [Act.put, List.setIfInBounds_toArray, List.set_cons_zero, List.set_cons_succ, i64_w, i32_w]
                      rfl
                    refine pure_ (i := 7) (N := some 176) (v := undef) (a' := ?_) #[true, true, true, true, true, true, true, true, false, false, false, false, false, false, false, false] rfl rfl (by kernel_rfl) (fun _ _ _ h => h) (Or.inr ⟨by rfl, rfl⟩) ?_ ?_
                    rotate_left
                    · simp only [Act.put, List.setIfInBounds_toArray, List.set_cons_zero, List.set_cons_succ, i64_w, i32_w]
                      rfl
                    refine pure_ (i := 8) (N := some 177) (v := undef) (a' := ?_) #[true, true, true, true, true, true, true, true, true, false, false, false, false, false, false, false] rfl rfl (by kernel_rfl) (fun _ _ _ h => h) (Or.inr ⟨by rfl, rfl⟩) ?_ ?_
                    rotate_left
                    · simp only [Act.put, List.setIfInBounds_toArray, List.set_cons_zero, List.set_cons_succ, i64_w, i32_w]
                      rfl
                    refine pure_ (i := 9) (N := some 178) (v := undef) (a' := ?_) #[true, true, true, true, true, true, true, true, true, true, false, false, false, false, false, false] rfl rfl (by kernel_rfl) (fun _ _ _ h => h) (Or.inr ⟨by rfl, rfl⟩) ?_ ?_
                    rotate_left
                    · simp only [Act.put, List.setIfInBounds_toArray, List.set_cons_zero, List.set_cons_succ, i64_w, i32_w]
                      rfl
                    refine pure_ (i := 10) (N := some 179) (v := undef) (a' := ?_) #[true, true, true, true, true, true, true, true, true, true, true, false, false, false, false, false] rfl rfl (by kernel_rfl) (fun _ _ _ h => h) (Or.inr ⟨by rfl, rfl⟩) ?_ ?_
                    rotate_left
                    · simp only [Act.put, List.setIfInBounds_toArray, List.set_cons_zero, List.set_cons_succ, i64_w, i32_w]
                      rfl
                    refine pure_ (i := 11) (N := some 180) (v := undef) (a' := ?_) #[true, true, true, true, true, true, true, true, true, true, true, true, false, false, false, false] rfl rfl (by kernel_rfl) (fun _ _ _ h => h) (Or.inr ⟨by rfl, rfl⟩) ?_ ?_
                    rotate_left
                    · simp only [Act.put, List.setIfInBounds_toArray, List.set_cons_zero, List.set_cons_succ, i64_w, i32_w]
                      rfl
                    refine pure_ (i := 12) (N := some 181) (v := undef) (a' := ?_) #[true, true, true, true, true, true, true, true, true, true, true, true, true, false, false, false] rfl rfl (by kernel_rfl) (fun _ _ _ h => h) (Or.inr ⟨by rfl, rfl⟩) ?_ ?_
                    rotate_left
                    · simp only [Act.put, List.setIfInBounds_toArray, List.set_cons_zero, List.set_cons_succ, i64_w, i32_w]
                      rfl
                    refine pure_ (i := 13) (N := some 182) (v := undef) (a' := ?_) #[true, true, true, true, true, true, true, true, true, true, true, true, true, true, false, false] rfl rfl (by kernel_rfl) (fun _ _ _ h => h) (Or.inr ⟨by rfl, rfl⟩) ?_ ?_
                    rotate_left
                    · simp only [Act.put, List.setIfInBounds_toArray, List.set_cons_zero, List.set_cons_succ, i64_w, i32_w]
                      rfl
                    refine pure_ (i := 14) (N := some 183) (v := undef) (a' := ?_) #[true, true, true, true, true, true, true, true, true, true, true, true, true, true, true, false] rfl rfl (by kernel_rfl) (fun _ _ _ h => h) (Or.inr ⟨by rfl, rfl⟩) ?_ ?_
                    rotate_left
                    · simp only [Act.put, List.setIfInBounds_toArray, List.set_cons_zero, List.set_cons_succ, i64_w, i32_w]
                      rfl
                    refine pure_ (i := 15) (N := some 184) (v := ?_) (a' := ?_) #[true, true, true, true, true, true, true, true, true, true, true, true, true, true, true, true] rfl rfl (by kernel_rfl) (fun _ _ _ h => h) (Or.inl ⟨by rfl, ?_⟩) ?_ ?_
                    rotate_left
                    · intro w'
                      go_simp
                      with_reducible rfl
                    rotate_left
                    · simp only [Act.put, List.setIfInBounds_toArray, List.set_cons_zero, List.set_cons_succ, i64_w, i32_w]
                      rfl
                    refine done_ (by kernel_rfl) ?_

                    have HA10 := Aside0.mk HA9.out.drew
                    have HB10 := Aside0.mk (bl_drew HB9.out)
                    clear bc2 HA9 HB9
                    generalize w9.drew = w10 at HA10 HB10 ⊢
                    have HLS : Aside0 (headE (fun j => if j = k then some (⟨a0, sx k, 1, at2, t0⟩ : SA) else E' j) (k + 1) = L ++ [(⟨a0, sx k, 1, at2, t0⟩ : SA)]) := ⟨by rw [head_put, HAT2.out.1]; first | rfl | simp⟩
                    have HAT3 := Aside0.mk (HAT2.out.2.put hk6 (e := some (⟨a0, sx k, 1, at2, t0⟩ : SA)) (S' := (S1.set k at2)) (T' := T1) (H' := (H1.set k true)) at2 t0 true (by simp [HZ.out]) (by simp [HZ.out]) (by simp [HZ.out]) (rd_set S1 k at2 (by simp [HZ.out, hk6])) (same_rd T1 k _ HZZ.out.2.1) (rdB_set H1 k true (by simp [HZ.out, hk6])) (.inl ⟨rfl, ht1, _, rfl, rfl, rfl, (show (1 : Int) ≠ 0 by decide), rfl, rfl⟩))
                    have ek := HEK.out
                    have eL := HEL.out
                    have d4 := HD6.out.1
                    go_wp2_with fail
                    go_roundw
                    case rel => exact ⟨k + 1, _, L ++ [(⟨a0, sx k, 1, at2, t0⟩ : SA)], _, _, _, by first | rfl | rw [ek], by first | rfl | (rw [List.length_append]; first | rfl | (rw [eL]; rfl)), by omega, ⟨HLS.out, HAT3.out⟩, ⟨by rw [List.append_assoc]; exact (has_mid HA10.out).tail⟩, HB10⟩
                    case measure => first | (simp [intOf]; omega) | (rw [ek]; simp [intOf]; omega)
            · skip
              as_aux_lemma =>
                have HA5 : Aside0 (Has W.heap.size w5 (hold6 (.slice (some an) N cn2) (L ++ (⟨a0, sx k, if a1 ≤ wrap64 (at2 - s0) then 2 else 1, s0, t0⟩ : SA) :: restE NE (k + 1)) sa cs S1 ta 6 T1 ha ch H1 (.slice (some ax) l3.length cx) (X.set i at2) aa ca ++ [rowS (.slice Ak nk ck) ks])) := ⟨HA5.out⟩
                obtain ⟨cA, cS, cT, cH⟩ := hold_cells HA5.out hk6 (by simp [HZ.out]) (by simp [HZ.out]) (by simp [HZ.out])
                rw [HZZ.out.1] at cS
                rw [HZZ.out.2.1] at cT
                rw [HZZ.out.2.2] at cH
                obtain ⟨hA6, hB6, fh⟩ := put_held HA5.out (k := k) (by simp [HZ.out, hk6]) true
                have HA6 := Aside0.mk hA6
                have HB6 := Aside0.mk (HB5.out.trans hB6)
                have HSV : Aside0 (rd S1 (k : Nat) = s0) := ⟨HZZ.out.1⟩
                clear hA6 hB6 HA5 HB5
                go_wp2_with fail
                generalize w5.setCell (ha.add k) (.bool true) = w6 at HA6 HB6 ⊢
                clear cA cS cT cH fh
                have HTV : rd T1 (k : Nat) = t0 := HZZ.out.2.1
                obtain ⟨cA, cS, cT, cH⟩ := hold_cells HA6.out.drew hk6 (by simp [HZ.out]) (by simp [HZ.out]) (by simp [HZ.out])
                have cT : w6.drew.cell? (ta.add k) = some (.int .i64 t0) := by rw [HTV] at cT; exact cT
                obtain ⟨zc, zf⟩ := zero_cells HA6.out.drew
                obtain ⟨zv0, zc0⟩ := zc 0 (by omega)
                obtain ⟨zv1, zc1⟩ := zc 1 (by omega)
                obtain ⟨zv2, zc2⟩ := zc 2 (by omega)
                obtain ⟨zv3, zc3⟩ := zc 3 (by omega)
                obtain ⟨zv4, zc4⟩ := zc 4 (by omega)
                have zf0 := zf 0
                have zf1 := zf 1
                have zf2 := zf 2
                have zf3 := zf 3
                have zf4 := zf 4
                have hA7 : Has W.heap.size (w6.alloc (.cells #[.int .u32 a0, .string (sx k), .int .u8 0, .int .i64 0, .int .i64 t0] 36)).drew (hold6 (.slice (some an) N cn2) (L ++ (⟨a0, sx k, if a1 ≤ wrap64 (at2 - s0) then 2 else 1, s0, t0⟩ : SA) :: restE NE (k + 1)) sa cs S1 ta 6 T1 ha ch (H1.set k true) (.slice (some ax) l3.length cx) (X.set i at2) aa ca ++ boxA w6.heap.size a0 (sx k) 0 0 t0 :: [rowS (.slice Ak nk ck) ks]) := has_back ((HA6.out.box #[.int .u32 a0, .string (sx k), .int .u8 0, .int .i64 0, .int .i64 t0] 36).drew)
                have HA7 := Aside0.mk hA7
                have HB7 := Aside0.mk (bl_drew (HB6.out.alloc HA6.out.size (.cells #[.int .u32 a0, .string (sx k), .int .u8 0, .int .i64 0, .int .i64 t0] 36)))
                clear zc zf hA7 cS cH
                refine start_ (n := 12) (S := fun w' => w'.cell? (aa.add k) = some (.string (sx k)) ∧ w'.cell? (ta.add k) = some (.int .i64 t0)) (ds := [11]) #[false, false, false, false, false, false, false, false, false, false, false, false] (by kernel_rfl) rfl rfl ⟨cA, cT⟩ (fun hHeld => ?_)
                refine pure_ (i := 0) (N := some 126) (v := ?_) (a' := ?_) #[true, false, false, false, false, false, false, false, false, false, false, false] rfl rfl (by kernel_rfl) (fun _ _ _ h => h) (Or.inl ⟨by rfl, ?_⟩) ?_ ?_
                rotate_left
                · intro w'
                  go_simp
                  with_reducible rfl
                rotate_left
                · simp only [Act.put, List.setIfInBounds_toArray, List.set_cons_zero, List.set_cons_succ, i64_w, i32_w]
                  rfl
                refine pure_ (i := 1) (N := some 127) (v := ?_) (a' := ?_) #[true, true, false, false, false, false, false, false, false, false, false, false] rfl rfl (by kernel_rfl) (fun _ _ _ h => h) (Or.inl ⟨by rfl, ?_⟩) ?_ ?_
                rotate_left
                · intro w'
                  go_simp
                  with_reducible rfl
                rotate_left
                · simp only [Act.put, List.setIfInBounds_toArray, List.set_cons_zero, List.set_cons_succ, i64_w, i32_w]
                  rfl
                refine pure_ (i := 2) (N := some 128) (v := ?_) (a' := ?_) #[true, true, true, false, false, false, false, false, false, false, false, false] rfl rfl (by kernel_rfl) (fun _ _ _ h => h) (Or.inl ⟨by rfl, ?_⟩) ?_ ?_
                rotate_left
                · intro w'
                  go_simp
                  with_reducible rfl
                rotate_left
                · simp only [Act.put, List.setIfInBounds_toArray, List.set_cons_zero, List.set_cons_succ, i64_w, i32_w]
                  rfl
                refine pure_ (i := 3) (N := some 129) (v := ?_) (a' := ?_) #[true, true, true, true, false, false, false, false, false, false, false, false] rfl rfl (by kernel_rfl) (fun _ _ _ h => h) (Or.inl ⟨by rfl, ?_⟩) ?_ ?_
                rotate_left
                · intro w'
                  go_simp
                  with_reducible rfl
                rotate_left
                · simp only [Act.put, List.setIfInBounds_toArray, List.set_cons_zero, List.set_cons_succ, i64_w, i32_w]
                  rfl
                refine pure_ (i := 5) (N := some 131) (v := ?_) (a' := ?_) #[true, true, true, true, false, true, false, false, false, false, false, false] rfl rfl (by kernel_rfl) (fun _ _ _ h => h) (Or.inl ⟨by rfl, ?_⟩) ?_ ?_
                rotate_left
                · intro w'
                  go_simp
                  with_reducible rfl
                rotate_left
                · simp only [Act.put, List.setIfInBounds_toArray, List.set_cons_zero, List.set_cons_succ, i64_w, i32_w]
                  rfl
                refine pure_ (i := 6) (N := some 132) (v := ?_) (a' := ?_) #[true, true, true, true, false, true, true, false, false, false, false, false] rfl rfl (by kernel_rfl) (fun _ _ _ h => h) (Or.inl ⟨by rfl, ?_⟩) ?_ ?_
                rotate_left
                · intro w'
                  go_simp
                  with_reducible rfl
                rotate_left
                · simp only [Act.put, List.setIfInBounds_toArray, List.set_cons_zero, List.set_cons_succ, i64_w, i32_w]
                  rfl
                refine pure_ (i := 7) (N := some 133) (v := ?_) (a' := ?_) #[true, true, true, true, false, true, true, true, false, false, false, false] rfl rfl (by kernel_rfl) (fun _ _ _ h => h) (Or.inl ⟨by rfl, ?_⟩) ?_ ?_
                rotate_left
                · intro w'
                  go_simp
                  with_reducible rfl
                rotate_left
                · simp only [Act.put, List.setIfInBounds_toArray, List.set_cons_zero, List.set_cons_succ, i64_w, i32_w]
                  rfl
                refine take_ (i := 4) (N := some 130) (v := ?_) (a' := ?_) #[true, true, true, true, true, true, true, true, false, false, false, false] rfl rfl (by kernel_rfl) (fun _ _ _ h => h) (Or.inl ⟨by rfl, ?_⟩) hHeld ?_ ?_
                rotate_left
                · rintro w' ⟨s0, s1⟩
                  go_simp
                  with_reducible rfl
                rotate_left
                · simp only [Act.put, List.setIfInBounds_toArray, List.set_cons_zero, List.set_cons_succ, i64_w, i32_w]
                  rfl
                refine take_ (i := 8) (N := some 134) (v := ?_) (a' := ?_) #[true, true, true, true, true, true, true, true, true, false, false, false] rfl rfl (by kernel_rfl) (fun _ _ _ h => h) (Or.inl ⟨by rfl, ?_⟩) hHeld ?_ ?_
                rotate_left
                · rintro w' ⟨s0, s1⟩
                  go_simp
                  with_reducible rfl
                rotate_left
                · simp only [Act.put, List.setIfInBounds_toArray, List.set_cons_zero, List.set_cons_succ, i64_w, i32_w]
                  rfl
                refine pure_ (i := 9) (N := some 135) (v := ?_) (a' := ?_) #[true, true, true, true, true, true, true, true, true, true, false, false] rfl rfl (by kernel_rfl) (fun _ _ _ h => h) (Or.inl ⟨by rfl, ?_⟩) ?_ ?_
                rotate_left
                · intro w'
                  go_simp
                  with_reducible rfl
                rotate_left
                · simp only [Act.put, List.setIfInBounds_toArray, List.set_cons_zero, List.set_cons_succ, i64_w, i32_w]
                  rfl
                refine one_ (i := 10) (N := some 21) #[true, true, true, true, true, true, true, true, true, true, true, false] rfl rfl (by kernel_rfl) (by decide) (fun K hK => ?_)
                refine value_ (w1 := ?_) (v := ?_) (by rfl) rfl ?_ ?_
                rotate_left 2
                · go_simp
                  constructor
                  · rfl
                  · rfl
                refine hK.out _ _ ⟨c_al _ cA, c_al _ cT⟩ (fun hHeld => ?_)
                clear hK K
                refine norm_ (a' := ?_) ?_ ?_
                rotate_left
                · show Act.put _ (some 21) _ = _
                  simp only [Act.put, List.setIfInBounds_toArray, List.set_cons_zero, List.set_cons_succ, i64_w, i32_w]
                  rfl
                refine last_ (i := 11) (N := none) #[true, true, true, true, true, true, true, true, true, true, true, true] rfl rfl (by kernel_rfl) (by decide) (fun K hK => ?_)
                refine skip_ (w1 := ?_) (by rfl) rfl ?_ ?_
                rotate_left
                · go_simp
                  rfl
                refine hK.out _ _ ?_
                clear hK K
                refine done_ (by kernel_rfl) ?_

                clear zc0 zc1 zc2 zc3 zc4 zf0 zf1 zf2 zf3 zf4 cA cT
                generalize (w6.alloc (.cells #[.int .u32 a0, .string (sx k), .int .u8 0, .int .i64 0, .int .i64 t0] 36)).drew = w7 at HA7 HB7 ⊢
                generalize w6.heap.size = bb at HA7 ⊢
                clear HTV HA6 HB6
                obtain ⟨-, cS, -, -⟩ := hold_cells HA7.out hk6 (by simp [HZ.out]) (by simp [HZ.out]) (by simp [HZ.out])
                rw [HSV.out] at cS
                obtain ⟨-, -, -, bc3, -, bf⟩ := box_cells HA7.out
                have f3 := bf 3
                obtain ⟨hA8, hB8⟩ := box_put HA7.out 3 (.int .i64 s0)
                have hA8 : Has W.heap.size (w7.setCell ⟨bb, 3, none⟩ (.int .i64 s0)) (hold6 (.slice (some an) N cn2) (L ++ (⟨a0, sx k, if a1 ≤ wrap64 (at2 - s0) then 2 else 1, s0, t0⟩ : SA) :: restE NE (k + 1)) sa cs S1 ta 6 T1 ha ch (H1.set k true) (.slice (some ax) l3.length cx) (X.set i at2) aa ca ++ boxA bb a0 (sx k) 0 s0 t0 :: [rowS (.slice Ak nk ck) ks]) := hA8
                obtain ⟨-, -, bc2, -, -, bf2⟩ := box_cells hA8
                have f2 := bf2 2
                obtain ⟨hA9, hB9⟩ := box_put hA8 2 (.int .u8 1)
                have hA9 : Has W.heap.size ((w7.setCell ⟨bb, 3, none⟩ (.int .i64 s0)).setCell ⟨bb, 2, none⟩ (.int .u8 1)) (hold6 (.slice (some an) N cn2) (L ++ (⟨a0, sx k, if a1 ≤ wrap64 (at2 - s0) then 2 else 1, s0, t0⟩ : SA) :: restE NE (k + 1)) sa cs S1 ta 6 T1 ha ch (H1.set k true) (.slice (some ax) l3.length cx) (X.set i at2) aa ca ++ boxA bb a0 (sx k) 1 s0 t0 :: [rowS (.slice Ak nk ck) ks]) := hA9
                obtain ⟨-, cS2, -, -⟩ := hold_cells hA9 hk6 (by simp [HZ.out]) (by simp [HZ.out]) (by simp [HZ.out])
                rw [HSV.out] at cS2
                obtain ⟨-, -, bc22, -, -, bf3⟩ := box_cells hA9
                have f4 := bf3 2
                obtain ⟨hA10, hB10⟩ := box_put hA9 2 (.int .u8 2)
                have hA10 : Has W.heap.size (((w7.setCell ⟨bb, 3, none⟩ (.int .i64 s0)).setCell ⟨bb, 2, none⟩ (.int .u8 1)).setCell ⟨bb, 2, none⟩ (.int .u8 2)) (hold6 (.slice (some an) N cn2) (L ++ (⟨a0, sx k, if a1 ≤ wrap64 (at2 - s0) then 2 else 1, s0, t0⟩ : SA) :: restE NE (k + 1)) sa cs S1 ta 6 T1 ha ch (H1.set k true) (.slice (some ax) l3.length cx) (X.set i at2) aa ca ++ boxA bb a0 (sx k) 2 s0 t0 :: [rowS (.slice Ak nk ck) ks]) := hA10
                have HA9 := Aside0.mk hA9
                have HB9 := Aside0.mk ((HB7.out.trans hB8).trans hB9)
                have HA10 := Aside0.mk hA10
                have HB10 := Aside0.mk (((HB7.out.trans hB8).trans hB9).trans hB10)
                clear hA8 hB8 hA9 hB9 hA10 hB10 bf bf2 bf3 HA7 HB7
                by_cases c : a1 ≤ wrap64 (at2 - s0)
                · have d7 : decide (wrap64 (at2 - s0) ≥ a1) = true := decide_eq_true c
                  as_aux_lemma =>
                    have HA8 : Aside0 (Has W.heap.size (((w7.setCell ⟨bb, 3, none⟩ (.int .i64 s0)).setCell ⟨bb, 2, none⟩ (.int .u8 1)).setCell ⟨bb, 2, none⟩ (.int .u8 2)) (hold6 (.slice (some an) N cn2) (L ++ (⟨a0, sx k, 2, s0, t0⟩ : SA) :: restE NE (k + 1)) sa cs S1 ta 6 T1 ha ch (H1.set k true) (.slice (some ax) l3.length cx) (X.set i at2) aa ca ++ boxA bb a0 (sx k) 2 s0 t0 :: [rowS (.slice Ak nk ck) ks])) := ⟨by have := HA10.out; rw [if_pos c] at this; exact this⟩
                    have HB8 := HB10
                    clear HA9 HB9 HA10 HB10
                    go_wp2_with fail
                    generalize (((w7.setCell ⟨bb, 3, none⟩ (.int .i64 s0)).setCell ⟨bb, 2, none⟩ (.int .u8 1)).setCell ⟨bb, 2, none⟩ (.int .u8 2)) = w8 at HA8 HB8 ⊢
                    clear cS bc3 f3 bc2 f2 cS2 bc22 f4 d7 c
                    obtain ⟨nc0, nc1, nc2, nc3, nc4⟩ := now_cells HA8.out
                    dsimp only at nc0 nc1 nc2 nc3 nc4
                    obtain ⟨bc0, bc1, bc2, bc3, bc4, -⟩ := box_cells HA8.out
                    obtain ⟨hNN, -, -⟩ := row_reads HA8.out (d := kA) (e := 36) (A := some an) (n := N) (c := cn2) (xs := (L ++ (⟨a0, sx k, 2, s0, t0⟩ : SA) :: restE NE (k + 1))) (.head _)
                    rw [List.length_append, List.length_cons] at hNN
                    have g1 : decide ((L.length : Int) ≥ (N : Int)) = false := decide_eq_false (by omega)
                    have g2 : decide ((L.length : Int) < (N : Int)) = true := decide_eq_true (by omega)
                    have g3 : ¬ N ≤ L.length := by omega
                    have g4 : L.length < N := by omega
                    clear hNN
                    go_wp2_with fail
                    refine start_ (n := 12) (S := fun w' => w'.cell? (an.add (L.length * 5)) = some (.int .u32 a0) ∧ w'.cell? ⟨(an.add (L.length * 5)).block, (an.add (L.length * 5)).off + 1, none⟩ = some (.string (sx k)) ∧ w'.cell? ⟨(an.add (L.length * 5)).block, (an.add (L.length * 5)).off + 2, none⟩ = some (.int .u8 2) ∧ w'.cell? ⟨(an.add (L.length * 5)).block, (an.add (L.length * 5)).off + 3, none⟩ = some (.int .i64 s0) ∧ w'.cell? ⟨(an.add (L.length * 5)).block, (an.add (L.length * 5)).off + 4, none⟩ = some (.int .i64 t0) ∧ w'.cell? ⟨bb, 0, none⟩ = some (.int .u32 a0) ∧ w'.cell? ⟨bb, 1, none⟩ = some (.string (sx k)) ∧ w'.cell? ⟨bb, 2, none⟩ = some (.int .u8 2) ∧ w'.cell? ⟨bb, 3, none⟩ = some (.int .i64 s0) ∧ w'.cell? ⟨bb, 4, none⟩ = some (.int .i64 t0)) (ds := []) #[false, false, false, false, false, false, false, false, false, false, false, false] (by kernel_rfl) rfl rfl ⟨nc0, nc1, nc2, nc3, nc4, bc0, bc1, bc2, bc3, bc4⟩ (fun hHeld => ?_)
                    refine pure_ (i := 0) (N := some 157) (v := ?_) (a' := ?_) #[true, false, false, false, false, false, false, false, false, false, false, false] rfl rfl (by kernel_rfl) (fun _ _ _ h => h) (Or.inl ⟨by rfl, ?_⟩) ?_ ?_
                    rotate_left
                    · intro w'
                      go_simp
                      with_reducible rfl
                    rotate_left
                    · simp only [Act.put, List.setIfInBounds_toArray, List.set_cons_zero, List.set_cons_succ, i64_w, i32_w]
                      rfl
                    refine pure_ (i := 1) (N := some 158) (v := ?_) (a' := ?_) #[true, true, false, false, false, false, false, false, false, false, false, false] rfl rfl (by kernel_rfl) (fun _ _ _ h => h) (Or.inl ⟨by rfl, ?_⟩) ?_ ?_
                    rotate_left
                    · intro w'
                      go_simp
                      with_reducible rfl
                    rotate_left
                    · simp only [Act.put, List.setIfInBounds_toArray, List.set_cons_zero, List.set_cons_succ, i64_w, i32_w]
                      rfl
                    refine pure_ (i := 2) (N := some 159) (v := ?_) (a' := ?_) #[true, true, true, false, false, false, false, false, false, false, false, false] rfl rfl (by kernel_rfl) (fun _ _ _ h => h) (Or.inl ⟨by rfl, ?_⟩) ?_ ?_
                    rotate_left
                    · intro w'
                      go_simp
                      with_reducible rfl
                    rotate_left
                    · simp only [Act.put, List.setIfInBounds_toArray, List.set_cons_zero, List.set_cons_succ, i64_w, i32_w]
                      rfl
                    refine pure_ (i := 3) (N := some 160) (v := ?_) (a' := ?_) #[true, true, true, true, false, false, false, false, false, false, false, false] rfl rfl (by kernel_rfl) (fun _ _ _ h => h) (Or.inl ⟨by rfl, ?_⟩) ?_ ?_
                    rotate_left
                    · intro w'
                      go_simp
                      with_reducible rfl
                    rotate_left
                    · simp only [Act.put, List.setIfInBounds_toArray, List.set_cons_zero, List.set_cons_succ, i64_w, i32_w]
                      rfl
                    refine pure_ (i := 4) (N := some 161) (v := ?_) (a' := ?_) #[true, true, true, true, true, false, false, false, false, false, false, false] rfl rfl (by kernel_rfl) (fun _ _ _ h => h) (Or.inl ⟨by rfl, ?_⟩) ?_ ?_
                    rotate_left
                    · intro w'
                      go_simp
                      with_reducible rfl
                    rotate_left
                    · simp only [Act.put, List.setIfInBounds_toArray, List.set_cons_zero, List.set_cons_succ, i64_w, i32_w]
                      rfl
                    refine pure_ (i := 5) (N := some 162) (v := ?_) (a' := ?_) #[true, true, true, true, true, true, false, false, false, false, false, false] rfl rfl (by kernel_rfl) (fun _ _ _ h => h) (Or.inl ⟨by rfl, ?_⟩) ?_ ?_
                    rotate_left
                    · intro w'
                      go_simp
                      with_reducible rfl
                    rotate_left
                    · simp only [Act.put, List.setIfInBounds_toArray, List.set_cons_zero, List.set_cons_succ, i64_w, i32_w]
                      rfl
                    refine pure_ (i := 6) (N := some 163) (v := ?_) (a' := ?_) #[true, true, true, true, true, true, true, false, false, false, false, false] rfl rfl (by kernel_rfl) (fun _ _ _ h => h) (Or.inl ⟨by rfl, ?_⟩) ?_ ?_
                    rotate_left
                    · intro w'
                      go_simp
                      with_reducible rfl
                    rotate_left
                    · simp only [Act.put, List.setIfInBounds_toArray, List.set_cons_zero, List.set_cons_succ, i64_w, i32_w]
                      rfl
                    refine pure_ (i := 7) (N := some 164) (v := ?_) (a' := ?_) #[true, true, true, true, true, true, true, true, false, false, false, false] rfl rfl (by kernel_rfl) (fun _ _ _ h => h) (Or.inl ⟨by rfl, ?_⟩) ?_ ?_
                    rotate_left
                    · intro w'
                      go_simp
                      with_reducible rfl
                    rotate_left
                    · simp only [Act.put, List.setIfInBounds_toArray, List.set_cons_zero, List.set_cons_succ, i64_w, i32_w]
                      rfl
                    refine take_ (i := 8) (N := some 165) (v := ?_) (a' := ?_) #[true, true, true, true, true, true, true, true, true, false, false, false] rfl rfl (by kernel_rfl) (fun _ _ _ h => h) (Or.inl ⟨by rfl, ?_⟩) hHeld ?_ ?_
                    rotate_left
                    · rintro w' ⟨s0, s1, s2, s3, s4, s5, s6, s7, s8, s9⟩
                      go_simp
                      with_reducible rfl
                    rotate_left
                    · simp only [Act.put, List.setIfInBounds_toArray, List.set_cons_zero, List.set_cons_succ, i64_w, i32_w]
                      rfl
                    refine take_ (i := 9) (N := some 166) (v := ?_) (a' := ?_) #[true, true, true, true, true, true, true, true, true, true, false, false] rfl rfl (by kernel_rfl) (fun _ _ _ h => h) (Or.inl ⟨by rfl, ?_⟩) hHeld ?_ ?_
                    rotate_left
                    · rintro w' ⟨s0, s1, s2, s3, s4, s5, s6, s7, s8, s9⟩
                      go_simp
                      with_reducible rfl
                    rotate_left
                    · simp only [Act.put, List.setIfInBounds_toArray, List.set_cons_zero, List.set_cons_succ, i64_w, i32_w]
                      rfl
                    refine pure_ (i := 10) (N := some 167) (v := ?_) (a' := ?_) #[true, true, true, true, true, true, true, true, true, true, true, false] rfl rfl (by kernel_rfl) (fun _ _ _ h => h) (Or.inl ⟨by rfl, ?_⟩) ?_ ?_
                    rotate_left
                    · intro w'
                      go_simp
                      with_reducible rfl
                    rotate_left
                    · simp only [Act.put, List.setIfInBounds_toArray, List.set_cons_zero, List.set_cons_succ, i64_w, i32_w]
                      rfl
                    refine pure_ (i := 11) (N := some 168) (v := ?_) (a' := ?_) #[true, true, true, true, true, true, true, true, true, true, true, true] rfl rfl (by kernel_rfl) (fun _ _ _ h => h) (Or.inl ⟨by rfl, ?_⟩) ?_ ?_
                    rotate_left
                    · intro w'
                      go_simp
                      with_reducible rfl
                    rotate_left
                    · simp only [Act.put, List.setIfInBounds_toArray, List.set_cons_zero, List.set_cons_succ, i64_w, i32_w]
                      rfl
                    refine done_ (by kernel_rfl) ?_

                    have HA9 := Aside0.mk HA8.out.drew
                    have HB9 := Aside0.mk (bl_drew HB8.out)
                    clear nc0 nc1 nc2 nc3 nc4 bc0 bc1 bc2 bc3 bc4 HA8 HB8 g1 g3
                    generalize w8.drew = w9 at HA9 HB9 ⊢
                    go_wp2_with fail
                    obtain ⟨cA, -, -, -⟩ := hold_cells HA9.out hk6 (by simp [HZ.out]) (by simp [HZ.out]) (by simp [HZ.out])
                    obtain ⟨-, -, bc2, -, -, -⟩ := box_cells HA9.out
                    have cL := pw_cell_below HB9.out QI.out
                    have HNM := Aside0.mk (names_c HA9.out.drew x2)
                    have d2 := HD.out.1
                    have d3 := HD.out.2
                    refine start_ (n := 16) (S := fun w' => w'.cell? ⟨bb, 2, none⟩ = some (.int .u8 2) ∧ w'.cell? ⟨(ad3.add (i * 3)).block, (ad3.add (i * 3)).off + 2, none⟩ = some (.int .i64 x2) ∧ w'.cell? (aa.add k) = some (.string (sx k))) (ds := [14]) #[false, false, false, false, false, false, false, false, false, false, false, false, false, false, false, false] (by kernel_rfl) rfl rfl ⟨bc2, cL, cA⟩ (fun hHeld => ?_)
                    refine pure_ (i := 0) (N := some 169) (v := ?_) (a' := ?_) #[true, false, false, false, false, false, false, false, false, false, false, false, false, false, false, false] rfl rfl (by kernel_rfl) (fun _ _ _ h => h) (Or.inl ⟨by rfl, ?_⟩) ?_ ?_
                    rotate_left
                    · intro w'
                      go_simp
                      with_reducible rfl
                    rotate_left
                    · simp only [Act.put, List.setIfInBounds_toArray, List.set_cons_zero, List.set_cons_succ, i64_w, i32_w]
                      rfl
                    refine take_ (i := 1) (N := some 170) (v := ?_) (a' := ?_) #[true, true, false, false, false, false, false, false, false, false, false, false, false, false, false, false] rfl rfl (by kernel_rfl) (fun _ _ _ h => h) (Or.inl ⟨by rfl, ?_⟩) hHeld ?_ ?_
                    rotate_left
                    · rintro w' ⟨s0, s1, s2⟩
                      go_simp
                      with_reducible rfl
                    rotate_left
                    · simp only [Act.put, List.setIfInBounds_toArray, List.set_cons_zero, List.set_cons_succ, i64_w, i32_w]
                      rfl
                    refine pure_ (i := 2) (N := some 171) (v := ?_) (a' := ?_) #[true, true, true, false, false, false, false, false, false, false, false, false, false, false, false, false] rfl rfl (by kernel_rfl) (fun _ _ _ h => h) (Or.inl ⟨by rfl, ?_⟩) ?_ ?_
                    rotate_left
                    · intro w'
                      go_simp
                      with_reducible rfl
                    rotate_left
                    · simp only [Act.put, List.setIfInBounds_toArray, List.set_cons_zero, List.set_cons_succ, i64_w, i32_w]
                      rfl
                    refine pure_ (i := 3) (N := some 172) (v := ?_) (a' := ?_) #[true, true, true, true, false, false, false, false, false, false, false, false, false, false, false, false] rfl rfl (by kernel_rfl) (fun _ _ _ h => h) (Or.inl ⟨by rfl, ?_⟩) ?_ ?_
                    rotate_left
                    · intro w'
                      go_simp
                      with_reducible rfl
                    rotate_left
                    · simp only [Act.put, List.setIfInBounds_toArray, List.set_cons_zero, List.set_cons_succ, i64_w, i32_w]
                      rfl
                    refine pure_ (i := 4) (N := some 173) (v := ?_) (a' := ?_) #[true, true, true, true, true, false, false, false, false, false, false, false, false, false, false, false] rfl rfl (by kernel_rfl) (fun _ _ _ h => h) (Or.inl ⟨by rfl, ?_⟩) ?_ ?_
                    rotate_left
                    · intro w'
                      go_simp
                      with_reducible rfl
                    rotate_left
                    · simp only [Act.put, List.setIfInBounds_toArray, List.set_cons_zero, List.set_cons_succ, i64_w, i32_w]
                      rfl
                    refine pure_ (i := 5) (N := some 174) (v := ?_) (a' := ?_) #[true, true, true, true, true, true, false, false, false, false, false, false, false, false, false, false] rfl rfl (by kernel_rfl) (fun _ _ _ h => h) (Or.inl ⟨by rfl, ?_⟩) ?_ ?_
                    rotate_left
                    · intro w'
                      go_simp
                      with_reducible rfl
                    rotate_left
                    · simp only [Act.put, List.setIfInBounds_toArray, List.set_cons_zero, List.set_cons_succ, i64_w, i32_w]
                      rfl
                    refine pure_ (i := 6) (N := some 175) (v := ?_) (a' := ?_) #[true, true, true, true, true, true, true, false, false, false, false, false, false, false, false, false] rfl rfl (by kernel_rfl) (fun _ _ _ h => h) (Or.inl ⟨by rfl, ?_⟩) ?_ ?_
                    rotate_left
                    · intro w'
                      go_simp
                      with_reducible rfl
                    rotate_left
                    · simp only [Act.put, List.setIfInBounds_toArray, List.set_cons_zero, List.set_cons_succ, i64_w, i32_w]
                      rfl
                    refine pure_ (i := 7) (N := some 176) (v := ?_) (a' := ?_) #[true, true, true, true, true, true, true, true, false, false, false, false, false, false, false, false] rfl rfl (by kernel_rfl) (fun _ _ _ h => h) (Or.inl ⟨by rfl, ?_⟩) ?_ ?_
                    rotate_left
                    · intro w'
                      go_simp
                      with_reducible rfl
                    rotate_left
                    · simp only [Act.put, List.setIfInBounds_toArray, List.set_cons_zero, List.set_cons_succ, i64_w, i32_w]
                      rfl
                    refine pure_ (i := 10) (N := some 179) (v := ?_) (a' := ?_) #[true, true, true, true, true, true, true, true, false, false, true, false, false, false, false, false] rfl rfl (by kernel_rfl) (fun _ _ _ h => h) (Or.inl ⟨by rfl, ?_⟩) ?_ ?_
                    rotate_left
                    · intro w'
                      go_simp
                      with_reducible rfl
                    rotate_left
                    · simp only [Act.put, List.setIfInBounds_toArray, List.set_cons_zero, List.set_cons_succ, i64_w, i32_w]
                      rfl
                    refine pure_ (i := 11) (N := some 180) (v := ?_) (a' := ?_) #[true, true, true, true, true, true, true, true, false, false, true, true, false, false, false, false] rfl rfl (by kernel_rfl) (fun _ _ _ h => h) (Or.inl ⟨by rfl, ?_⟩) ?_ ?_
                    rotate_left
                    · intro w'
                      go_simp
                      with_reducible rfl
                    rotate_left
                    · simp only [Act.put, List.setIfInBounds_toArray, List.set_cons_zero, List.set_cons_succ, i64_w, i32_w]
                      rfl
                    refine pure_ (i := 12) (N := some 181) (v := ?_) (a' := ?_) #[true, true, true, true, true, true, true, true, false, false, true, true, true, false, false, false] rfl rfl (by kernel_rfl) (fun _ _ _ h => h) (Or.inl ⟨by rfl, ?_⟩) ?_ ?_
                    rotate_left
                    · intro w'
                      go_simp
                      with_reducible rfl
                    rotate_left
                    · simp only [Act.put, List.setIfInBounds_toArray, List.set_cons_zero, List.set_cons_succ, i64_w, i32_w]
                      rfl
                    refine take_ (i := 8) (N := some 177) (v := ?_) (a' := ?_) #[true, true, true, true, true, true, true, true, true, false, true, true, true, false, false, false] rfl rfl (by kernel_rfl) (fun _ _ _ h => h) (Or.inl ⟨by rfl, ?_⟩) hHeld ?_ ?_
                    rotate_left
                    · rintro w' ⟨s0, s1, s2⟩
                      go_simp
                      with_reducible rfl
                    rotate_left
                    · simp only [Act.put, List.setIfInBounds_toArray, List.set_cons_zero, List.set_cons_succ, i64_w, i32_w]
                      rfl
                    refine take_ (i := 13) (N := some 182) (v := ?_) (a' := ?_) #[true, true, true, true, true, true, true, true, true, false, true, true, true, true, false, false] rfl rfl (by kernel_rfl) (fun _ _ _ h => h) (Or.inl ⟨by rfl, ?_⟩) hHeld ?_ ?_
                    rotate_left
                    · rintro w' ⟨s0, s1, s2⟩
                      go_simp
                      with_reducible rfl
                    rotate_left
                    · simp only [Act.put, List.setIfInBounds_toArray, List.set_cons_zero, List.set_cons_succ, i64_w, i32_w]
                      rfl
                    refine one_ (i := 9) (N := some 178) #[true, true, true, true, true, true, true, true, true, true, true, true, true, true, false, false] rfl rfl (by kernel_rfl) (by decide) (fun K hK => ?_)
                    refine goes_ Try.func10 (by kernel_rfl) rfl #[.int .i64 x2] (by rfl) rfl rfl (by simp only [List.map_toArray, List.map_cons, List.map_nil]; rfl) ?_
                    with_reducible refine (HNM.out).mono ?_
                    rintro e w10 ⟨v10, ks2, rfl, hin2, hA10, hB10⟩
                    refine ⟨_, rfl, ?_⟩
                    obtain ⟨A10, c10, rfl, -, -⟩ := hA10.reads (d := kS) (e := 9) (v := v10) (xs := ks2) (by simp)
                    obtain ⟨u2, -, -, -⟩ := hold_cells hA10.tail hk6 (by simp [HZ.out]) (by simp [HZ.out]) (by simp [HZ.out])
                    obtain ⟨-, -, u0, -, -, -⟩ := box_cells hA10.tail
                    have u1 := pw_cell_below ((bl_drew HB9.out).trans hB10) QI.out
                    have HH2 := Aside0.mk (has_c hA10 (A := A10) (n := ks2.length) (c := c10) (l := ks2) (by simp) (by have := hin2.1; omega) (sx k))
                    generalize hasK ks2 (sx k).data.toList = b2 at HH2
                    have HA10 := Aside0.mk hA10.tail
                    have HB10 := Aside0.mk ((bl_drew HB9.out).trans hB10)
                    clear hA10 hB10 hin2
                    refine hK.out _ _ ⟨u0, u1, u2⟩ (fun hHeld => ?_)
                    clear hK K
                    refine norm_ (a' := ?_) ?_ ?_
                    rotate_left
                    · show Act.put _ (some 178) _ = _
                      simp only [Act.put, List.setIfInBounds_toArray, List.set_cons_zero, List.set_cons_succ, i64_w, i32_w]
                      rfl
                    refine last_ (i := 14) (N := some 183) #[true, true, true, true, true, true, true, true, true, true, true, true, true, true, true, false] rfl rfl (by kernel_rfl) (by decide) (fun K hK => ?_)
                    refine goes_ Try.func12 (by kernel_rfl) rfl #[.slice A10 ks2.length c10, .string (sx k)] (by rfl) rfl rfl (by simp only [List.map_toArray, List.map_cons, List.map_nil]; rfl) ?_
                    with_reducible refine (HH2.out).mono ?_
                    rintro e w11 ⟨rfl, ⟨n11, rfl⟩⟩
                    refine ⟨_, rfl, ?_⟩
                    refine hK.out _ _ ?_
                    clear hK K
                    refine norm_ (a' := ?_) ?_ ?_
                    rotate_left
                    · show Act.put _ (some 183) _ = _
                      simp only [Act.put, List.setIfInBounds_toArray, List.set_cons_zero, List.set_cons_succ, i64_w, i32_w]
                      rfl
                    refine pure_ (i := 15) (N := some 184) (v := ?_) (a' := ?_) #[true, true, true, true, true, true, true, true, true, true, true, true, true, true, true, true] rfl rfl (by kernel_rfl) (fun _ _ _ h => h) (Or.inl ⟨by rfl, ?_⟩) ?_ ?_
                    rotate_left
                    · intro w'
                      go_simp
                      with_reducible rfl
                    rotate_left
                    · simp only [Act.put, List.setIfInBounds_toArray, List.set_cons_zero, List.set_cons_succ, i64_w, i32_w]
                      rfl
                    refine done_ (by kernel_rfl) ?_

                    have HA11 := Aside0.mk (HA10.out.drewN n11)
                    have HB11 := Aside0.mk (bl_drewN HB10.out n11)
                    clear cA bc2 cL u0 u1 u2 HNM HH2 HA9 HB9 HA10 HB10 d2 d3
                    generalize w10.drewN n11 = w11 at HA11 HB11 ⊢
                    cases b2
                    · skip
                      have HLS : Aside0 (headE (fun j => if j = k then some (⟨a0, sx k, 2, s0, t0⟩ : SA) else E' j) (k + 1) = L ++ [(⟨a0, sx k, 2, s0, t0⟩ : SA)]) := ⟨by rw [head_put, HAT2.out.1]; first | rfl | simp⟩
                      have HAT3 := Aside0.mk (HAT2.out.2.put hk6 (e := some (⟨a0, sx k, 2, s0, t0⟩ : SA)) (S' := S1) (T' := T1) (H' := (H1.set k true)) s0 t0 true (by simp [HZ.out]) (by simp [HZ.out]) (by simp [HZ.out]) (same_rd S1 k _ HZZ.out.1) (same_rd T1 k _ HZZ.out.2.1) (rdB_set H1 k true (by simp [HZ.out, hk6])) (.inl ⟨rfl, ht1, _, rfl, rfl, rfl, (show (2 : Int) ≠ 0 by decide), rfl, rfl⟩))
                      have ek := HEK.out
                      have eL := HEL.out
                      have d4 := HD6.out.1
                      go_wp2_with fail
                      go_roundw
                      case rel => exact ⟨k + 1, _, L ++ [(⟨a0, sx k, 2, s0, t0⟩ : SA)], _, _, _, by first | rfl | rw [ek], by first | rfl | (rw [List.length_append]; first | rfl | (rw [eL]; rfl)), by omega, ⟨HLS.out, HAT3.out⟩, ⟨by rw [List.append_assoc]; exact (has_mid HA11.out).tail⟩, HB11⟩
                      case measure => first | (simp [intOf]; omega) | (rw [ek]; simp [intOf]; omega)
                    · skip
                      obtain ⟨-, -, -, -, nc4⟩ := now_cells HA11.out
                      dsimp only at nc4
                      obtain ⟨hA12, hB12, fn⟩ := put_now HA11.out at2
                      dsimp only at hA12
                      obtain ⟨-, -, cT, -⟩ := hold_cells hA12 hk6 (by simp [HZ.out]) (by simp [HZ.out]) (by simp [HZ.out])
                      obtain ⟨hA13, hB13, ft⟩ := put_told hA12 (k := k) (by simp [HZ.out, hk6]) at2
                      have HA13 := Aside0.mk (has_mid hA13).tail
                      have HB13 := Aside0.mk ((HB11.out.trans hB12).trans hB13)
                      have hat := HAT.out.2.1
                      clear hA12 hB12 hA13 hB13
                      have HLS : Aside0 (headE (fun j => if j = k then some (⟨a0, sx k, 2, s0, at2⟩ : SA) else E' j) (k + 1) = L ++ [(⟨a0, sx k, 2, s0, at2⟩ : SA)]) := ⟨by rw [head_put, HAT2.out.1]; first | rfl | simp⟩
                      have HAT3 := Aside0.mk (HAT2.out.2.put hk6 (e := some (⟨a0, sx k, 2, s0, at2⟩ : SA)) (S' := S1) (T' := (T1.set k at2)) (H' := (H1.set k true)) s0 at2 true (by simp [HZ.out]) (by simp [HZ.out]) (by simp [HZ.out]) (same_rd S1 k _ HZZ.out.1) (rd_set T1 k at2 (by simp [HZ.out, hk6])) (rdB_set H1 k true (by simp [HZ.out, hk6])) (.inl ⟨rfl, by omega, _, rfl, rfl, rfl, (show (2 : Int) ≠ 0 by decide), rfl, rfl⟩))
                      have ek := HEK.out
                      have eL := HEL.out
                      have d4 := HD6.out.1
                      go_wp2_with fail
                      go_roundw
                      case rel => exact ⟨k + 1, _, L ++ [(⟨a0, sx k, 2, s0, at2⟩ : SA)], _, _, _, by first | rfl | rw [ek], by first | rfl | (rw [List.length_append]; first | rfl | (rw [eL]; rfl)), by omega, ⟨HLS.out, HAT3.out⟩, ⟨by rw [List.append_assoc]; exact HA13.out⟩, HB13⟩
                      case measure => first | (simp [intOf]; omega) | (rw [ek]; simp [intOf]; omega)
                · have d7 : decide (wrap64 (at2 - s0) ≥ a1) = false := decide_eq_false c
                  as_aux_lemma =>
                    have HA8 : Aside0 (Has W.heap.size ((w7.setCell ⟨bb, 3, none⟩ (.int .i64 s0)).setCell ⟨bb, 2, none⟩ (.int .u8 1)) (hold6 (.slice (some an) N cn2) (L ++ (⟨a0, sx k, 1, s0, t0⟩ : SA) :: restE NE (k + 1)) sa cs S1 ta 6 T1 ha ch (H1.set k true) (.slice (some ax) l3.length cx) (X.set i at2) aa ca ++ boxA bb a0 (sx k) 1 s0 t0 :: [rowS (.slice Ak nk ck) ks])) := ⟨by have := HA9.out; rw [if_neg c] at this; exact this⟩
                    have HB8 := HB9
                    clear HA9 HB9 HA10 HB10
                    go_wp2_with fail
                    generalize ((w7.setCell ⟨bb, 3, none⟩ (.int .i64 s0)).setCell ⟨bb, 2, none⟩ (.int .u8 1)) = w8 at HA8 HB8 ⊢
                    clear cS bc3 f3 bc2 f2 cS2 bc22 f4 d7 c
                    obtain ⟨nc0, nc1, nc2, nc3, nc4⟩ := now_cells HA8.out
                    dsimp only at nc0 nc1 nc2 nc3 nc4
                    obtain ⟨bc0, bc1, bc2, bc3, bc4, -⟩ := box_cells HA8.out
                    obtain ⟨hNN, -, -⟩ := row_reads HA8.out (d := kA) (e := 36) (A := some an) (n := N) (c := cn2) (xs := (L ++ (⟨a0, sx k, 1, s0, t0⟩ : SA) :: restE NE (k + 1))) (.head _)
                    rw [List.length_append, List.length_cons] at hNN
                    have g1 : decide ((L.length : Int) ≥ (N : Int)) = false := decide_eq_false (by omega)
                    have g2 : decide ((L.length : Int) < (N : Int)) = true := decide_eq_true (by omega)
                    have g3 : ¬ N ≤ L.length := by omega
                    have g4 : L.length < N := by omega
                    clear hNN
                    go_wp2_with fail
                    refine start_ (n := 12) (S := fun w' => w'.cell? (an.add (L.length * 5)) = some (.int .u32 a0) ∧ w'.cell? ⟨(an.add (L.length * 5)).block, (an.add (L.length * 5)).off + 1, none⟩ = some (.string (sx k)) ∧ w'.cell? ⟨(an.add (L.length * 5)).block, (an.add (L.length * 5)).off + 2, none⟩ = some (.int .u8 1) ∧ w'.cell? ⟨(an.add (L.length * 5)).block, (an.add (L.length * 5)).off + 3, none⟩ = some (.int .i64 s0) ∧ w'.cell? ⟨(an.add (L.length * 5)).block, (an.add (L.length * 5)).off + 4, none⟩ = some (.int .i64 t0) ∧ w'.cell? ⟨bb, 0, none⟩ = some (.int .u32 a0) ∧ w'.cell? ⟨bb, 1, none⟩ = some (.string (sx k)) ∧ w'.cell? ⟨bb, 2, none⟩ = some (.int .u8 1) ∧ w'.cell? ⟨bb, 3, none⟩ = some (.int .i64 s0) ∧ w'.cell? ⟨bb, 4, none⟩ = some (.int .i64 t0)) (ds := []) #[false, false, false, false, false, false, false, false, false, false, false, false] (by kernel_rfl) rfl rfl ⟨nc0, nc1, nc2, nc3, nc4, bc0, bc1, bc2, bc3, bc4⟩ (fun hHeld => ?_)
                    refine pure_ (i := 0) (N := some 157) (v := ?_) (a' := ?_) #[true, false, false, false, false, false, false, false, false, false, false, false] rfl rfl (by kernel_rfl) (fun _ _ _ h => h) (Or.inl ⟨by rfl, ?_⟩) ?_ ?_
                    rotate_left
                    · intro w'
                      go_simp
                      with_reducible rfl
                    rotate_left
                    · simp only [Act.put, List.setIfInBounds_toArray, List.set_cons_zero, List.set_cons_succ, i64_w, i32_w]
                      rfl
                    refine pure_ (i := 1) (N := some 158) (v := ?_) (a' := ?_) #[true, true, false, false, false, false, false, false, false, false, false, false] rfl rfl (by kernel_rfl) (fun _ _ _ h => h) (Or.inl ⟨by rfl, ?_⟩) ?_ ?_
                    rotate_left
                    · intro w'
                      go_simp
                      with_reducible rfl
                    rotate_left
                    · simp only [Act.put, List.setIfInBounds_toArray, List.set_cons_zero, List.set_cons_succ, i64_w, i32_w]
                      rfl
                    refine pure_ (i := 2) (N := some 159) (v := ?_) (a' := ?_) #[true, true, true, false, false, false, false, false, false, false, false, false] rfl rfl (by kernel_rfl) (fun _ _ _ h => h) (Or.inl ⟨by rfl, ?_⟩) ?_ ?_
                    rotate_left
                    · intro w'
                      go_simp
                      with_reducible rfl
                    rotate_left
                    · simp only [Act.put, List.setIfInBounds_toArray, List.set_cons_zero, List.set_cons_succ, i64_w, i32_w]
                      rfl
                    refine pure_ (i := 3) (N := some 160) (v := ?_) (a' := ?_) #[true, true, true, true, false, false, false, false, false, false, false, false] rfl rfl (by kernel_rfl) (fun _ _ _ h => h) (Or.inl ⟨by rfl, ?_⟩) ?_ ?_
                    rotate_left
                    · intro w'
                      go_simp
                      with_reducible rfl
                    rotate_left
                    · simp only [Act.put, List.setIfInBounds_toArray, List.set_cons_zero, List.set_cons_succ, i64_w, i32_w]
                      rfl
                    refine pure_ (i := 4) (N := some 161) (v := ?_) (a' := ?_) #[true, true, true, true, true, false, false, false, false, false, false, false] rfl rfl (by kernel_rfl) (fun _ _ _ h => h) (Or.inl ⟨by rfl, ?_⟩) ?_ ?_
                    rotate_left
                    · intro w'
                      go_simp
                      with_reducible rfl
                    rotate_left
                    · simp only [Act.put, List.setIfInBounds_toArray, List.set_cons_zero, List.set_cons_succ, i64_w, i32_w]
                      rfl
                    refine pure_ (i := 5) (N := some 162) (v := ?_) (a' := ?_) #[true, true, true, true, true, true, false, false, false, false, false, false] rfl rfl (by kernel_rfl) (fun _ _ _ h => h) (Or.inl ⟨by rfl, ?_⟩) ?_ ?_
                    rotate_left
                    · intro w'
                      go_simp
                      with_reducible rfl
                    rotate_left
                    · simp only [Act.put, List.setIfInBounds_toArray, List.set_cons_zero, List.set_cons_succ, i64_w, i32_w]
                      rfl
                    refine pure_ (i := 6) (N := some 163) (v := ?_) (a' := ?_) #[true, true, true, true, true, true, true, false, false, false, false, false] rfl rfl (by kernel_rfl) (fun _ _ _ h => h) (Or.inl ⟨by rfl, ?_⟩) ?_ ?_
                    rotate_left
                    · intro w'
                      go_simp
                      with_reducible rfl
                    rotate_left
                    · simp only [Act.put, List.setIfInBounds_toArray, List.set_cons_zero, List.set_cons_succ, i64_w, i32_w]
                      rfl
                    refine pure_ (i := 7) (N := some 164) (v := ?_) (a' := ?_) #[true, true, true, true, true, true, true, true, false, false, false, false] rfl rfl (by kernel_rfl) (fun _ _ _ h => h) (Or.inl ⟨by rfl, ?_⟩) ?_ ?_
                    rotate_left
                    · intro w'
                      go_simp
                      with_reducible rfl
                    rotate_left
                    · simp only [Act.put, List.setIfInBounds_toArray, List.set_cons_zero, List.set_cons_succ, i64_w, i32_w]
                      rfl
                    refine take_ (i := 8) (N := some 165) (v := ?_) (a' := ?_) #[true, true, true, true, true, true, true, true, true, false, false, false] rfl rfl (by kernel_rfl) (fun _ _ _ h => h) (Or.inl ⟨by rfl, ?_⟩) hHeld ?_ ?_
                    rotate_left
                    · rintro w' ⟨s0, s1, s2, s3, s4, s5, s6, s7, s8, s9⟩
                      go_simp
                      with_reducible rfl
                    rotate_left
                    · simp only [Act.put, List.setIfInBounds_toArray, List.set_cons_zero, List.set_cons_succ, i64_w, i32_w]
                      rfl
                    refine take_ (i := 9) (N := some 166) (v := ?_) (a' := ?_) #[true, true, true, true, true, true, true, true, true, true, false, false] rfl rfl (by kernel_rfl) (fun _ _ _ h => h) (Or.inl ⟨by rfl, ?_⟩) hHeld ?_ ?_
                    rotate_left
                    · rintro w' ⟨s0, s1, s2, s3, s4, s5, s6, s7, s8, s9⟩
                      go_simp
                      with_reducible rfl
                    rotate_left
                    · simp only [Act.put, List.setIfInBounds_toArray, List.set_cons_zero, List.set_cons_succ, i64_w, i32_w]
                      rfl
                    refine pure_ (i := 10) (N := some 167) (v := ?_) (a' := ?_) #[true, true, true, true, true, true, true, true, true, true, true, false] rfl rfl (by kernel_rfl) (fun _ _ _ h => h) (Or.inl ⟨by rfl, ?_⟩) ?_ ?_
                    rotate_left
                    · intro w'
                      go_simp
                      with_reducible rfl
                    rotate_left
                    · simp only [Act.put, List.setIfInBounds_toArray, List.set_cons_zero, List.set_cons_succ, i64_w, i32_w]
                      rfl
                    refine pure_ (i := 11) (N := some 168) (v := ?_) (a' := ?_) #[true, true, true, true, true, true, true, true, true, true, true, true] rfl rfl (by kernel_rfl) (fun _ _ _ h => h) (Or.inl ⟨by rfl, ?_⟩) ?_ ?_
                    rotate_left
                    · intro w'
                      go_simp
                      with_reducible rfl
                    rotate_left
                    · simp only [Act.put, List.setIfInBounds_toArray, List.set_cons_zero, List.set_cons_succ, i64_w, i32_w]
                      rfl
                    refine done_ (by kernel_rfl) ?_

                    have HA9 := Aside0.mk HA8.out.drew
                    have HB9 := Aside0.mk (bl_drew HB8.out)
                    clear nc0 nc1 nc2 nc3 nc4 bc0 bc1 bc2 bc3 bc4 HA8 HB8 g1 g3
                    generalize w8.drew = w9 at HA9 HB9 ⊢
                    go_wp2_with fail
                    obtain ⟨-, -, bc2, -, -, -⟩ := box_cells HA9.out
                    refine start_ (n := 16) (S := fun w' => w'.cell? ⟨bb, 2, none⟩ = some (.int .u8 1)) (ds := []) #[false, false, false, false, false, false, false, false, false, false, false, false, false, false, false, false] (by kernel_rfl) rfl rfl (bc2) (fun hHeld => ?_)
                    refine pure_ (i := 0) (N := some 169) (v := ?_) (a' := ?_) #[true, false, false, false, false, false, false, false, false, false, false, false, false, false, false, false] rfl rfl (by kernel_rfl) (fun _ _ _ h => h) (Or.inl ⟨by rfl, ?_⟩) ?_ ?_
                    rotate_left
                    · intro w'
                      go_simp
                      with_reducible rfl
                    rotate_left
                    · simp only [Act.put, List.setIfInBounds_toArray, List.set_cons_zero, List.set_cons_succ, i64_w, i32_w]
                      rfl
                    refine take_ (i := 1) (N := some 170) (v := ?_) (a' := ?_) #[true, true, false, false, false, false, false, false, false, false, false, false, false, false, false, false] rfl rfl (by kernel_rfl) (fun _ _ _ h => h) (Or.inl ⟨by rfl, ?_⟩) hHeld ?_ ?_
                    rotate_left
                    · intro w' s0
                      go_simp
                      with_reducible rfl
                    rotate_left
                    · simp only [Act.put, List.setIfInBounds_toArray, List.set_cons_zero, List.set_cons_succ, i64_w, i32_w]
                      rfl
                    refine pure_ (i := 2) (N := some 171) (v := ?_) (a' := ?_) #[true, true, true, false, false, false, false, false, false, false, false, false, false, false, false, false] rfl rfl (by kernel_rfl) (fun _ _ _ h => h) (Or.inl ⟨by rfl, ?_⟩) ?_ ?_
                    rotate_left
                    · intro w'
                      go_simp
                      with_reducible rfl
                    rotate_left
                    · simp only [Act.put, List.setIfInBounds_toArray, List.set_cons_zero, List.set_cons_succ, i64_w, i32_w]
                      rfl
                    refine pure_ (i := 3) (N := some 172) (v := ?_) (a' := ?_) #[true, true, true, true, false, false, false, false, false, false, false, false, false, false, false, false] rfl rfl (by kernel_rfl) (fun _ _ _ h => h) (Or.inl ⟨by rfl, ?_⟩) ?_ ?_
                    rotate_left
                    · intro w'
                      go_simp
                      with_reducible rfl
                    rotate_left
                    · simp only [Act.put, List.setIfInBounds_toArray, List.set_cons_zero, List.set_cons_succ, i64_w, i32_w]
                      rfl
                    refine pure_ (i := 4) (N := some 173) (v := undef) (a' := ?_) #[true, true, true, true, true, false, false, false, false, false, false, false, false, false, false, false] rfl rfl (by kernel_rfl) (fun _ _ _ h => h) (Or.inr ⟨by rfl, rfl⟩) ?_ ?_
                    rotate_left
                    · simp only [Act.put, List.setIfInBounds_toArray, List.set_cons_zero, List.set_cons_succ, i64_w, i32_w]
                      rfl
                    refine pure_ (i := 5) (N := some 174) (v := undef) (a' := ?_) #[true, true, true, true, true, true, false, false, false, false, false, false, false, false, false, false] rfl rfl (by kernel_rfl) (fun _ _ _ h => h) (Or.inr ⟨by rfl, rfl⟩) ?_ ?_
                    rotate_left
                    · simp only [Act.put, List.setIfInBounds_toArray, List.set_cons_zero, List.set_cons_succ, i64_w, i32_w]
                      rfl
                    refine pure_ (i := 6) (N := some 175) (v := undef) (a' := ?_) #[true, true, true, true, true, true, true, false, false, false, false, false, false, false, false, false] rfl rfl (by kernel_rfl) (fun _ _ _ h => h) (Or.inr ⟨by rfl, rfl⟩) ?_ ?_
                    rotate_left
                    · simp only [Act.put, List.setIfInBounds_toArray, List.set_cons_zero, List.set_cons_succ, i64_w, i32_w]
                      rfl
                    refine pure_ (i := 7) (N := some 176) (v := undef) (a' := ?_) #[true, true, true, true, true, true, true, true, false, false, false, false, false, false, false, false] rfl rfl (by kernel_rfl) (fun _ _ _ h => h) (Or.inr ⟨by rfl, rfl⟩) ?_ ?_
                    rotate_left
                    · simp only [Act.put, List.setIfInBounds_toArray, List.set_cons_zero, List.set_cons_succ, i64_w, i32_w]
                      rfl
                    refine pure_ (i := 8) (N := some 177) (v := undef) (a' := ?_) #[true, true, true, true, true, true, true, true, true, false, false, false, false, false, false, false] rfl rfl (by kernel_rfl) (fun _ _ _ h => h) (Or.inr ⟨by rfl, rfl⟩) ?_ ?_
                    rotate_left
                    · simp only [Act.put, List.setIfInBounds_toArray, List.set_cons_zero, List.set_cons_succ, i64_w, i32_w]
                      rfl
                    refine pure_ (i := 9) (N := some 178) (v := undef) (a' := ?_) #[true, true, true, true, true, true, true, true, true, true, false, false, false, false, false, false] rfl rfl (by kernel_rfl) (fun _ _ _ h => h) (Or.inr ⟨by rfl, rfl⟩) ?_ ?_
                    rotate_left
                    · simp only [Act.put, List.setIfInBounds_toArray, List.set_cons_zero, List.set_cons_succ, i64_w, i32_w]
                      rfl
                    refine pure_ (i := 10) (N := some 179) (v := undef) (a' := ?_) #[true, true, true, true, true, true, true, true, true, true, true, false, false, false, false, false] rfl rfl (by kernel_rfl) (fun _ _ _ h => h) (Or.inr ⟨by rfl, rfl⟩) ?_ ?_
                    rotate_left
                    · simp only [Act.put, List.setIfInBounds_toArray, List.set_cons_zero, List.set_cons_succ, i64_w, i32_w]
                      rfl
                    refine pure_ (i := 11) (N := some 180) (v := undef) (a' := ?_) #[true, true, true, true, true, true, true, true, true, true, true, true, false, false, false, false] rfl rfl (by kernel_rfl) (fun _ _ _ h => h) (Or.inr ⟨by rfl, rfl⟩) ?_ ?_
                    rotate_left
                    · simp only [Act.put, List.setIfInBounds_toArray, List.set_cons_zero, List.set_cons_succ, i64_w, i32_w]
                      rfl
                    refine pure_ (i := 12) (N := some 181) (v := undef) (a' := ?_) #[true, true, true, true, true, true, true, true, true, true, true, true, true, false, false, false] rfl rfl (by kernel_rfl) (fun _ _ _ h => h) (Or.inr ⟨by rfl, rfl⟩) ?_ ?_
                    rotate_left
                    · simp only [Act.put, List.setIfInBounds_toArray, List.set_cons_zero, List.set_cons_succ, i64_w, i32_w]
                      rfl
                    refine pure_ (i := 13) (N := some 182) (v := undef) (a' := ?_) #[true, true, true, true, true, true, true, true, true, true, true, true, true, true, false, false] rfl rfl (by kernel_rfl) (fun _ _ _ h => h) (Or.inr ⟨by rfl, rfl⟩) ?_ ?_
                    rotate_left
                    · simp only [Act.put, List.setIfInBounds_toArray, List.set_cons_zero, List.set_cons_succ, i64_w, i32_w]
                      rfl
                    refine pure_ (i := 14) (N := some 183) (v := undef) (a' := ?_) #[true, true, true, true, true, true, true, true, true, true, true, true, true, true, true, false] rfl rfl (by kernel_rfl) (fun _ _ _ h => h) (Or.inr ⟨by rfl, rfl⟩) ?_ ?_
                    rotate_left
                    · simp only [Act.put, List.setIfInBounds_toArray, List.set_cons_zero, List.set_cons_succ, i64_w, i32_w]
                      rfl
                    refine pure_ (i := 15) (N := some 184) (v := ?_) (a' := ?_) #[true, true, true, true, true, true, true, true, true, true, true, true, true, true, true, true] rfl rfl (by kernel_rfl) (fun _ _ _ h => h) (Or.inl ⟨by rfl, ?_⟩) ?_ ?_
                    rotate_left
                    · intro w'
                      go_simp
                      with_reducible rfl
                    rotate_left
                    · simp only [Act.put, List.setIfInBounds_toArray, List.set_cons_zero, List.set_cons_succ, i64_w, i32_w]
                      rfl
                    refine done_ (by kernel_rfl) ?_

                    have HA10 := Aside0.mk HA9.out.drew
                    have HB10 := Aside0.mk (bl_drew HB9.out)
                    clear bc2 HA9 HB9
                    generalize w9.drew = w10 at HA10 HB10 ⊢
                    have HLS : Aside0 (headE (fun j => if j = k then some (⟨a0, sx k, 1, s0, t0⟩ : SA) else E' j) (k + 1) = L ++ [(⟨a0, sx k, 1, s0, t0⟩ : SA)]) := ⟨by rw [head_put, HAT2.out.1]; first | rfl | simp⟩
                    have HAT3 := Aside0.mk (HAT2.out.2.put hk6 (e := some (⟨a0, sx k, 1, s0, t0⟩ : SA)) (S' := S1) (T' := T1) (H' := (H1.set k true)) s0 t0 true (by simp [HZ.out]) (by simp [HZ.out]) (by simp [HZ.out]) (same_rd S1 k _ HZZ.out.1) (same_rd T1 k _ HZZ.out.2.1) (rdB_set H1 k true (by simp [HZ.out, hk6])) (.inl ⟨rfl, ht1, _, rfl, rfl, rfl, (show (1 : Int) ≠ 0 by decide), rfl, rfl⟩))
                    have ek := HEK.out
                    have eL := HEL.out
                    have d4 := HD6.out.1
                    go_wp2_with fail
                    go_roundw
                    case rel => exact ⟨k + 1, _, L ++ [(⟨a0, sx k, 1, s0, t0⟩ : SA)], _, _, _, by first | rfl | rw [ek], by first | rfl | (rw [List.length_append]; first | rfl | (rw [eL]; rfl)), by omega, ⟨HLS.out, HAT3.out⟩, ⟨by rw [List.append_assoc]; exact (has_mid HA10.out).tail⟩, HB10⟩
                    case measure => first | (simp [intOf]; omega) | (rw [ek]; simp [intOf]; omega)
          · have hb : hasK ks (sx k).data.toList = false := by
              cases h : hasK ks (sx k).data.toList
              · rfl
              · exact absurd h b
            rw [hb]
            have hE := next_rest HN.out hk6 hcd a1 a2 at2 (keys := ks) b
            rw [HNE.out] at hE
            obtain ⟨cA, cS, cT, cH⟩ := hold_cells HA5.out hk6 (by simp [HZ.out]) (by simp [HZ.out]) (by simp [HZ.out])
            rw [HZZ.out.1] at cS
            rw [HZZ.out.2.1] at cT
            rw [HZZ.out.2.2] at cH
            clear hb b hcd
            by_cases c1 : t0 < 0
            · rw [if_neg (by omega)] at hE
              have d7 : decide (t0 < 0) = true := decide_eq_true c1
              as_aux_lemma =>
                have HA5 : Aside0 (Has W.heap.size w5 (hold6 (.slice An2 N cn2) (L ++ restE NE (k + 1)) sa cs S1 ta 6 T1 ha ch H1 (.slice (some ax) l3.length cx) (X.set i at2) aa ca ++ [rowS (.slice Ak nk ck) ks])) := ⟨by have := HA5.out; rw [rest_step NE hk6, hE, Option.toList_none, List.nil_append] at this; exact this⟩
                obtain ⟨hA5, hB5, fs⟩ := put_told HA5.out (k := k) (by simp [HZ.out, hk6]) (-1)
                obtain ⟨-, -, -, cH2⟩ := hold_cells hA5 hk6 (by simp [HZ.out]) (by simp [HZ.out]) (by simp [HZ.out])
                obtain ⟨hA6, hB6, fh⟩ := put_held hA5 (k := k) (by simp [HZ.out, hk6]) false
                have HA6 := Aside0.mk hA6
                have HB6 := Aside0.mk ((HB5.out.trans hB5).trans hB6)
                clear hA5 hB5 hA6 hB6 HA5 HB5 hE
                go_wp2_with fail
                generalize (w5.setCell (ta.add k) (.int .i64 (-1))).setCell (ha.add k) (.bool false) = w6 at HA6 HB6 ⊢
                clear cA cS cT cH fh cH2 fs
                have HTV : rd (T1.set k (-1)) (k : Nat) = -1 := by rw [rd_set T1 k (-1) (by simp [HZ.out, hk6]), if_pos rfl]
                obtain ⟨cA, cS, cT, cH⟩ := hold_cells HA6.out.drew hk6 (by simp [HZ.out]) (by simp [HZ.out]) (by simp [HZ.out])
                have cT : w6.drew.cell? (ta.add k) = some (.int .i64 (-1)) := by rw [HTV] at cT; exact cT
                obtain ⟨zc, zf⟩ := zero_cells HA6.out.drew
                obtain ⟨zv0, zc0⟩ := zc 0 (by omega)
                obtain ⟨zv1, zc1⟩ := zc 1 (by omega)
                obtain ⟨zv2, zc2⟩ := zc 2 (by omega)
                obtain ⟨zv3, zc3⟩ := zc 3 (by omega)
                obtain ⟨zv4, zc4⟩ := zc 4 (by omega)
                have zf0 := zf 0
                have zf1 := zf 1
                have zf2 := zf 2
                have zf3 := zf 3
                have zf4 := zf 4
                have hA7 : Has W.heap.size (w6.alloc (.cells #[.int .u32 a0, .string (sx k), .int .u8 0, .int .i64 0, .int .i64 (-1)] 36)).drew (hold6 (.slice An2 N cn2) (L ++ restE NE (k + 1)) sa cs S1 ta 6 (T1.set k (-1)) ha ch (H1.set k false) (.slice (some ax) l3.length cx) (X.set i at2) aa ca ++ boxA w6.heap.size a0 (sx k) 0 0 (-1) :: [rowS (.slice Ak nk ck) ks]) := has_back ((HA6.out.box #[.int .u32 a0, .string (sx k), .int .u8 0, .int .i64 0, .int .i64 (-1)] 36).drew)
                have HA7 := Aside0.mk hA7
                have HB7 := Aside0.mk (bl_drew (HB6.out.alloc HA6.out.size (.cells #[.int .u32 a0, .string (sx k), .int .u8 0, .int .i64 0, .int .i64 (-1)] 36)))
                clear zc zf hA7 cS cH
                refine start_ (n := 12) (S := fun w' => w'.cell? (aa.add k) = some (.string (sx k)) ∧ w'.cell? (ta.add k) = some (.int .i64 (-1))) (ds := [11]) #[false, false, false, false, false, false, false, false, false, false, false, false] (by kernel_rfl) rfl rfl ⟨cA, cT⟩ (fun hHeld => ?_)
                refine pure_ (i := 0) (N := some 126) (v := ?_) (a' := ?_) #[true, false, false, false, false, false, false, false, false, false, false, false] rfl rfl (by kernel_rfl) (fun _ _ _ h => h) (Or.inl ⟨by rfl, ?_⟩) ?_ ?_
                rotate_left
                · intro w'
                  go_simp
                  with_reducible rfl
                rotate_left
                · simp only [Act.put, List.setIfInBounds_toArray, List.set_cons_zero, List.set_cons_succ, i64_w, i32_w]
                  rfl
                refine pure_ (i := 1) (N := some 127) (v := ?_) (a' := ?_) #[true, true, false, false, false, false, false, false, false, false, false, false] rfl rfl (by kernel_rfl) (fun _ _ _ h => h) (Or.inl ⟨by rfl, ?_⟩) ?_ ?_
                rotate_left
                · intro w'
                  go_simp
                  with_reducible rfl
                rotate_left
                · simp only [Act.put, List.setIfInBounds_toArray, List.set_cons_zero, List.set_cons_succ, i64_w, i32_w]
                  rfl
                refine pure_ (i := 2) (N := some 128) (v := ?_) (a' := ?_) #[true, true, true, false, false, false, false, false, false, false, false, false] rfl rfl (by kernel_rfl) (fun _ _ _ h => h) (Or.inl ⟨by rfl, ?_⟩) ?_ ?_
                rotate_left
                · intro w'
                  go_simp
                  with_reducible rfl
                rotate_left
                · simp only [Act.put, List.setIfInBounds_toArray, List.set_cons_zero, List.set_cons_succ, i64_w, i32_w]
                  rfl
                refine pure_ (i := 3) (N := some 129) (v := ?_) (a' := ?_) #[true, true, true, true, false, false, false, false, false, false, false, false] rfl rfl (by kernel_rfl) (fun _ _ _ h => h) (Or.inl ⟨by rfl, ?_⟩) ?_ ?_
                rotate_left
                · intro w'
                  go_simp
                  with_reducible rfl
                rotate_left
                · simp only [Act.put, List.setIfInBounds_toArray, List.set_cons_zero, List.set_cons_succ, i64_w, i32_w]
                  rfl
                refine pure_ (i := 5) (N := some 131) (v := ?_) (a' := ?_) #[true, true, true, true, false, true, false, false, false, false, false, false] rfl rfl (by kernel_rfl) (fun _ _ _ h => h) (Or.inl ⟨by rfl, ?_⟩) ?_ ?_
                rotate_left
                · intro w'
                  go_simp
                  with_reducible rfl
                rotate_left
                · simp only [Act.put, List.setIfInBounds_toArray, List.set_cons_zero, List.set_cons_succ, i64_w, i32_w]
                  rfl
                refine pure_ (i := 6) (N := some 132) (v := ?_) (a' := ?_) #[true, true, true, true, false, true, true, false, false, false, false, false] rfl rfl (by kernel_rfl) (fun _ _ _ h => h) (Or.inl ⟨by rfl, ?_⟩) ?_ ?_
                rotate_left
                · intro w'
                  go_simp
                  with_reducible rfl
                rotate_left
                · simp only [Act.put, List.setIfInBounds_toArray, List.set_cons_zero, List.set_cons_succ, i64_w, i32_w]
                  rfl
                refine pure_ (i := 7) (N := some 133) (v := ?_) (a' := ?_) #[true, true, true, true, false, true, true, true, false, false, false, false] rfl rfl (by kernel_rfl) (fun _ _ _ h => h) (Or.inl ⟨by rfl, ?_⟩) ?_ ?_
                rotate_left
                · intro w'
                  go_simp
                  with_reducible rfl
                rotate_left
                · simp only [Act.put, List.setIfInBounds_toArray, List.set_cons_zero, List.set_cons_succ, i64_w, i32_w]
                  rfl
                refine take_ (i := 4) (N := some 130) (v := ?_) (a' := ?_) #[true, true, true, true, true, true, true, true, false, false, false, false] rfl rfl (by kernel_rfl) (fun _ _ _ h => h) (Or.inl ⟨by rfl, ?_⟩) hHeld ?_ ?_
                rotate_left
                · rintro w' ⟨s0, s1⟩
                  go_simp
                  with_reducible rfl
                rotate_left
                · simp only [Act.put, List.setIfInBounds_toArray, List.set_cons_zero, List.set_cons_succ, i64_w, i32_w]
                  rfl
                refine take_ (i := 8) (N := some 134) (v := ?_) (a' := ?_) #[true, true, true, true, true, true, true, true, true, false, false, false] rfl rfl (by kernel_rfl) (fun _ _ _ h => h) (Or.inl ⟨by rfl, ?_⟩) hHeld ?_ ?_
                rotate_left
                · rintro w' ⟨s0, s1⟩
                  go_simp
                  with_reducible rfl
                rotate_left
                · simp only [Act.put, List.setIfInBounds_toArray, List.set_cons_zero, List.set_cons_succ, i64_w, i32_w]
                  rfl
                refine pure_ (i := 9) (N := some 135) (v := ?_) (a' := ?_) #[true, true, true, true, true, true, true, true, true, true, false, false] rfl rfl (by kernel_rfl) (fun _ _ _ h => h) (Or.inl ⟨by rfl, ?_⟩) ?_ ?_
                rotate_left
                · intro w'
                  go_simp
                  with_reducible rfl
                rotate_left
                · simp only [Act.put, List.setIfInBounds_toArray, List.set_cons_zero, List.set_cons_succ, i64_w, i32_w]
                  rfl
                refine one_ (i := 10) (N := some 21) #[true, true, true, true, true, true, true, true, true, true, true, false] rfl rfl (by kernel_rfl) (by decide) (fun K hK => ?_)
                refine value_ (w1 := ?_) (v := ?_) (by rfl) rfl ?_ ?_
                rotate_left 2
                · go_simp
                  constructor
                  · rfl
                  · rfl
                refine hK.out _ _ ⟨c_al _ cA, c_al _ cT⟩ (fun hHeld => ?_)
                clear hK K
                refine norm_ (a' := ?_) ?_ ?_
                rotate_left
                · show Act.put _ (some 21) _ = _
                  simp only [Act.put, List.setIfInBounds_toArray, List.set_cons_zero, List.set_cons_succ, i64_w, i32_w]
                  rfl
                refine last_ (i := 11) (N := none) #[true, true, true, true, true, true, true, true, true, true, true, true] rfl rfl (by kernel_rfl) (by decide) (fun K hK => ?_)
                refine skip_ (w1 := ?_) (by rfl) rfl ?_ ?_
                rotate_left
                · go_simp
                  rfl
                refine hK.out _ _ ?_
                clear hK K
                refine done_ (by kernel_rfl) ?_

                clear zc0 zc1 zc2 zc3 zc4 zf0 zf1 zf2 zf3 zf4 cA cT
                generalize (w6.alloc (.cells #[.int .u32 a0, .string (sx k), .int .u8 0, .int .i64 0, .int .i64 (-1)] 36)).drew = w7 at HA7 HB7 ⊢
                generalize w6.heap.size = bb at HA7 ⊢
                obtain ⟨-, -, cT, -⟩ := hold_cells HA7.out hk6 (by simp [HZ.out]) (by simp [HZ.out]) (by simp [HZ.out])
                rw [HTV] at cT
                clear HTV HA6 HB6
                have HLS : Aside0 (headE (fun j => if j = k then none else E' j) (k + 1) = L) := ⟨by rw [head_put, HAT2.out.1]; first | rfl | simp⟩
                have HAT3 := Aside0.mk (HAT2.out.2.put hk6 (e := none) (S' := S1) (T' := (T1.set k (-1))) (H' := (H1.set k false)) s0 (-1) false (by simp [HZ.out]) (by simp [HZ.out]) (by simp [HZ.out]) (same_rd S1 k _ HZZ.out.1) (rd_set T1 k (-1) (by simp [HZ.out, hk6])) (rdB_set H1 k false (by simp [HZ.out, hk6])) (.inr (.inr ⟨rfl, rfl, rfl⟩)))
                have ek := HEK.out
                have eL := HEL.out
                have d4 := HD6.out.1
                go_wp2_with fail
                go_roundw
                case rel => exact ⟨k + 1, _, L, _, _, _, by first | rfl | rw [ek], by first | rfl | (rw [List.length_append]; first | rfl | (rw [eL]; rfl)), by omega, ⟨HLS.out, HAT3.out⟩, ⟨(has_mid HA7.out).tail⟩, HB7⟩
                case measure => first | (simp [intOf]; omega) | (rw [ek]; simp [intOf]; omega)
            by_cases c2 : a2 ≤ wrap64 (at2 - t0)
            · rw [if_neg (by omega)] at hE
              have d7 : decide (t0 < 0) = false := decide_eq_false c1
              have d9 : decide (wrap64 (at2 - t0) ≥ a2) = true := decide_eq_true c2
              as_aux_lemma =>
                have HA5 : Aside0 (Has W.heap.size w5 (hold6 (.slice An2 N cn2) (L ++ restE NE (k + 1)) sa cs S1 ta 6 T1 ha ch H1 (.slice (some ax) l3.length cx) (X.set i at2) aa ca ++ [rowS (.slice Ak nk ck) ks])) := ⟨by have := HA5.out; rw [rest_step NE hk6, hE, Option.toList_none, List.nil_append] at this; exact this⟩
                obtain ⟨hA5, hB5, fs⟩ := put_told HA5.out (k := k) (by simp [HZ.out, hk6]) (-1)
                obtain ⟨-, -, -, cH2⟩ := hold_cells hA5 hk6 (by simp [HZ.out]) (by simp [HZ.out]) (by simp [HZ.out])
                obtain ⟨hA6, hB6, fh⟩ := put_held hA5 (k := k) (by simp [HZ.out, hk6]) false
                have HA6 := Aside0.mk hA6
                have HB6 := Aside0.mk ((HB5.out.trans hB5).trans hB6)
                clear hA5 hB5 hA6 hB6 HA5 HB5 hE
                go_wp2_with fail
                generalize (w5.setCell (ta.add k) (.int .i64 (-1))).setCell (ha.add k) (.bool false) = w6 at HA6 HB6 ⊢
                clear cA cS cT cH fh cH2 fs
                have HTV : rd (T1.set k (-1)) (k : Nat) = -1 := by rw [rd_set T1 k (-1) (by simp [HZ.out, hk6]), if_pos rfl]
                obtain ⟨cA, cS, cT, cH⟩ := hold_cells HA6.out.drew hk6 (by simp [HZ.out]) (by simp [HZ.out]) (by simp [HZ.out])
                have cT : w6.drew.cell? (ta.add k) = some (.int .i64 (-1)) := by rw [HTV] at cT; exact cT
                obtain ⟨zc, zf⟩ := zero_cells HA6.out.drew
                obtain ⟨zv0, zc0⟩ := zc 0 (by omega)
                obtain ⟨zv1, zc1⟩ := zc 1 (by omega)
                obtain ⟨zv2, zc2⟩ := zc 2 (by omega)
                obtain ⟨zv3, zc3⟩ := zc 3 (by omega)
                obtain ⟨zv4, zc4⟩ := zc 4 (by omega)
                have zf0 := zf 0
                have zf1 := zf 1
                have zf2 := zf 2
                have zf3 := zf 3
                have zf4 := zf 4
                have hA7 : Has W.heap.size (w6.alloc (.cells #[.int .u32 a0, .string (sx k), .int .u8 0, .int .i64 0, .int .i64 (-1)] 36)).drew (hold6 (.slice An2 N cn2) (L ++ restE NE (k + 1)) sa cs S1 ta 6 (T1.set k (-1)) ha ch (H1.set k false) (.slice (some ax) l3.length cx) (X.set i at2) aa ca ++ boxA w6.heap.size a0 (sx k) 0 0 (-1) :: [rowS (.slice Ak nk ck) ks]) := has_back ((HA6.out.box #[.int .u32 a0, .string (sx k), .int .u8 0, .int .i64 0, .int .i64 (-1)] 36).drew)
                have HA7 := Aside0.mk hA7
                have HB7 := Aside0.mk (bl_drew (HB6.out.alloc HA6.out.size (.cells #[.int .u32 a0, .string (sx k), .int .u8 0, .int .i64 0, .int .i64 (-1)] 36)))
                clear zc zf hA7 cS cH
                refine start_ (n := 12) (S := fun w' => w'.cell? (aa.add k) = some (.string (sx k)) ∧ w'.cell? (ta.add k) = some (.int .i64 (-1))) (ds := [11]) #[false, false, false, false, false, false, false, false, false, false, false, false] (by kernel_rfl) rfl rfl ⟨cA, cT⟩ (fun hHeld => ?_)
                refine pure_ (i := 0) (N := some 126) (v := ?_) (a' := ?_) #[true, false, false, false, false, false, false, false, false, false, false, false] rfl rfl (by kernel_rfl) (fun _ _ _ h => h) (Or.inl ⟨by rfl, ?_⟩) ?_ ?_
                rotate_left
                · intro w'
                  go_simp
                  with_reducible rfl
                rotate_left
                · simp only [Act.put, List.setIfInBounds_toArray, List.set_cons_zero, List.set_cons_succ, i64_w, i32_w]
                  rfl
                refine pure_ (i := 1) (N := some 127) (v := ?_) (a' := ?_) #[true, true, false, false, false, false, false, false, false, false, false, false] rfl rfl (by kernel_rfl) (fun _ _ _ h => h) (Or.inl ⟨by rfl, ?_⟩) ?_ ?_
                rotate_left
                · intro w'
                  go_simp
                  with_reducible rfl
                rotate_left
                · simp only [Act.put, List.setIfInBounds_toArray, List.set_cons_zero, List.set_cons_succ, i64_w, i32_w]
                  rfl
                refine pure_ (i := 2) (N := some 128) (v := ?_) (a' := ?_) #[true, true, true, false, false, false, false, false, false, false, false, false] rfl rfl (by kernel_rfl) (fun _ _ _ h => h) (Or.inl ⟨by rfl, ?_⟩) ?_ ?_
                rotate_left
                · intro w'
                  go_simp
                  with_reducible rfl
                rotate_left
                · simp only [Act.put, List.setIfInBounds_toArray, List.set_cons_zero, List.set_cons_succ, i64_w, i32_w]
                  rfl
                refine pure_ (i := 3) (N := some 129) (v := ?_) (a' := ?_) #[true, true, true, true, false, false, false, false, false, false, false, false] rfl rfl (by kernel_rfl) (fun _ _ _ h => h) (Or.inl ⟨by rfl, ?_⟩) ?_ ?_
                rotate_left
                · intro w'
                  go_simp
                  with_reducible rfl
                rotate_left
                · simp only [Act.put, List.setIfInBounds_toArray, List.set_cons_zero, List.set_cons_succ, i64_w, i32_w]
                  rfl
                refine pure_ (i := 5) (N := some 131) (v := ?_) (a' := ?_) #[true, true, true, true, false, true, false, false, false, false, false, false] rfl rfl (by kernel_rfl) (fun _ _ _ h => h) (Or.inl ⟨by rfl, ?_⟩) ?_ ?_
                rotate_left
                · intro w'
                  go_simp
                  with_reducible rfl
                rotate_left
                · simp only [Act.put, List.setIfInBounds_toArray, List.set_cons_zero, List.set_cons_succ, i64_w, i32_w]
                  rfl
                refine pure_ (i := 6) (N := some 132) (v := ?_) (a' := ?_) #[true, true, true, true, false, true, true, false, false, false, false, false] rfl rfl (by kernel_rfl) (fun _ _ _ h => h) (Or.inl ⟨by rfl, ?_⟩) ?_ ?_
                rotate_left
                · intro w'
                  go_simp
                  with_reducible rfl
                rotate_left
                · simp only [Act.put, List.setIfInBounds_toArray, List.set_cons_zero, List.set_cons_succ, i64_w, i32_w]
                  rfl
                refine pure_ (i := 7) (N := some 133) (v := ?_) (a' := ?_) #[true, true, true, true, false, true, true, true, false, false, false, false] rfl rfl (by kernel_rfl) (fun _ _ _ h => h) (Or.inl ⟨by rfl, ?_⟩) ?_ ?_
                rotate_left
                · intro w'
                  go_simp
                  with_reducible rfl
                rotate_left
                · simp only [Act.put, List.setIfInBounds_toArray, List.set_cons_zero, List.set_cons_succ, i64_w, i32_w]
                  rfl
                refine take_ (i := 4) (N := some 130) (v := ?_) (a' := ?_) #[true, true, true, true, true, true, true, true, false, false, false, false] rfl rfl (by kernel_rfl) (fun _ _ _ h => h) (Or.inl ⟨by rfl, ?_⟩) hHeld ?_ ?_
                rotate_left
                · rintro w' ⟨s0, s1⟩
                  go_simp
                  with_reducible rfl
                rotate_left
                · simp only [Act.put, List.setIfInBounds_toArray, List.set_cons_zero, List.set_cons_succ, i64_w, i32_w]
                  rfl
                refine take_ (i := 8) (N := some 134) (v := ?_) (a' := ?_) #[true, true, true, true, true, true, true, true, true, false, false, false] rfl rfl (by kernel_rfl) (fun _ _ _ h => h) (Or.inl ⟨by rfl, ?_⟩) hHeld ?_ ?_
                rotate_left
                · rintro w' ⟨s0, s1⟩
                  go_simp
                  with_reducible rfl
                rotate_left
                · simp only [Act.put, List.setIfInBounds_toArray, List.set_cons_zero, List.set_cons_succ, i64_w, i32_w]
                  rfl
                refine pure_ (i := 9) (N := some 135) (v := ?_) (a' := ?_) #[true, true, true, true, true, true, true, true, true, true, false, false] rfl rfl (by kernel_rfl) (fun _ _ _ h => h) (Or.inl ⟨by rfl, ?_⟩) ?_ ?_
                rotate_left
                · intro w'
                  go_simp
                  with_reducible rfl
                rotate_left
                · simp only [Act.put, List.setIfInBounds_toArray, List.set_cons_zero, List.set_cons_succ, i64_w, i32_w]
                  rfl
                refine one_ (i := 10) (N := some 21) #[true, true, true, true, true, true, true, true, true, true, true, false] rfl rfl (by kernel_rfl) (by decide) (fun K hK => ?_)
                refine value_ (w1 := ?_) (v := ?_) (by rfl) rfl ?_ ?_
                rotate_left 2
                · go_simp
                  constructor
                  · rfl
                  · rfl
                refine hK.out _ _ ⟨c_al _ cA, c_al _ cT⟩ (fun hHeld => ?_)
                clear hK K
                refine norm_ (a' := ?_) ?_ ?_
                rotate_left
                · show Act.put _ (some 21) _ = _
                  simp only [Act.put, List.setIfInBounds_toArray, List.set_cons_zero, List.set_cons_succ, i64_w, i32_w]
                  rfl
                refine last_ (i := 11) (N := none) #[true, true, true, true, true, true, true, true, true, true, true, true] rfl rfl (by kernel_rfl) (by decide) (fun K hK => ?_)
                refine skip_ (w1 := ?_) (by rfl) rfl ?_ ?_
                rotate_left
                · go_simp
                  rfl
                refine hK.out _ _ ?_
                clear hK K
                refine done_ (by kernel_rfl) ?_

                clear zc0 zc1 zc2 zc3 zc4 zf0 zf1 zf2 zf3 zf4 cA cT
                generalize (w6.alloc (.cells #[.int .u32 a0, .string (sx k), .int .u8 0, .int .i64 0, .int .i64 (-1)] 36)).drew = w7 at HA7 HB7 ⊢
                generalize w6.heap.size = bb at HA7 ⊢
                obtain ⟨-, -, cT, -⟩ := hold_cells HA7.out hk6 (by simp [HZ.out]) (by simp [HZ.out]) (by simp [HZ.out])
                rw [HTV] at cT
                clear HTV HA6 HB6
                have HLS : Aside0 (headE (fun j => if j = k then none else E' j) (k + 1) = L) := ⟨by rw [head_put, HAT2.out.1]; first | rfl | simp⟩
                have HAT3 := Aside0.mk (HAT2.out.2.put hk6 (e := none) (S' := S1) (T' := (T1.set k (-1))) (H' := (H1.set k false)) s0 (-1) false (by simp [HZ.out]) (by simp [HZ.out]) (by simp [HZ.out]) (same_rd S1 k _ HZZ.out.1) (rd_set T1 k (-1) (by simp [HZ.out, hk6])) (rdB_set H1 k false (by simp [HZ.out, hk6])) (.inr (.inr ⟨rfl, rfl, rfl⟩)))
                have ek := HEK.out
                have eL := HEL.out
                have d4 := HD6.out.1
                go_wp2_with fail
                go_roundw
                case rel => exact ⟨k + 1, _, L, _, _, _, by first | rfl | rw [ek], by first | rfl | (rw [List.length_append]; first | rfl | (rw [eL]; rfl)), by omega, ⟨HLS.out, HAT3.out⟩, ⟨(has_mid HA7.out).tail⟩, HB7⟩
                case measure => first | (simp [intOf]; omega) | (rw [ek]; simp [intOf]; omega)
            as_aux_lemma =>
              have hq : 0 ≤ t0 ∧ wrap64 (at2 - t0) < a2 := ⟨by omega, by omega⟩
              rw [if_pos hq] at hE
              have d7 : decide (t0 < 0) = false := decide_eq_false c1
              have d9 : decide (wrap64 (at2 - t0) ≥ a2) = false := decide_eq_false c2
              have hq0 := hq.1
              clear hq
              have HA5 := HA5.out
              rw [rest_step NE hk6, hE, Option.toList_some, List.singleton_append] at HA5
              have HA5 := Aside0.mk HA5
              obtain ⟨ga2, ca2, eva, -⟩ := row_addr HA5.out (d := kA) (e := 36) (v := .slice An2 N cn2) (xs := _) (.head _) (by rw [List.length_append, List.length_cons]; omega)
              obtain ⟨an, rfl⟩ : ∃ an, An2 = some an := by
                injection eva with e1 e2 e3
                exact ⟨_, e1⟩
              clear eva hE
              have HA5 : Aside0 (Has W.heap.size w5 (hold6 (.slice (some an) N cn2) (L ++ (⟨a0, sx k, 0, 0, t0⟩ : SA) :: restE NE (k + 1)) sa cs S1 ta 6 T1 ha ch H1 (.slice (some ax) l3.length cx) (X.set i at2) aa ca ++ [rowS (.slice Ak nk ck) ks])) := ⟨HA5.out⟩
              obtain ⟨hA6, hB6, fh⟩ := put_held HA5.out (k := k) (by simp [HZ.out, hk6]) false
              have HA6 := Aside0.mk hA6
              have HB6 := Aside0.mk (HB5.out.trans hB6)
              clear hA6 hB6 HA5 HB5
              go_wp2_with fail
              generalize w5.setCell (ha.add k) (.bool false) = w6 at HA6 HB6 ⊢
              clear cA cS cT cH fh
              have HTV : rd T1 (k : Nat) = t0 := HZZ.out.2.1
              obtain ⟨cA, cS, cT, cH⟩ := hold_cells HA6.out.drew hk6 (by simp [HZ.out]) (by simp [HZ.out]) (by simp [HZ.out])
              have cT : w6.drew.cell? (ta.add k) = some (.int .i64 t0) := by rw [HTV] at cT; exact cT
              obtain ⟨zc, zf⟩ := zero_cells HA6.out.drew
              obtain ⟨zv0, zc0⟩ := zc 0 (by omega)
              obtain ⟨zv1, zc1⟩ := zc 1 (by omega)
              obtain ⟨zv2, zc2⟩ := zc 2 (by omega)
              obtain ⟨zv3, zc3⟩ := zc 3 (by omega)
              obtain ⟨zv4, zc4⟩ := zc 4 (by omega)
              have zf0 := zf 0
              have zf1 := zf 1
              have zf2 := zf 2
              have zf3 := zf 3
              have zf4 := zf 4
              have hA7 : Has W.heap.size (w6.alloc (.cells #[.int .u32 a0, .string (sx k), .int .u8 0, .int .i64 0, .int .i64 t0] 36)).drew (hold6 (.slice (some an) N cn2) (L ++ (⟨a0, sx k, 0, 0, t0⟩ : SA) :: restE NE (k + 1)) sa cs S1 ta 6 T1 ha ch (H1.set k false) (.slice (some ax) l3.length cx) (X.set i at2) aa ca ++ boxA w6.heap.size a0 (sx k) 0 0 t0 :: [rowS (.slice Ak nk ck) ks]) := has_back ((HA6.out.box #[.int .u32 a0, .string (sx k), .int .u8 0, .int .i64 0, .int .i64 t0] 36).drew)
              have HA7 := Aside0.mk hA7
              have HB7 := Aside0.mk (bl_drew (HB6.out.alloc HA6.out.size (.cells #[.int .u32 a0, .string (sx k), .int .u8 0, .int .i64 0, .int .i64 t0] 36)))
              clear zc zf hA7 cS cH
              refine start_ (n := 12) (S := fun w' => w'.cell? (aa.add k) = some (.string (sx k)) ∧ w'.cell? (ta.add k) = some (.int .i64 t0)) (ds := [11]) #[false, false, false, false, false, false, false, false, false, false, false, false] (by kernel_rfl) rfl rfl ⟨cA, cT⟩ (fun hHeld => ?_)
              refine pure_ (i := 0) (N := some 126) (v := ?_) (a' := ?_) #[true, false, false, false, false, false, false, false, false, false, false, false] rfl rfl (by kernel_rfl) (fun _ _ _ h => h) (Or.inl ⟨by rfl, ?_⟩) ?_ ?_
              rotate_left
              · intro w'
                go_simp
                with_reducible rfl
              rotate_left
              · simp only [Act.put, List.setIfInBounds_toArray, List.set_cons_zero, List.set_cons_succ, i64_w, i32_w]
                rfl
              refine pure_ (i := 1) (N := some 127) (v := ?_) (a' := ?_) #[true, true, false, false, false, false, false, false, false, false, false, false] rfl rfl (by kernel_rfl) (fun _ _ _ h => h) (Or.inl ⟨by rfl, ?_⟩) ?_ ?_
              rotate_left
              · intro w'
                go_simp
                with_reducible rfl
              rotate_left
              · simp only [Act.put, List.setIfInBounds_toArray, List.set_cons_zero, List.set_cons_succ, i64_w, i32_w]
                rfl
              refine pure_ (i := 2) (N := some 128) (v := ?_) (a' := ?_) #[true, true, true, false, false, false, false, false, false, false, false, false] rfl rfl (by kernel_rfl) (fun _ _ _ h => h) (Or.inl ⟨by rfl, ?_⟩) ?_ ?_
              rotate_left
              · intro w'
                go_simp
                with_reducible rfl
              rotate_left
              · simp only [Act.put, List.setIfInBounds_toArray, List.set_cons_zero, List.set_cons_succ, i64_w, i32_w]
                rfl
              refine pure_ (i := 3) (N := some 129) (v := ?_) (a' := ?_) #[true, true, true, true, false, false, false, false, false, false, false, false] rfl rfl (by kernel_rfl) (fun _ _ _ h => h) (Or.inl ⟨by rfl, ?_⟩) ?_ ?_
              rotate_left
              · intro w'
                go_simp
                with_reducible rfl
              rotate_left
              · simp only [Act.put, List.setIfInBounds_toArray, List.set_cons_zero, List.set_cons_succ, i64_w, i32_w]
                rfl
              refine pure_ (i := 5) (N := some 131) (v := ?_) (a' := ?_) #[true, true, true, true, false, true, false, false, false, false, false, false] rfl rfl (by kernel_rfl) (fun _ _ _ h => h) (Or.inl ⟨by rfl, ?_⟩) ?_ ?_
              rotate_left
              · intro w'
                go_simp
                with_reducible rfl
              rotate_left
              · simp only [Act.put, List.setIfInBounds_toArray, List.set_cons_zero, List.set_cons_succ, i64_w, i32_w]
                rfl
              refine pure_ (i := 6) (N := some 132) (v := ?_) (a' := ?_) #[true, true, true, true, false, true, true, false, false, false, false, false] rfl rfl (by kernel_rfl) (fun _ _ _ h => h) (Or.inl ⟨by rfl, ?_⟩) ?_ ?_
              rotate_left
              · intro w'
                go_simp
                with_reducible rfl
              rotate_left
              · simp only [Act.put, List.setIfInBounds_toArray, List.set_cons_zero, List.set_cons_succ, i64_w, i32_w]
                rfl
              refine pure_ (i := 7) (N := some 133) (v := ?_) (a' := ?_) #[true, true, true, true, false, true, true, true, false, false, false, false] rfl rfl (by kernel_rfl) (fun _ _ _ h => h) (Or.inl ⟨by rfl, ?_⟩) ?_ ?_
              rotate_left
              · intro w'
                go_simp
                with_reducible rfl
              rotate_left
              · simp only [Act.put, List.setIfInBounds_toArray, List.set_cons_zero, List.set_cons_succ, i64_w, i32_w]
                rfl
              refine take_ (i := 4) (N := some 130) (v := ?_) (a' := ?_) #[true, true, true, true, true, true, true, true, false, false, false, false] rfl rfl (by kernel_rfl) (fun _ _ _ h => h) (Or.inl ⟨by rfl, ?_⟩) hHeld ?_ ?_
              rotate_left
              · rintro w' ⟨s0, s1⟩
                go_simp
                with_reducible rfl
              rotate_left
              · simp only [Act.put, List.setIfInBounds_toArray, List.set_cons_zero, List.set_cons_succ, i64_w, i32_w]
                rfl
              refine take_ (i := 8) (N := some 134) (v := ?_) (a' := ?_) #[true, true, true, true, true, true, true, true, true, false, false, false] rfl rfl (by kernel_rfl) (fun _ _ _ h => h) (Or.inl ⟨by rfl, ?_⟩) hHeld ?_ ?_
              rotate_left
              · rintro w' ⟨s0, s1⟩
                go_simp
                with_reducible rfl
              rotate_left
              · simp only [Act.put, List.setIfInBounds_toArray, List.set_cons_zero, List.set_cons_succ, i64_w, i32_w]
                rfl
              refine pure_ (i := 9) (N := some 135) (v := ?_) (a' := ?_) #[true, true, true, true, true, true, true, true, true, true, false, false] rfl rfl (by kernel_rfl) (fun _ _ _ h => h) (Or.inl ⟨by rfl, ?_⟩) ?_ ?_
              rotate_left
              · intro w'
                go_simp
                with_reducible rfl
              rotate_left
              · simp only [Act.put, List.setIfInBounds_toArray, List.set_cons_zero, List.set_cons_succ, i64_w, i32_w]
                rfl
              refine one_ (i := 10) (N := some 21) #[true, true, true, true, true, true, true, true, true, true, true, false] rfl rfl (by kernel_rfl) (by decide) (fun K hK => ?_)
              refine value_ (w1 := ?_) (v := ?_) (by rfl) rfl ?_ ?_
              rotate_left 2
              · go_simp
                constructor
                · rfl
                · rfl
              refine hK.out _ _ ⟨c_al _ cA, c_al _ cT⟩ (fun hHeld => ?_)
              clear hK K
              refine norm_ (a' := ?_) ?_ ?_
              rotate_left
              · show Act.put _ (some 21) _ = _
                simp only [Act.put, List.setIfInBounds_toArray, List.set_cons_zero, List.set_cons_succ, i64_w, i32_w]
                rfl
              refine last_ (i := 11) (N := none) #[true, true, true, true, true, true, true, true, true, true, true, true] rfl rfl (by kernel_rfl) (by decide) (fun K hK => ?_)
              refine skip_ (w1 := ?_) (by rfl) rfl ?_ ?_
              rotate_left
              · go_simp
                rfl
              refine hK.out _ _ ?_
              clear hK K
              refine done_ (by kernel_rfl) ?_

              clear zc0 zc1 zc2 zc3 zc4 zf0 zf1 zf2 zf3 zf4 cA cT
              generalize (w6.alloc (.cells #[.int .u32 a0, .string (sx k), .int .u8 0, .int .i64 0, .int .i64 t0] 36)).drew = w7 at HA7 HB7 ⊢
              generalize w6.heap.size = bb at HA7 ⊢
              obtain ⟨-, -, cT, -⟩ := hold_cells HA7.out hk6 (by simp [HZ.out]) (by simp [HZ.out]) (by simp [HZ.out])
              rw [HTV] at cT
              have HA8 : Aside0 (Has W.heap.size w7 (hold6 (.slice (some an) N cn2) (L ++ (⟨a0, sx k, 0, 0, t0⟩ : SA) :: restE NE (k + 1)) sa cs S1 ta 6 T1 ha ch (H1.set k false) (.slice (some ax) l3.length cx) (X.set i at2) aa ca ++ boxA bb a0 (sx k) 0 0 t0 :: [rowS (.slice Ak nk ck) ks])) := ⟨HA7.out⟩
              have HB8 := HB7
              clear HTV HA6 HB6 HA7 HB7
              generalize w7 = w8 at HA8 HB8 cT ⊢
              obtain ⟨nc0, nc1, nc2, nc3, nc4⟩ := now_cells HA8.out
              dsimp only at nc0 nc1 nc2 nc3 nc4
              obtain ⟨bc0, bc1, bc2, bc3, bc4, -⟩ := box_cells HA8.out
              obtain ⟨hNN, -, -⟩ := row_reads HA8.out (d := kA) (e := 36) (A := some an) (n := N) (c := cn2) (xs := (L ++ (⟨a0, sx k, 0, 0, t0⟩ : SA) :: restE NE (k + 1))) (.head _)
              rw [List.length_append, List.length_cons] at hNN
              have g1 : decide ((L.length : Int) ≥ (N : Int)) = false := decide_eq_false (by omega)
              have g2 : decide ((L.length : Int) < (N : Int)) = true := decide_eq_true (by omega)
              have g3 : ¬ N ≤ L.length := by omega
              have g4 : L.length < N := by omega
              clear hNN
              go_wp2_with fail
              refine start_ (n := 12) (S := fun w' => w'.cell? (an.add (L.length * 5)) = some (.int .u32 a0) ∧ w'.cell? ⟨(an.add (L.length * 5)).block, (an.add (L.length * 5)).off + 1, none⟩ = some (.string (sx k)) ∧ w'.cell? ⟨(an.add (L.length * 5)).block, (an.add (L.length * 5)).off + 2, none⟩ = some (.int .u8 0) ∧ w'.cell? ⟨(an.add (L.length * 5)).block, (an.add (L.length * 5)).off + 3, none⟩ = some (.int .i64 0) ∧ w'.cell? ⟨(an.add (L.length * 5)).block, (an.add (L.length * 5)).off + 4, none⟩ = some (.int .i64 t0) ∧ w'.cell? ⟨bb, 0, none⟩ = some (.int .u32 a0) ∧ w'.cell? ⟨bb, 1, none⟩ = some (.string (sx k)) ∧ w'.cell? ⟨bb, 2, none⟩ = some (.int .u8 0) ∧ w'.cell? ⟨bb, 3, none⟩ = some (.int .i64 0) ∧ w'.cell? ⟨bb, 4, none⟩ = some (.int .i64 t0)) (ds := []) #[false, false, false, false, false, false, false, false, false, false, false, false] (by kernel_rfl) rfl rfl ⟨nc0, nc1, nc2, nc3, nc4, bc0, bc1, bc2, bc3, bc4⟩ (fun hHeld => ?_)
              refine pure_ (i := 0) (N := some 157) (v := ?_) (a' := ?_) #[true, false, false, false, false, false, false, false, false, false, false, false] rfl rfl (by kernel_rfl) (fun _ _ _ h => h) (Or.inl ⟨by rfl, ?_⟩) ?_ ?_
              rotate_left
              · intro w'
                go_simp
                with_reducible rfl
              rotate_left
              · simp only [Act.put, List.setIfInBounds_toArray, List.set_cons_zero, List.set_cons_succ, i64_w, i32_w]
                rfl
              refine pure_ (i := 1) (N := some 158) (v := ?_) (a' := ?_) #[true, true, false, false, false, false, false, false, false, false, false, false] rfl rfl (by kernel_rfl) (fun _ _ _ h => h) (Or.inl ⟨by rfl, ?_⟩) ?_ ?_
              rotate_left
              · intro w'
                go_simp
                with_reducible rfl
              rotate_left
              · simp only [Act.put, List.setIfInBounds_toArray, List.set_cons_zero, List.set_cons_succ, i64_w, i32_w]
                rfl
              refine pure_ (i := 2) (N := some 159) (v := ?_) (a' := ?_) #[true, true, true, false, false, false, false, false, false, false, false, false] rfl rfl (by kernel_rfl) (fun _ _ _ h => h) (Or.inl ⟨by rfl, ?_⟩) ?_ ?_
              rotate_left
              · intro w'
                go_simp
                with_reducible rfl
              rotate_left
              · simp only [Act.put, List.setIfInBounds_toArray, List.set_cons_zero, List.set_cons_succ, i64_w, i32_w]
                rfl
              refine pure_ (i := 3) (N := some 160) (v := ?_) (a' := ?_) #[true, true, true, true, false, false, false, false, false, false, false, false] rfl rfl (by kernel_rfl) (fun _ _ _ h => h) (Or.inl ⟨by rfl, ?_⟩) ?_ ?_
              rotate_left
              · intro w'
                go_simp
                with_reducible rfl
              rotate_left
              · simp only [Act.put, List.setIfInBounds_toArray, List.set_cons_zero, List.set_cons_succ, i64_w, i32_w]
                rfl
              refine pure_ (i := 4) (N := some 161) (v := ?_) (a' := ?_) #[true, true, true, true, true, false, false, false, false, false, false, false] rfl rfl (by kernel_rfl) (fun _ _ _ h => h) (Or.inl ⟨by rfl, ?_⟩) ?_ ?_
              rotate_left
              · intro w'
                go_simp
                with_reducible rfl
              rotate_left
              · simp only [Act.put, List.setIfInBounds_toArray, List.set_cons_zero, List.set_cons_succ, i64_w, i32_w]
                rfl
              refine pure_ (i := 5) (N := some 162) (v := ?_) (a' := ?_) #[true, true, true, true, true, true, false, false, false, false, false, false] rfl rfl (by kernel_rfl) (fun _ _ _ h => h) (Or.inl ⟨by rfl, ?_⟩) ?_ ?_
              rotate_left
              · intro w'
                go_simp
                with_reducible rfl
              rotate_left
              · simp only [Act.put, List.setIfInBounds_toArray, List.set_cons_zero, List.set_cons_succ, i64_w, i32_w]
                rfl
              refine pure_ (i := 6) (N := some 163) (v := ?_) (a' := ?_) #[true, true, true, true, true, true, true, false, false, false, false, false] rfl rfl (by kernel_rfl) (fun _ _ _ h => h) (Or.inl ⟨by rfl, ?_⟩) ?_ ?_
              rotate_left
              · intro w'
                go_simp
                with_reducible rfl
              rotate_left
              · simp only [Act.put, List.setIfInBounds_toArray, List.set_cons_zero, List.set_cons_succ, i64_w, i32_w]
                rfl
              refine pure_ (i := 7) (N := some 164) (v := ?_) (a' := ?_) #[true, true, true, true, true, true, true, true, false, false, false, false] rfl rfl (by kernel_rfl) (fun _ _ _ h => h) (Or.inl ⟨by rfl, ?_⟩) ?_ ?_
              rotate_left
              · intro w'
                go_simp
                with_reducible rfl
              rotate_left
              · simp only [Act.put, List.setIfInBounds_toArray, List.set_cons_zero, List.set_cons_succ, i64_w, i32_w]
                rfl
              refine take_ (i := 8) (N := some 165) (v := ?_) (a' := ?_) #[true, true, true, true, true, true, true, true, true, false, false, false] rfl rfl (by kernel_rfl) (fun _ _ _ h => h) (Or.inl ⟨by rfl, ?_⟩) hHeld ?_ ?_
              rotate_left
              · rintro w' ⟨s0, s1, s2, s3, s4, s5, s6, s7, s8, s9⟩
                go_simp
                with_reducible rfl
              rotate_left
              · simp only [Act.put, List.setIfInBounds_toArray, List.set_cons_zero, List.set_cons_succ, i64_w, i32_w]
                rfl
              refine take_ (i := 9) (N := some 166) (v := ?_) (a' := ?_) #[true, true, true, true, true, true, true, true, true, true, false, false] rfl rfl (by kernel_rfl) (fun _ _ _ h => h) (Or.inl ⟨by rfl, ?_⟩) hHeld ?_ ?_
              rotate_left
              · rintro w' ⟨s0, s1, s2, s3, s4, s5, s6, s7, s8, s9⟩
                go_simp
                with_reducible rfl
              rotate_left
              · simp only [Act.put, List.setIfInBounds_toArray, List.set_cons_zero, List.set_cons_succ, i64_w, i32_w]
                rfl
              refine pure_ (i := 10) (N := some 167) (v := ?_) (a' := ?_) #[true, true, true, true, true, true, true, true, true, true, true, false] rfl rfl (by kernel_rfl) (fun _ _ _ h => h) (Or.inl ⟨by rfl, ?_⟩) ?_ ?_
              rotate_left
              · intro w'
                go_simp
                with_reducible rfl
              rotate_left
              · simp only [Act.put, List.setIfInBounds_toArray, List.set_cons_zero, List.set_cons_succ, i64_w, i32_w]
                rfl
              refine pure_ (i := 11) (N := some 168) (v := ?_) (a' := ?_) #[true, true, true, true, true, true, true, true, true, true, true, true] rfl rfl (by kernel_rfl) (fun _ _ _ h => h) (Or.inl ⟨by rfl, ?_⟩) ?_ ?_
              rotate_left
              · intro w'
                go_simp
                with_reducible rfl
              rotate_left
              · simp only [Act.put, List.setIfInBounds_toArray, List.set_cons_zero, List.set_cons_succ, i64_w, i32_w]
                rfl
              refine done_ (by kernel_rfl) ?_

              have HA9 := Aside0.mk HA8.out.drew
              have HB9 := Aside0.mk (bl_drew HB8.out)
              clear nc0 nc1 nc2 nc3 nc4 bc0 bc1 bc2 bc3 bc4 HA8 HB8 g1 g3
              generalize w8.drew = w9 at HA9 HB9 ⊢
              go_wp2_with fail
              clear cT c1 c2 d7 d9
              obtain ⟨-, -, bc2, -, -, -⟩ := box_cells HA9.out
              refine start_ (n := 16) (S := fun w' => w'.cell? ⟨bb, 2, none⟩ = some (.int .u8 0)) (ds := []) #[false, false, false, false, false, false, false, false, false, false, false, false, false, false, false, false] (by kernel_rfl) rfl rfl (bc2) (fun hHeld => ?_)
              refine pure_ (i := 0) (N := some 169) (v := ?_) (a' := ?_) #[true, false, false, false, false, false, false, false, false, false, false, false, false, false, false, false] rfl rfl (by kernel_rfl) (fun _ _ _ h => h) (Or.inl ⟨by rfl, ?_⟩) ?_ ?_
              rotate_left
              · intro w'
                go_simp
                with_reducible rfl
              rotate_left
              · simp only [Act.put, List.setIfInBounds_toArray, List.set_cons_zero, List.set_cons_succ, i64_w, i32_w]
                rfl
              refine take_ (i := 1) (N := some 170) (v := ?_) (a' := ?_) #[true, true, false, false, false, false, false, false, false, false, false, false, false, false, false, false] rfl rfl (by kernel_rfl) (fun _ _ _ h => h) (Or.inl ⟨by rfl, ?_⟩) hHeld ?_ ?_
              rotate_left
              · intro w' s0
                go_simp
                with_reducible rfl
              rotate_left
              · simp only [Act.put, List.setIfInBounds_toArray, List.set_cons_zero, List.set_cons_succ, i64_w, i32_w]
                rfl
              refine pure_ (i := 2) (N := some 171) (v := ?_) (a' := ?_) #[true, true, true, false, false, false, false, false, false, false, false, false, false, false, false, false] rfl rfl (by kernel_rfl) (fun _ _ _ h => h) (Or.inl ⟨by rfl, ?_⟩) ?_ ?_
              rotate_left
              · intro w'
                go_simp
                with_reducible rfl
              rotate_left
              · simp only [Act.put, List.setIfInBounds_toArray, List.set_cons_zero, List.set_cons_succ, i64_w, i32_w]
                rfl
              refine pure_ (i := 3) (N := some 172) (v := ?_) (a' := ?_) #[true, true, true, true, false, false, false, false, false, false, false, false, false, false, false, false] rfl rfl (by kernel_rfl) (fun _ _ _ h => h) (Or.inl ⟨by rfl, ?_⟩) ?_ ?_
              rotate_left
              · intro w'
                go_simp
                with_reducible rfl
              rotate_left
              · simp only [Act.put, List.setIfInBounds_toArray, List.set_cons_zero, List.set_cons_succ, i64_w, i32_w]
                rfl
              refine pure_ (i := 4) (N := some 173) (v := undef) (a' := ?_) #[true, true, true, true, true, false, false, false, false, false, false, false, false, false, false, false] rfl rfl (by kernel_rfl) (fun _ _ _ h => h) (Or.inr ⟨by rfl, rfl⟩) ?_ ?_
              rotate_left
              · simp only [Act.put, List.setIfInBounds_toArray, List.set_cons_zero, List.set_cons_succ, i64_w, i32_w]
                rfl
              refine pure_ (i := 5) (N := some 174) (v := undef) (a' := ?_) #[true, true, true, true, true, true, false, false, false, false, false, false, false, false, false, false] rfl rfl (by kernel_rfl) (fun _ _ _ h => h) (Or.inr ⟨by rfl, rfl⟩) ?_ ?_
              rotate_left
              · simp only [Act.put, List.setIfInBounds_toArray, List.set_cons_zero, List.set_cons_succ, i64_w, i32_w]
                rfl
              refine pure_ (i := 6) (N := some 175) (v := undef) (a' := ?_) #[true, true, true, true, true, true, true, false, false, false, false, false, false, false, false, false] rfl rfl (by kernel_rfl) (fun _ _ _ h => h) (Or.inr ⟨by rfl, rfl⟩) ?_ ?_
              rotate_left
              · simp only [Act.put, List.setIfInBounds_toArray, List.set_cons_zero, List.set_cons_succ, i64_w, i32_w]
                rfl
              refine pure_ (i := 7) (N := some 176) (v := undef) (a' := ?_) #[true, true, true, true, true, true, true, true, false, false, false, false, false, false, false, false] rfl rfl (by kernel_rfl) (fun _ _ _ h => h) (Or.inr ⟨by rfl, rfl⟩) ?_ ?_
              rotate_left
              · simp only [Act.put, List.setIfInBounds_toArray, List.set_cons_zero, List.set_cons_succ, i64_w, i32_w]
                rfl
              refine pure_ (i := 8) (N := some 177) (v := undef) (a' := ?_) #[true, true, true, true, true, true, true, true, true, false, false, false, false, false, false, false] rfl rfl (by kernel_rfl) (fun _ _ _ h => h) (Or.inr ⟨by rfl, rfl⟩) ?_ ?_
              rotate_left
              · simp only [Act.put, List.setIfInBounds_toArray, List.set_cons_zero, List.set_cons_succ, i64_w, i32_w]
                rfl
              refine pure_ (i := 9) (N := some 178) (v := undef) (a' := ?_) #[true, true, true, true, true, true, true, true, true, true, false, false, false, false, false, false] rfl rfl (by kernel_rfl) (fun _ _ _ h => h) (Or.inr ⟨by rfl, rfl⟩) ?_ ?_
              rotate_left
              · simp only [Act.put, List.setIfInBounds_toArray, List.set_cons_zero, List.set_cons_succ, i64_w, i32_w]
                rfl
              refine pure_ (i := 10) (N := some 179) (v := undef) (a' := ?_) #[true, true, true, true, true, true, true, true, true, true, true, false, false, false, false, false] rfl rfl (by kernel_rfl) (fun _ _ _ h => h) (Or.inr ⟨by rfl, rfl⟩) ?_ ?_
              rotate_left
              · simp only [Act.put, List.setIfInBounds_toArray, List.set_cons_zero, List.set_cons_succ, i64_w, i32_w]
                rfl
              refine pure_ (i := 11) (N := some 180) (v := undef) (a' := ?_) #[true, true, true, true, true, true, true, true, true, true, true, true, false, false, false, false] rfl rfl (by kernel_rfl) (fun _ _ _ h => h) (Or.inr ⟨by rfl, rfl⟩) ?_ ?_
              rotate_left
              · simp only [Act.put, List.setIfInBounds_toArray, List.set_cons_zero, List.set_cons_succ, i64_w, i32_w]
                rfl
              refine pure_ (i := 12) (N := some 181) (v := undef) (a' := ?_) #[true, true, true, true, true, true, true, true, true, true, true, true, true, false, false, false] rfl rfl (by kernel_rfl) (fun _ _ _ h => h) (Or.inr ⟨by rfl, rfl⟩) ?_ ?_
              rotate_left
              · simp only [Act.put, List.setIfInBounds_toArray, List.set_cons_zero, List.set_cons_succ, i64_w, i32_w]
                rfl
              refine pure_ (i := 13) (N := some 182) (v := undef) (a' := ?_) #[true, true, true, true, true, true, true, true, true, true, true, true, true, true, false, false] rfl rfl (by kernel_rfl) (fun _ _ _ h => h) (Or.inr ⟨by rfl, rfl⟩) ?_ ?_
              rotate_left
              · simp only [Act.put, List.setIfInBounds_toArray, List.set_cons_zero, List.set_cons_succ, i64_w, i32_w]
                rfl
              refine pure_ (i := 14) (N := some 183) (v := undef) (a' := ?_) #[true, true, true, true, true, true, true, true, true, true, true, true, true, true, true, false] rfl rfl (by kernel_rfl) (fun _ _ _ h => h) (Or.inr ⟨by rfl, rfl⟩) ?_ ?_
              rotate_left
              · simp only [Act.put, List.setIfInBounds_toArray, List.set_cons_zero, List.set_cons_succ, i64_w, i32_w]
                rfl
              refine pure_ (i := 15) (N := some 184) (v := ?_) (a' := ?_) #[true, true, true, true, true, true, true, true, true, true, true, true, true, true, true, true] rfl rfl (by kernel_rfl) (fun _ _ _ h => h) (Or.inl ⟨by rfl, ?_⟩) ?_ ?_
              rotate_left
              · intro w'
                go_simp
                with_reducible rfl
              rotate_left
              · simp only [Act.put, List.setIfInBounds_toArray, List.set_cons_zero, List.set_cons_succ, i64_w, i32_w]
                rfl
              refine done_ (by kernel_rfl) ?_

              have HA10 := Aside0.mk HA9.out.drew
              have HB10 := Aside0.mk (bl_drew HB9.out)
              clear bc2 HA9 HB9
              generalize w9.drew = w10 at HA10 HB10 ⊢
              have HLS : Aside0 (headE (fun j => if j = k then some (⟨a0, sx k, 0, 0, t0⟩ : SA) else E' j) (k + 1) = L ++ [(⟨a0, sx k, 0, 0, t0⟩ : SA)]) := ⟨by rw [head_put, HAT2.out.1]; first | rfl | simp⟩
              have HAT3 := Aside0.mk (HAT2.out.2.put hk6 (e := some (⟨a0, sx k, 0, 0, t0⟩ : SA)) (S' := S1) (T' := T1) (H' := (H1.set k false)) s0 t0 false (by simp [HZ.out]) (by simp [HZ.out]) (by simp [HZ.out]) (same_rd S1 k _ HZZ.out.1) (same_rd T1 k _ HZZ.out.2.1) (rdB_set H1 k false (by simp [HZ.out, hk6])) (.inr (.inl ⟨rfl, hq0, _, rfl, rfl, rfl, rfl, rfl⟩)))
              have ek := HEK.out
              have eL := HEL.out
              have d4 := HD6.out.1
              go_wp2_with fail
              go_roundw
              case rel => exact ⟨k + 1, _, L ++ [(⟨a0, sx k, 0, 0, t0⟩ : SA)], _, _, _, by first | rfl | rw [ek], by first | rfl | (rw [List.length_append]; first | rfl | (rw [eL]; rfl)), by omega, ⟨HLS.out, HAT3.out⟩, ⟨by rw [List.append_assoc]; exact (has_mid HA10.out).tail⟩, HB10⟩
              case measure => first | (simp [intOf]; omega) | (rw [ek]; simp [intOf]; omega)
        · have d4 : decide ((k : Int) < 6) = false := decide_eq_false (by omega)
          have d8 : ¬ (k : Int) < 6 := by omega
          obtain rfl : k = 6 := by omega
          obtain ⟨hNN, -, -⟩ := row_reads HA.out (d := kA) (e := 36) (A := An2) (n := N) (c := cn2) (xs := L ++ restE NE 6) (.head _)
          rw [rest_end, List.append_nil] at hNN
          have hNN : N = L.length := hNN
          subst hNN
          have HA' : Aside0 (Has W.heap.size wr (hold6 (.slice An2 L.length cn2) (listE E') sa cs S1 ta 6 T1 ha ch H1 (.slice (some ax) l3.length cx) (X.set i at2) aa ca ++ [])) := ⟨by
            have := HA.out
            rw [rest_end, List.append_nil, ← HAT2.out.1, head_six] at this
            rw [← HAT2.out.1, head_six]
            exact (has_mid this).tail⟩
          have HI' : Aside0 (S1.length = 6 ∧ T1.length = 6 ∧ H1.length = 6 ∧ ∀ j, j < 6 → Cond a0 j (E' j) (rd S1 (j : Nat)) (rd T1 (j : Nat)) (rdOf false H1 (j : Nat))) := ⟨HAT2.out.2.ls, HAT2.out.2.lt, HAT2.out.2.lh, fun j hj => HAT2.out.2.done j hj⟩
          have ei := HEI.out
          clear HA
          go_wp2_with fail
          go_roundw
          case rel => exact ⟨i + 1, E', at2, An2, _, cn2, S1, T1, H1, X.set i at2, by first | rfl | rw [ei], rfl, rfl, HRI.out, HAT.out.2.1, HAT.out.2.2, HXL.out, HI', HA', HB⟩
          case measure => first | (simp [intOf]; omega) | (rw [ei]; simp [intOf]; omega)
    · have d2 : decide ((i : Int) < (l3.length : Int)) = false := decide_eq_false (by omega)
      go_wp2_with fail
      go_ret
      exact ⟨rfl, HB.out⟩
    end Go.Proofs.Ytgfkdcckifdcpaa.Hold
