/- As many series as may be are there, then no more: walked. -/
import Derived.Test.YtlhlaadnifkdhaaSerJ
namespace Go.Proofs.Ytlhlaadnifkdhaa.Sr
open Go.RowKit Go.Proofs.YtlhlaadnifkdhaaW.PrintWords Go.Proofs.YtlhlaadnifkdhaaW.PrintLast Go.Proofs.YtlhlaadnifkdhaaW.PrintMore Go.Proofs.Ytlhlaadnifkdhaa.Q Go.Proofs.Ytlhlaadnifkdhaa.Own Go.Proofs.Ytlhlaadnifkdhaa.Nmd
set_option linter.unusedVariables false
set_option linter.unusedSimpArgs false
attribute [local go_sem ↓] Go.wp_at_zero Go.wp_at_succ

theorem wrap_mod (a : Int) (m : Nat) (h1 : 0 < m) (h2 : m ≤ 1000000) : ∃ j : Nat, j < m ∧ wrap64 ((IntKind.u64.wrap a).tmod (IntKind.u64.wrap (m : Int))) = (j : Int) := by
  obtain ⟨g1, g2⟩ := wrap_within .u64 a
  have g1' : 0 ≤ IntKind.u64.wrap a := g1
  have e : IntKind.u64.wrap (m : Int) = (m : Int) := by rw [IntKind.wrap_u64]; omega
  rw [e, Int.tmod_eq_emod_of_nonneg g1']
  generalize IntKind.u64.wrap a = b at *
  have m0 := Int.emod_nonneg b (show (m : Int) ≠ 0 by omega)
  have m1 := Int.emod_lt_of_pos b (show (0 : Int) < m by omega)
  refine ⟨(b % m).toNat, by omega, ?_⟩
  unfold wrap64
  omega
theorem wrap_nat {i : Nat} (h : i < 9223372036854775807) : wrap64 ((i : Int) + 1) = ((i + 1 : Nat) : Int) := by unfold wrap64; omega
/-- A label that is written out is added. -/
theorem add_lit {B : Nat} {W : World} {p : Nat} {V : List PV} {l : List LB} (h : Has B W [storeT p V]) (x : SM) (hl : l.length ≤ 9223372036854775807) :
    Calls Try.prog 9 #[ptr p, .slice (some ⟨W.heap.size, 0, none⟩) l.length l.length, .agg #[.int .i64 x.f0, .int .i64 x.f1]] (W.alloc (.cells (l.flatMap cellsL).toArray 31)) fun e w' => e = .returned (.int .i64 (addV V l x).1) ∧ Has B w' [storeT p (addV V l x).2, rowL (.slice (some ⟨W.heap.size, 0, none⟩) l.length l.length) l] ∧ Below B W w' := by
  have h1 := lit_L h l hl
  refine (st_add h1.swap (A := some ⟨W.heap.size, 0, none⟩) (c := l.length) (ls := l) x (fun w' hA _ => lit_readL hA (List.mem_cons_self ..)) (Nat.le_refl _) hl).mono ?_
  rintro e w' ⟨rfl, h2, h3⟩
  exact ⟨rfl, h2, ((Below.refl B W).alloc h.size _).trans h3⟩
theorem has_head {B : Nat} {w : World} {T : Th} {Ts : List Th} (h : Has B w (T :: Ts)) : Has B w [T] := has_only h
theorem conv_u8 (X : World) (o : Obj) (k : Nat) (h : k < 8) : (convert 29 9 (.slice (some ⟨X.heap.size + 1, 0, none⟩) 1 1)).run Try.prog ((X.alloc o).alloc (.cells #[.int .u8 (97 + (k : Int))] 5)) = .ok (.string ⟨#[UInt8.ofNat (97 + k)]⟩) ((X.alloc o).alloc (.cells #[.int .u8 (97 + (k : Int))] 5)) := by
  have hr : Kd.R (Kd.scalar (Value.int .u8) (fun _ => rfl)) 5 ((X.alloc o).alloc (.cells (encs (Value.int .u8) [97 + (k : Int)]).toArray 5)) 0 (fun _ => True) (.slice (some ⟨(X.alloc o).heap.size, 0, none⟩) 1 1) [97 + (k : Int)] :=
    ⟨fun _ _ => trivial, OwnRow.lit (ps := [97 + (k : Int)]) (X.alloc o) 0 (inner := encs (Value.int .u8) [97 + (k : Int)]) (Kd.reps_scalar _) (Nat.zero_le _) (by show 1 ≤ 9223372036854775807; omega)⟩
  have hC := (Kd.R_reads' hr).2.2
  rw [World.size_alloc] at hC
  have := Kd.C_string (P := Try.prog) (c := 1) Try.underlying29 Try.underlying5 Try.underlying9 hC
  rw [str_lab k h] at this
  exact this
set_option maxHeartbeats 8000000 in
set_option maxRecDepth 100000 in
theorem room_law (a0 : Int) (W : World) (w0 : (Lit.int .i64 a0).wf = true) :
    Calls Try.prog 3 #[.int .i64 a0] W fun e w' => e = .returned (.bool true) ∧ Below W.heap.size W w' := by
  clear w0
  obtain ⟨old, ho, eo⟩ := wrap_mod a0 8 (by omega) (by omega)
  rw [show IntKind.u64.wrap ((8 : Nat) : Int) = 8 from rfl] at eo
  have HO := Aside0.mk (room_end old ho)
  have HOK := Aside0.mk (room_ok old ho)
  go_enter Try.func3, Try.ntmps3
  go_wp2_with fail
  rw [eo]
  clear eo
  refine (st_new (Has.nil W)).mono ?_
  rintro e w1 ⟨p, rfl, hA, hB⟩
  have HA1 := Aside0.mk hA
  have HB1 := Aside0.mk hB
  clear hA hB
  go_wp2_with fail
  go_loopw [4] (fun i wr => ∃ k : Nat, i = .int .i64 k ∧ k ≤ 8 ∧ Aside0 (Has W.heap.size wr [storeT p (roomV old k)]) ∧ Aside0 (Below W.heap.size W wr)) (fun i _ => 8 - (intOf i).toNat)
  case atStart => exact ⟨0, rfl, by omega, HA1, HB1⟩
  case round =>
    clear HA1 HB1
    obtain ⟨k, rfl, hk, HA, HB⟩ := hrel
    by_cases hlt : k < 8
    · have d1 : decide ((k : Int) < 8) = true := decide_eq_true (by omega)
      have d1' : (k : Int) < 8 := by omega
      have ek : wrap64 ((k : Int) + 1) = ((k + 1 : Nat) : Int) := wrap_nat (by omega)
      have HK := Aside0.mk (HOK.out k hlt)
      have key : ∀ x : SM, x = roomX old k → Aside0 (Calls Try.prog 9 #[ptr p, .slice (some ⟨wr.heap.size + 2, 0, none⟩) 1 1, .agg #[.int .i64 x.f0, .int .i64 x.f1]] (((wr.alloc (.cells #[.int .i64 x.f0, .int .i64 x.f1] 26)).alloc (.cells #[.int .u8 (97 + (k : Int))] 5)).alloc (.cells #[.string ⟨#[110]⟩, .string ⟨#[UInt8.ofNat (97 + k)]⟩] 31)) fun e w' => e = .returned (.int .i64 0) ∧ Has W.heap.size w' [storeT p (roomV old (k + 1))] ∧ Below W.heap.size W w') := fun x hx => ⟨by
        have h0 := (HA.out.alloc (.cells #[.int .i64 x.f0, .int .i64 x.f1] 26)).alloc (.cells #[.int .u8 (97 + (k : Int))] 5)
        have hb0 : Below W.heap.size W ((wr.alloc (.cells #[.int .i64 x.f0, .int .i64 x.f1] 26)).alloc (.cells #[.int .u8 (97 + (k : Int))] 5)) := (HB.out.alloc HA.out.size _).alloc (by simp; have := HA.out.size; omega) _
        have h1 := add_lit h0 (l := labR k) x (by show 1 ≤ 9223372036854775807; omega)
        rw [World.size_alloc, World.size_alloc] at h1
        refine h1.mono ?_
        rintro e w' ⟨rfl, h2, h3⟩
        rw [hx, HK.out]
        rw [hx] at h2
        exact ⟨rfl, has_only h2, hb0.trans h3⟩⟩
      by_cases hko : k = old
      · subst hko
        have HAD := key ⟨5, 0⟩ (by unfold roomX; rw [if_pos rfl])
        have hcv := conv_u8 wr (.cells #[.int .i64 5, .int .i64 0] 26) k hlt
        clear key HA HB
        dsimp only at HAD
        generalize (⟨#[UInt8.ofNat (97 + k)]⟩ : ByteArray) = sk at HAD hcv
        go_wp2_with fail
        refine HAD.out.mono ?_
        rintro e w4 ⟨rfl, hA4, hB4⟩
        have HA4 := Aside0.mk hA4
        have HB4 := Aside0.mk hB4
        clear hA4 hB4 HAD hcv
        go_wp2_with fail
        go_roundw
        case rel => exact ⟨k + 1, by first | rfl | rw [ek], by omega, HA4, HB4⟩
        case measure => first | (simp [intOf]; omega) | (rw [ek]; simp [intOf]; omega)
      · have d2 : ((k : Int) == (old : Int)) = false := beq_eq_false_iff_ne.2 (by omega)
        have HAD := key ⟨10, 0⟩ (by unfold roomX; rw [if_neg hko])
        have hcv := conv_u8 wr (.cells #[.int .i64 10, .int .i64 0] 26) k hlt
        clear key HA HB
        dsimp only at HAD
        generalize (⟨#[UInt8.ofNat (97 + k)]⟩ : ByteArray) = sk at HAD hcv
        go_wp2_with fail
        refine HAD.out.mono ?_
        rintro e w4 ⟨rfl, hA4, hB4⟩
        have HA4 := Aside0.mk hA4
        have HB4 := Aside0.mk hB4
        clear hA4 hB4 HAD hcv
        go_wp2_with fail
        go_roundw
        case rel => exact ⟨k + 1, by first | rfl | rw [ek], by omega, HA4, HB4⟩
        case measure => first | (simp [intOf]; omega) | (rw [ek]; simp [intOf]; omega)
    · obtain rfl : k = 8 := by omega
      obtain ⟨q1, q2, q3, q4, q5⟩ := HO.out
      have HAD := Aside0.mk (add_lit HA.out (l := labR 25) ⟨10, 0⟩ (by show 1 ≤ 9223372036854775807; omega))
      rw [q1] at HAD
      have HZ := Aside0.mk HA.out.size
      have HQ : Aside0 (expVN (roomA old) 5 = 1 ∧ (addV (roomB old) (labR 25) ⟨10, 0⟩).1 = 0 ∧ (addV (roomC old) (labR 24) ⟨10, 0⟩).1 = 170 ∧ (roomD old).length = 8) := ⟨q2, q3, q4, q5⟩
      clear q1 q2 q3 q4 q5 HO HOK
      go_wp2_with fail
      refine HAD.out.mono ?_
      rintro e w4 ⟨rfl, hA4, hB4⟩
      have hA4 : Has W.heap.size w4 [storeT p (roomA old), rowL (.slice (some ⟨wr.heap.size, 0, none⟩) 1 1) (labR 25)] := hA4
      have HEX := Aside0.mk (st_exp hA4 5)
      rw [HQ.out.1] at HEX
      have HB4 := Aside0.mk (HB.out.trans hB4)
      clear hA4 hB4 HAD HA HB HZ
      go_wp2_with fail
      refine HEX.out.mono ?_
      rintro e w5 ⟨rfl, hA5, hB5⟩
      have hA5 : Has W.heap.size w5 [storeT p (roomB old), rowL (.slice (some ⟨wr.heap.size, 0, none⟩) 1 1) (labR 25)] := hA5
      have HAD := Aside0.mk (st_add hA5 (A := some ⟨wr.heap.size, 0, none⟩) (c := 1) (ls := labR 25) ⟨10, 0⟩ (fun w' hA _ => lit_readL hA (List.mem_cons_self ..)) (by show 1 ≤ 1; omega) (by show 1 ≤ 9223372036854775807; omega))
      rw [HQ.out.2.1] at HAD
      have HB5 := Aside0.mk (HB4.out.trans hB5)
      clear hA5 hB5 HEX HB4
      go_wp2_with fail
      refine HAD.out.mono ?_
      rintro e w6 ⟨rfl, hA6, hB6⟩
      have hA6 : Has W.heap.size w6 [storeT p (roomC old)] := has_only hA6
      have HAD := Aside0.mk (add_lit hA6 (l := labR 24) ⟨10, 0⟩ (by show 1 ≤ 9223372036854775807; omega))
      rw [HQ.out.2.2.1] at HAD
      have HB6 := Aside0.mk (HB5.out.trans hB6)
      clear hA6 hB6 HB5
      go_wp2_with fail
      refine HAD.out.mono ?_
      rintro e w7 ⟨rfl, hA7, hB7⟩
      have hA7 : Has W.heap.size w7 [storeT p (roomD old)] := has_only hA7
      have HLN := Aside0.mk (st_len hA7)
      rw [HQ.out.2.2.2] at HLN
      have HB7 := Aside0.mk (HB6.out.trans hB7)
      clear hA7 hB7 HAD HB6
      go_wp2_with fail
      refine HLN.out.mono ?_
      rintro e w8 ⟨rfl, rfl⟩
      go_wp2_with fail
      go_ret
      exact ⟨rfl, HB7.out⟩
end Go.Proofs.Ytlhlaadnifkdhaa.Sr
