/- A ring of samples: New, Expire: walked. No law is proved here. -/
import Derived.Test.YtlhlaadnifkdhaaRingB
namespace Go.Proofs.Ytlhlaadnifkdhaa.Sr
open Go.RowKit Go.Proofs.YtlhlaadnifkdhaaW.PrintWords Go.Proofs.YtlhlaadnifkdhaaW.PrintLast Go.Proofs.YtlhlaadnifkdhaaW.PrintMore Go.Proofs.Ytlhlaadnifkdhaa.Q Go.Proofs.Ytlhlaadnifkdhaa.Own
set_option linter.unusedVariables false
set_option linter.unusedSimpArgs false
attribute [local go_sem ↓] Go.wp_at_zero Go.wp_at_succ

/-- What is left behind an expiry: all from the first sample on that is later. -/
def expL (xs : List SM) (at_ : Int) : List SM := xs.dropWhile fun y => decide (y.f0 ≤ at_)
theorem exp_at : ∀ {xs : List SM} {at_ : Int} {k : Nat} (hk : k ≤ xs.length), (∀ j (hj : j < xs.length), j < k → xs[j].f0 ≤ at_) → (∀ (h : k < xs.length), ¬ xs[k].f0 ≤ at_) → expL xs at_ = xs.drop k
  | xs, at_, 0, _, _, h2 => by
    cases xs with
    | nil => rfl
    | cons y ys =>
      have := h2 (by simp)
      unfold expL
      rw [List.dropWhile_cons, if_neg (by simpa using this)]
      rfl
  | [], at_, k + 1, hk, _, _ => absurd hk (by simp)
  | y :: ys, at_, k + 1, hk, h1, h2 => by
    have h0 := h1 0 (by simp) (by omega)
    unfold expL
    rw [List.dropWhile_cons, if_pos (by simpa using h0)]
    exact exp_at (xs := ys) (by simpa using hk) (fun j hj hjk => h1 (j + 1) (by simp; omega) (by omega)) (fun h => h2 (by simp; omega))
theorem RingIs.drop1 {cs : Array Value} {f : Nat} {x : SM} {xs : List SM} (h : RingIs cs f (x :: xs)) : RingIs ((cs.setIfInBounds 64 (.int .i64 (((f + 1) % 32 : Nat) : Int))).setIfInBounds 65 (.int .i64 (xs.length : Int))) ((f + 1) % 32) xs := by
  have hs := h.size
  have hf := h.lt
  have hle := h.le
  rw [List.length_cons] at hle
  refine ⟨by simp [hs], ?_, ?_, ?_, Nat.mod_lt _ (by decide), by omega, fun j hj => ?_⟩
  · rw [set_other (by omega), set_same (by rw [hs]; omega)]
  · rw [set_same (by simp [hs])]
  · rw [set_other (by omega), set_other (by omega)]
    exact h.made
  · obtain ⟨q1, q2⟩ := h.el (j + 1) (by simp; omega)
    have e : ((f + 1) % 32 + j) % 32 = (f + (j + 1)) % 32 := by omega
    have hk : (f + (j + 1)) % 32 < 32 := Nat.mod_lt _ (by decide)
    rw [e, set_other (by omega), set_other (by omega), set_other (by omega), set_other (by omega)]
    exact ⟨q1, q2⟩
theorem ring_new : RingIs ((Array.replicate 64 (Value.int .i64 0)) ++ #[.int .i64 0, .int .i64 0, .bool true]) 0 [] := ⟨by kernel_rfl, by kernel_rfl, by kernel_rfl, by kernel_rfl, by decide, by decide, fun j hj => absurd hj (Nat.not_lt_zero _)⟩
set_option maxHeartbeats 4000000 in
set_option maxRecDepth 100000 in
theorem rexp_calls {B : Nat} {w : World} {b : Nat} {xs : List SM} {Ts : List Th} (h : Has B w (ringT b xs :: Ts)) (at_ : Int) :
    Calls Try.prog 31 #[ptr b, .int .i64 at_] w fun e w' => e = .returned (.int .i64 ((xs.length - (expL xs at_).length : Nat) : Int)) ∧ Has B w' (ringT b (expL xs at_) :: Ts) ∧ Below B w w' := by
  obtain ⟨cs, f, hA, hr⟩ := ring_open h
  have HN := Aside0.mk (rnone_calls hA (List.mem_cons_self ..) hr)
  have HA := Aside0.mk hA
  have HR : Aside0 (RingIs cs f (xs.drop 0)) := ⟨hr⟩
  have HB : Aside0 (Below B w w) := ⟨Below.refl _ _⟩
  have hle := hr.le
  have HD0 : Aside0 (∀ j (hj : j < xs.length), j < 0 → xs[j].f0 ≤ at_) := ⟨fun j _ hj => absurd hj (Nat.not_lt_zero _)⟩
  clear h hA hr
  go_enter Try.func31, Try.ntmps31
  go_wp2_with fail
  refine HN.out.mono ?_
  rintro e w1 ⟨rfl, rfl⟩
  clear HN
  go_wp2_with fail
  go_loopw [5] (fun g wr => ∃ (k : Nat) (cs : Array Value) (f : Nat), g = .int .i64 k ∧ k ≤ xs.length ∧ Aside0 (∀ j (hj : j < xs.length), j < k → xs[j].f0 ≤ at_) ∧ Aside0 (RingIs cs f (xs.drop k)) ∧ Aside0 (Has B wr (boxR b cs :: Ts)) ∧ Aside0 (Below B w wr)) (fun g _ => xs.length - (intOf g).toNat)
  case atStart => exact ⟨0, cs, f, rfl, by omega, HD0, HR, HA, HB⟩
  case round =>
    clear HA HR HB HD0
    obtain ⟨k, cs, f, rfl, hk, HD, HR, HA, HB⟩ := hrel
    by_cases hlt : k < xs.length
    · have hdr := List.drop_eq_getElem_cons hlt
      have HR2 := HR.out
      rw [hdr] at HR2
      obtain ⟨-, c1, -, -, cel, -⟩ := ring_cells HA.out (List.mem_cons_self ..) HR2
      obtain ⟨c0, -⟩ := cel 0 (Nat.succ_pos _)
      rw [List.length_cons, List.length_drop] at c1
      obtain ⟨N, hN⟩ : ∃ N, xs.length - (k + 1) + 1 = N := ⟨_, rfl⟩
      obtain ⟨M, hM⟩ : ∃ M, xs.length - (k + 1) = M := ⟨_, rfl⟩
      rw [hN] at c1
      have d1 : decide ((N : Int) > 0) = true := decide_eq_true (by omega)
      have d2 : (0 : Int) < (N : Int) := by omega
      have d3 : 0 < N := by omega
      have e3 : wrap64 ((N : Int) - 1) = (M : Int) := (w64 (x := (N : Int) - 1) (by omega) (by omega)).trans (by omega)
      have e4 : wrap64 ((k : Int) + 1) = ((k + 1 : Nat) : Int) := (w64 (x := (k : Int) + 1) (by omega) (by omega)).trans (by omega)
      have HNN : Aside0 (xs.length - k = N ∧ xs.length - (k + 1) = M) := ⟨by omega, hM⟩
      have HAT := Aside0.mk (rat_calls HA.out (List.mem_cons_self ..) HR2 0 (by omega))
      have HXD : Aside0 ((xs.drop (k + 1)).length = xs.length - (k + 1)) := ⟨List.length_drop⟩
      have HY : Aside0 (∀ v, v = xs[k].f0 → xs[k].f0 = v) := ⟨fun v h => h.symm⟩
      have HDK : Aside0 (∀ (h : xs[k].f0 ≤ at_), ∀ j (hj : j < xs.length), j < k + 1 → xs[j].f0 ≤ at_) := ⟨fun h j hj hjk => by
        by_cases e : j = k
        · subst e; exact h
        · exact HD.out j hj (by omega)⟩
      have HEX : Aside0 (¬ xs[k].f0 ≤ at_ → expL xs at_ = xs.drop k) := ⟨fun h => exp_at hk HD.out (fun _ => h)⟩
      have HR3 := Aside0.mk HR2.drop1
      have HF := Aside0.mk HR2.lt
      have c0 : wr.cell? ⟨b, (f + 0) % 32 * 2, none⟩ = some (.int .i64 xs[k].f0) := c0
      obtain ⟨fi, hfi⟩ : ∃ n, f + 1 = n := ⟨_, rfl⟩
      rw [hfi] at HR3
      have e1 : wrap64 ((f : Int) + 1) = (fi : Int) := (w64 (x := (f : Int) + 1) (by have := HF.out; omega) (by have := HF.out; omega)).trans (by omega)
      have e2 : Int.tmod (fi : Int) 32 = ((fi % 32 : Nat) : Int) := by rw [Int.tmod_eq_emod_of_nonneg (by omega)]; omega
      generalize fi % 32 = g at e2 HR3
      rw [HXD.out, hM] at HR3
      clear HR2 cel hdr hN hM hfi
      generalize xs[k].f0 = y at c0 HDK HEX
      generalize (f + 0) % 32 * 2 = z at HAT c0
      go_wp2_with fail
      refine HAT.out.mono ?_
      rintro e w2 ⟨rfl, rfl⟩
      have c0' : wr.drew.cell? ⟨b, z, none⟩ = some (.int .i64 y) := c0
      have HA2 := Aside0.mk HA.out.drew
      have HB2 := Aside0.mk (bl_drew HB.out)
      clear HAT c0 c1 HA HB
      generalize wr.drew = w2 at HA2 HB2 c0' ⊢
      by_cases hy : y ≤ at_
      · have d4 : decide (y ≤ at_) = true := decide_eq_true hy
        have HD2 := Aside0.mk (HDK.out hy)
        obtain ⟨u1, u2, -, -⟩ := HA2.out.box_cell (List.mem_cons_self ..)
        have p1 : w2.cell? ⟨b, 64, none⟩ = some (.int .i64 (f : Int)) := (u1 64).trans HR.out.first
        have p2 : w2.cell? ⟨b, 65, none⟩ = some (.int .i64 (N : Int)) := (u1 65).trans (by rw [HR.out.n, List.length_drop, HNN.out.1])
        have z1 := u2 64
        have z2 := u2 65
        obtain ⟨hA3, hB3⟩ := HA2.out.box_set 64 (.int .i64 (g : Int))
        obtain ⟨hA4, hB4⟩ := hA3.box_set 65 (.int .i64 (M : Int))
        have HA4 := Aside0.mk hA4
        have HB4 := Aside0.mk ((HB2.out.trans hB3).trans hB4)
        have hlt' : k + 1 ≤ xs.length := hlt
        clear u1 u2 hA3 hB3 hA4 hB4 HA2 HB2 HDK HEX
        go_wp2_with fail
        go_roundw
        case rel => exact ⟨k + 1, _, g, by first | rfl | rw [e4], by omega, HD2, HR3, HA4, HB4⟩
        case measure => first | (simp [intOf]; omega) | (rw [e4]; simp [intOf]; omega)
      · have d4 : decide (y ≤ at_) = false := decide_eq_false hy
        have he := HEX.out (by omega)
        have HE := Aside0.mk he
        clear he hy HDK HEX
        go_wp2_with fail
        go_ret
        rw [HE.out]
        exact ⟨by rw [List.length_drop, show xs.length - (xs.length - k) = k from by omega]; rfl, ring_shut HA2.out HR.out, HB2.out⟩
    · obtain rfl : k = xs.length := by omega
      have hd : xs.drop xs.length = [] := List.drop_length
      have HE : Aside0 (expL xs at_ = []) := ⟨(exp_at (Nat.le_refl _) HD.out (fun h => absurd h (Nat.lt_irrefl _))).trans hd⟩
      rw [hd] at HR
      obtain ⟨-, c1, -, -, -, -⟩ := ring_cells HA.out (List.mem_cons_self ..) HR.out
      have c1 : wr.cell? ⟨b, 65, none⟩ = some (.int .i64 0) := c1
      clear hd
      go_wp2_with fail
      go_ret
      rw [HE.out]
      exact ⟨rfl, ring_shut HA.out HR.out, HB.out⟩
end Go.Proofs.Ytlhlaadnifkdhaa.Sr
