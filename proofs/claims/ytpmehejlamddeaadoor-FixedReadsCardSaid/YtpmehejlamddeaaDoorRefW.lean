/- What the document writes of a number: the same list. -/
import Derived.Test.YtpmehejlamddeaaDoorRefP
namespace Go.Proofs.YtpmehejlamddeaaDoor.Pure
open Go.RowKit Go.Proofs.YtpmehejlamddeaaDoorW.PrintWords Go.Proofs.YtpmehejlamddeaaDoorW.PrintLast Go.Proofs.YtpmehejlamddeaaDoorW.PrintMore Go.Proofs.YtpmehejlamddeaaDoor.Q
set_option linter.unusedVariables false
set_option linter.unusedSimpArgs false

theorem str_toL (l : List UInt8) : (str l).toList = l := by rw [ByteArray.toList_eq]; rfl
theorem digit_str (u : Nat) (h : u < 10) : strOfNums [(wrap64 (48 + (u : Int))) % 256] = str [UInt8.ofNat (48 + u)] := by
  have : ∀ x : Fin 10, strOfNums [(wrap64 (48 + ((x.1 : Nat) : Int))) % 256] = str [UInt8.ofNat (48 + x.1)] := by decide +kernel
  exact this ⟨u, h⟩
theorem mod10 (u : Nat) : Int.tmod (u : Int) 10 = ((u % 10 : Nat) : Int) := by rw [Int.tmod_eq_emod_of_nonneg (by omega)]; omega
theorem div10 (u : Nat) (h : u ≤ 9223372036854775807) : wrap64 (Int.tdiv (u : Int) 10) = ((u / 10 : Nat) : Int) := by rw [Int.tdiv_eq_ediv_of_nonneg (by omega), w64 (by omega) (by omega)]; omega
def tailW (n : Nat) : List UInt8 := if n % 1000 = 0 then [] else 46 :: partL (n % 1000)
theorem refW_end (acc : List UInt8) (u : Nat) : Ev (fun k => tocsinref01_Print.l1 k (str acc) 0 (u : Int)) (str acc) :=
  Ev.step (fun k => by rw [tocsinref01_Print.l1, if_neg (by omega)]) (Ev.now _)
theorem refW_step (acc : List UInt8) (p u : Nat) (hp : 0 < p) (hu : 0 < u) (hd : p / u < 10) (hpm : p ≤ 1000) (hum : u ≤ 1000) (hacc : acc.length ≤ 1000) {r : ByteArray} (h : Ev (fun k => tocsinref01_Print.l1 k (str (acc ++ [UInt8.ofNat (48 + p / u)])) ((p % u : Nat) : Int) ((u / 10 : Nat) : Int)) r) :
    Ev (fun k => tocsinref01_Print.l1 k (str acc) (p : Int) (u : Int)) r := by
  have e1 : wrap64 (Int.tdiv (p : Int) (u : Int)) = ((p / u : Nat) : Int) := by
    rw [Int.tdiv_eq_ediv_of_nonneg (by omega), ← Int.natCast_ediv]
    generalize p / u = d at hd ⊢
    exact w64 (by omega) (by omega)
  have e2 : Int.tmod (p : Int) (u : Int) = ((p % u : Nat) : Int) := by
    rw [Int.tmod_eq_emod_of_nonneg (by omega), ← Int.natCast_emod]
  refine Ev.step (fun k => by rw [tocsinref01_Print.l1, if_pos (by omega), if_neg (by omega), e1, e2, div10 u (by omega)]) ?_
  refine ev_bsome ?_
  rw [digit_str _ hd]
  refine ev_pos (by rw [size_str, size_str]; simp; omega) ?_
  rw [str_app]
  exact h
theorem part_digits : ∀ p : Fin 1000, 0 < p.1 → partL p.1 = (if p.1 % 100 = 0 then [UInt8.ofNat (48 + p.1 / 100)] else if p.1 % 100 % 10 = 0 then [UInt8.ofNat (48 + p.1 / 100), UInt8.ofNat (48 + p.1 % 100 / 10)] else [UInt8.ofNat (48 + p.1 / 100), UInt8.ofNat (48 + p.1 % 100 / 10), UInt8.ofNat (48 + p.1 % 100 % 10 / 1)]) := by decide +kernel
theorem refW_l1 (acc : List UInt8) (p : Nat) (hp : 0 < p) (hp2 : p < 1000) (hacc : acc.length ≤ 100) : Ev (fun k => tocsinref01_Print.l1 k (str acc) (p : Int) 100) (str (acc ++ partL p)) := by
  have hd := part_digits ⟨p, hp2⟩ hp
  dsimp only at hd
  rw [hd]
  refine refW_step acc p 100 hp (by omega) (by omega) (by omega) (by omega) (by omega) ?_
  by_cases a : p % 100 = 0
  · rw [if_pos a, a]
    exact refW_end _ 10
  · rw [if_neg a]
    refine refW_step _ (p % 100) 10 (by omega) (by omega) (by omega) (by omega) (by omega) (by rw [List.length_append, List.length_singleton]; omega) ?_
    by_cases b : p % 100 % 10 = 0
    · rw [if_pos b, b, List.append_assoc]
      exact refW_end _ 1
    · rw [if_neg b]
      refine refW_step _ (p % 100 % 10) 1 (by omega) (by omega) (by omega) (by omega) (by omega) (by rw [List.length_append, List.length_append, List.length_singleton]; simp; omega) ?_
      rw [show p % 100 % 10 % 1 = 0 by omega, List.append_assoc, List.append_assoc]
      exact refW_end _ 0
theorem refW_stop (n : Nat) (hn : n ≤ 4611686018427387903) (acc : List UInt8) (ha : acc ≠ []) (hl : acc.length ≤ 50) : Ev (fun k => tocsinref01_Print.l0 k (n : Int) (str acc) 0) (str (acc ++ tailW n)) := by
  have e2 : Int.tmod (n : Int) 1000 = ((n % 1000 : Nat) : Int) := by rw [Int.tmod_eq_emod_of_nonneg (by omega)]; omega
  refine Ev.step (fun k => by rw [tocsinref01_Print.l0, if_neg (by omega), str_toL, if_neg ha, e2]) ?_
  unfold tailW
  by_cases z : n % 1000 = 0
  · rw [if_pos z, List.append_nil]
    exact ev_pos (by omega) (Ev.now _)
  · rw [if_neg z]
    refine ev_neg (by omega) (ev_pos (by rw [size_str]; omega) ?_)
    rw [show (⟨#[46]⟩ : ByteArray) = str [46] from rfl, str_app]
    have := refW_l1 (acc ++ [46]) (n % 1000) (by omega) (by omega) (by rw [List.length_append, List.length_singleton]; omega)
    rw [List.append_assoc] at this
    exact this
theorem refW_l0 (n : Nat) (hn : n ≤ 4611686018427387903) : ∀ (f u : Nat) (acc : List UInt8), u < 10 ^ f → 0 < f → f + acc.length ≤ 40 → u ≤ 4611686018427387903 → (0 < u ∨ acc = []) → Ev (fun k => tocsinref01_Print.l0 k (n : Int) (str acc) (u : Int)) (str (decS f u ++ acc ++ tailW n))
  | 0, _, _, _, h, _, _, _ => absurd h (by omega)
  | f + 1, u, acc, hu, _, hl, hum, hs => by
    have step : Ev (fun k => tocsinref01_Print.l0 k (n : Int) (str (UInt8.ofNat (48 + u % 10) :: acc)) ((u / 10 : Nat) : Int)) (str (decS (f + 1) u ++ acc ++ tailW n)) := by
      rw [decS]
      by_cases a : u < 10
      · rw [if_pos a, show u / 10 = 0 by omega, show u % 10 = u by omega]
        exact refW_stop n hn _ (by simp) (by rw [List.length_cons]; omega)
      · rw [if_neg a]
        have hf : 0 < f := by
          rcases Nat.eq_zero_or_pos f with h | h
          · rw [h] at hu; omega
          · exact h
        have := refW_l0 n hn f (u / 10) (UInt8.ofNat (48 + u % 10) :: acc) (by rw [Nat.pow_succ] at hu; omega) hf (by rw [List.length_cons]; omega) (by omega) (.inl (by omega))
        rw [List.append_assoc (decS f (u / 10)), List.singleton_append]
        exact this
    have body : Ev (fun k => (some (([(wrap64 (48 + (Int.tmod (u : Int) 10))) % 256] : List Int) : List Int)).bind fun y => (if (strOfNums y).size + (str acc).size ≤ 9223372036854775807 then (tocsinref01_Print.l0 k (n : Int) ((strOfNums y) ++ (str acc)) (wrap64 (Int.tdiv (u : Int) 10))) else (none))) (str (decS (f + 1) u ++ acc ++ tailW n)) := by
      rw [mod10, div10 u (by omega)]
      refine ev_bsome ?_
      rw [digit_str _ (by omega)]
      refine ev_pos (by rw [size_str, size_str]; simp; omega) ?_
      rw [str_app]
      exact step
    refine Ev.step (fun k => by rw [tocsinref01_Print.l0]) ?_
    by_cases a : (u : Int) > 0
    · exact ev_pos a body
    · refine ev_neg a (ev_pos ?_ body)
      rw [str_toL]
      exact hs.resolve_left (by omega)
theorem refW_abs (n : Nat) (hn : n ≤ 4611686018427387903) : Ev (fun k => tocsinref01_Print.l0 k (n : Int) ⟨#[]⟩ (wrap64 (Int.tdiv (n : Int) 1000))) (str (absL n)) := by
  have e1 : wrap64 (Int.tdiv (n : Int) 1000) = ((n / 1000 : Nat) : Int) := by
    rw [Int.tdiv_eq_ediv_of_nonneg (by omega), w64 (by omega) (by omega)]
    omega
  have := refW_l0 n hn 20 (n / 1000) [] (by omega) (by omega) (by simp) (by omega) (.inr rfl)
  rw [List.append_nil] at this
  rw [e1]
  exact this
theorem refPrint_ev (x : Int) : Ev (fun k => tocsinref01_Print.f k x) (str (printL (sat x))) := by
  have pos : ∀ n : Nat, n ≤ 4611686018427387903 → Ev (fun k => tocsinref01_Print.f k (n : Int)) (str (absL n)) := fun n hn => by
    refine Ev.step (fun k => by rw [tocsinref01_Print.f, satR_f, sat_id (by omega) (by omega), Option.bind_some, if_neg (by omega)]) ?_
    exact refW_abs n hn
  obtain ⟨h0, h1⟩ := sat_range x
  unfold printL
  by_cases h : sat x < 0
  · rw [if_pos h]
    have e : wrap64 (-(sat x)) = (((sat x).natAbs : Nat) : Int) := by rw [w64 (by omega) (by omega)]; omega
    have hl : (absL (sat x).natAbs).length ≤ 30 := by
      unfold absL
      have l1 := decS_length 20 ((sat x).natAbs / 1000)
      rw [List.length_append]
      have l2 : (if (sat x).natAbs % 1000 = 0 then ([] : List UInt8) else 46 :: partL ((sat x).natAbs % 1000)).length ≤ 4 := by
        split
        · simp
        · rename_i z
          have := part_all ⟨(sat x).natAbs % 1000, by omega⟩ (Nat.pos_of_ne_zero z)
          simp only [Bool.and_eq_true, decide_eq_true_eq] at this
          rw [List.length_cons]
          have := this.1.1.2.2
          omega
      omega
    refine Ev.step (fun k => by rw [tocsinref01_Print.f, satR_f, Option.bind_some, if_pos h, e]) ?_
    refine Ev.bind (pos _ (by omega)) (ev_pos (by rw [size_str]; omega) (ev_some ?_))
    rw [show (⟨#[45]⟩ : ByteArray) = str [45] from rfl, str_app]
  · rw [if_neg h]
    have e : sat x = (((sat x).natAbs : Nat) : Int) := by omega
    refine Ev.step (fun k => by rw [tocsinref01_Print.f, satR_f, Option.bind_some, if_neg h]) ?_
    have := refW_abs (sat x).natAbs (by omega)
    rw [← e] at this
    exact this
end Go.Proofs.YtpmehejlamddeaaDoor.Pure
