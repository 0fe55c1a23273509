/- What is written is read as the same number. -/
import Derived.Test.YtpmehejlamddeaaDoorParseP
namespace Go.Proofs.YtpmehejlamddeaaDoor.Pure
open Go.RowKit Go.Proofs.YtpmehejlamddeaaDoorW.PrintWords Go.Proofs.YtpmehejlamddeaaDoorW.PrintLast Go.Proofs.YtpmehejlamddeaaDoorW.PrintMore Go.Proofs.YtpmehejlamddeaaDoor.Q
set_option linter.unusedVariables false
set_option linter.unusedSimpArgs false

theorem valL_shift : ∀ (l : List UInt8) (x : Int), valL x l = x * 10 ^ l.length + valL 0 l
  | [], x => by simp [valL]
  | c :: l, x => by
    have h1 := valL_shift l (10 * x + ((c.toNat : Int) - 48))
    have h2 := valL_shift l (10 * 0 + ((c.toNat : Int) - 48))
    show valL (10 * x + ((c.toNat : Int) - 48)) l = x * 10 ^ (l.length + 1) + valL (10 * 0 + ((c.toNat : Int) - 48)) l
    rw [h1, h2, Int.pow_succ, Int.add_mul, Int.add_mul, Int.mul_zero, Int.zero_mul, Int.zero_add, Int.mul_comm 10 x, Int.mul_assoc, Int.mul_comm 10 (10 ^ l.length), Int.add_assoc]
theorem part_facts {m : Nat} (h0 : 0 < m) (h1 : m < 1000) : Digits (partL m) ∧ partL m ≠ [] ∧ (partL m).length ≤ 3 ∧ valL 0 (partL m ++ List.replicate (3 - (partL m).length) 48) = m ∧ (partL m).getLast? ≠ some 48 := by
  have := part_all ⟨m, h1⟩ h0
  simp only [Bool.and_eq_true, decide_eq_true_eq] at this
  obtain ⟨⟨⟨a, b⟩, c⟩, d⟩ := this
  exact ⟨List.all_eq_true.1 a, fun q => by rw [q] at b; simp at b, b.2, c, d⟩
theorem whole_facts (n : Nat) (hn : n ≤ 4611686018427387903) : Digits (decS 20 (n / 1000)) ∧ decS 20 (n / 1000) ≠ [] ∧ valL 0 (decS 20 (n / 1000)) = ((n / 1000 : Nat) : Int) := decS_facts 20 (n / 1000) (by omega) (by omega)
theorem num_abs (n : Nat) (hn : n ≤ 4611686018427387903) : numL (absL n) = some (decS 20 (n / 1000), if n % 1000 = 0 then [] else partL (n % 1000)) := by
  obtain ⟨hw, hne, hv⟩ := whole_facts n hn
  unfold absL numL
  by_cases hz : n % 1000 = 0
  · rw [if_pos hz, if_pos hz, List.append_nil]
    have hdrop : (decS 20 (n / 1000)).dropWhile isD = [] := by
      have := List.dropWhile_append_of_pos (p := isD) (l₂ := []) hw
      rwa [List.append_nil] at this
    rw [hdrop]
    dsimp only
    rw [if_neg hne]
  · obtain ⟨p1, p2, p3, p4, p5⟩ := part_facts (m := n % 1000) (by omega) (by omega)
    rw [if_neg hz, if_neg hz]
    have hdrop : (decS 20 (n / 1000) ++ 46 :: partL (n % 1000)).dropWhile isD = 46 :: partL (n % 1000) := by
      rw [List.dropWhile_append_of_pos hw]
      rfl
    have htake : (decS 20 (n / 1000) ++ 46 :: partL (n % 1000)).takeWhile isD = decS 20 (n / 1000) := by
      rw [List.takeWhile_append_of_pos hw]
      show decS 20 (n / 1000) ++ [] = _
      rw [List.append_nil]
    rw [hdrop, htake]
    dsimp only
    rw [if_pos ⟨rfl, hne, p2, List.all_eq_true.2 p1, p3⟩]
theorem rest_abs (n : Nat) (hn : n ≤ 4611686018427387903) : restL (absL n) = some (n : Int) := by
  obtain ⟨hw, hne, hv⟩ := whole_facts n hn
  unfold restL
  rw [num_abs n hn, Option.map_some]
  congr 1
  by_cases hz : n % 1000 = 0
  · rw [if_pos hz]
    show min 4611686018427387903 (valL 0 (decS 20 (n / 1000) ++ [] ++ [48, 48, 48])) = _
    rw [List.append_nil, valL_append, hv, valL_shift]
    show min 4611686018427387903 (((n / 1000 : Nat) : Int) * 1000 + 0) = _
    omega
  · obtain ⟨p1, p2, p3, p4, p5⟩ := part_facts (m := n % 1000) (by omega) (by omega)
    rw [if_neg hz]
    show min 4611686018427387903 (valL 0 (decS 20 (n / 1000) ++ partL (n % 1000) ++ List.replicate (3 - (partL (n % 1000)).length) 48)) = _
    rw [List.append_assoc, valL_append, hv, valL_shift, p4, List.length_append, List.length_replicate, show (partL (n % 1000)).length + (3 - (partL (n % 1000)).length) = 3 by omega]
    show min 4611686018427387903 (((n / 1000 : Nat) : Int) * 1000 + ((n % 1000 : Nat) : Int)) = _
    omega
theorem abs_head (n : Nat) (hn : n ≤ 4611686018427387903) : ∃ c t, absL n = c :: t ∧ isD c = true := by
  obtain ⟨hw, hne, hv⟩ := whole_facts n hn
  unfold absL
  cases h : decS 20 (n / 1000) with
  | nil => exact absurd h hne
  | cons c t => exact ⟨c, _, rfl, hw c (by rw [h]; exact List.mem_cons_self)⟩
theorem parse_abs (n : Nat) (hn : n ≤ 4611686018427387903) : parseL (absL n) = ((n : Int), 0) := by
  obtain ⟨c, t, h, hc⟩ := abs_head n hn
  have hr := rest_abs n hn
  unfold parseL
  split
  · rename_i t' g
    rw [h] at g
    injection g with g1 g2
    subst g1
    exact absurd hc (by decide)
  · rw [hr]
theorem parse_print {y : Int} (h0 : -4611686018427387903 ≤ y) (h1 : y ≤ 4611686018427387903) : parseL (printL y) = (y, 0) := by
  unfold printL
  by_cases h : y < 0
  · rw [if_pos h]
    show (match restL (absL y.natAbs) with | some v => (-v, (0 : Int)) | none => (0, 10)) = _
    rw [rest_abs _ (by omega)]
    show (-((y.natAbs : Nat) : Int), (0 : Int)) = _
    congr 1
    omega
  · rw [if_neg h, List.nil_append, parse_abs _ (by omega)]
    congr 1
    omega
theorem abs_length (n : Nat) (hn : n ≤ 4611686018427387903) : (absL n).length ≤ 30 := by
  have := decS_length 20 (n / 1000)
  unfold absL
  rw [List.length_append]
  by_cases hz : n % 1000 = 0
  · rw [if_pos hz]; simp; omega
  · obtain ⟨p1, p2, p3, p4, p5⟩ := part_facts (m := n % 1000) (by omega) (by omega)
    rw [if_neg hz, List.length_cons]; omega
theorem print_length {y : Int} (h0 : -4611686018427387903 ≤ y) (h1 : y ≤ 4611686018427387903) : (printL y).length ≤ 31 := by
  have := abs_length y.natAbs (by omega)
  unfold printL
  rw [List.length_append]
  split <;> simp <;> omega
end Go.Proofs.YtpmehejlamddeaaDoor.Pure
