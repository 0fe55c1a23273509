/- Rows of bytes that came in; a store's steps at a file, in plain words. No law is proved here. -/
import Derived.Test.YtibnakpefjjoiaaFileO
namespace Go.Proofs.Ytibnakpefjjoiaa.Fs
open Go.RowKit Go.Proofs.YtibnakpefjjoiaaW.PrintWords Go.Proofs.YtibnakpefjjoiaaW.PrintLast Go.Proofs.YtibnakpefjjoiaaW.PrintMore Go.Proofs.Ytibnakpefjjoiaa.Q Go.Proofs.Ytibnakpefjjoiaa.Own
set_option linter.unusedVariables false
set_option linter.unusedSimpArgs false

abbrev kR : Kd (List Int) := Kd.slice 5 kB
theorem at_R {w : World} {A : Option Addr} {n : Nat} {l : List (List Int)} (h : Kd.C kR w A n l) (i : Nat) (hi : i < l.length) : ∃ ad A1 c1, A = some ad ∧ w.cell? (ad.add i) = some (.slice A1 l[i].length c1) ∧ l[i].length ≤ c1 ∧ Kd.C kB w A1 l[i].length l[i] := by
  have hn := Kd.C_len h
  obtain ⟨ad, c, e, _, hK, hc⟩ := Kd.C_get h [] (i : Int) (by omega) (by omega)
  have hg : l.getD (i : Int).toNat [] = l[i] := by rw [Int.toNat_natCast, List.getD_eq_getElem?_getD, List.getElem?_eq_getElem hi]; rfl
  rw [hg] at hK
  obtain ⟨A1, c1, rfl, h1, h2⟩ := hK
  refine ⟨ad, A1, c1, e, ?_, h1, h2⟩
  have h0 := hc 0 _ rfl
  rw [Int.toNat_natCast] at h0
  have h3 : w.cell? (ad.add (i * 1 + 0)) = some (.slice A1 l[i].length c1) := h0
  rwa [Nat.mul_one, Nat.add_zero] at h3
def nA : ByteArray := ⟨#[97]⟩
def nB : ByteArray := ⟨#[98]⟩
/-- A store with one file, behind so many acts. -/
def oneS (s : ByteArray) (acts : Int) (xs : List Int) : Stt := ⟨-1, acts, [⟨s, xs, 0⟩]⟩
theorem ok_one (s : ByteArray) {acts : Int} {xs : List Int} (h0 : 0 ≤ acts) (h1 : acts < 1000000) (h2 : xs.length ≤ 100000000) : OkS (oneS s acts xs) := ⟨h0, h1, by show (-1 : Int) ≤ -1; omega, by show (-1 : Int) ≤ 9223372036854775807; omega, by show (1 : Nat) < 900000; omega, fun x hx => by
  obtain rfl : x = ⟨s, xs, 0⟩ := by simpa [oneS] using hx
  exact h2⟩
theorem ok_new : OkS ⟨-1, 0, []⟩ := ⟨by show (0 : Int) ≤ 0; omega, by show (0 : Int) < 1000000; omega, by show (-1 : Int) ≤ -1; omega, by show (-1 : Int) ≤ 9223372036854775807; omega, by show (0 : Nat) < 900000; omega, fun x hx => absurd hx List.not_mem_nil⟩
theorem find_one (s : ByteArray) (xs : List Int) (y : Int) : findF [(⟨s, xs, y⟩ : SF)] s.data.toList = some ⟨s, xs, y⟩ := by
  unfold findF nameL
  rw [List.find?_cons]
  simp
theorem cut_one (s : ByteArray) (xs : List Int) (y : Int) : cutF [(⟨s, xs, y⟩ : SF)] s.data.toList = [] := by
  unfold cutF nameL
  simp
theorem set_one (s : ByteArray) (xs zs : List Int) (y z : Int) : setF [(⟨s, xs, y⟩ : SF)] ⟨s, zs, z⟩ = [⟨s, zs, z⟩] := by
  unfold setF
  rw [show nameL ⟨s, zs, z⟩ = s.data.toList from rfl, cut_one]
  rfl
theorem append_new {ys : List Int} (hy : ys.length ≤ 1000000) : appendS ⟨-1, 0, []⟩ nA ys = (0, oneS nA 1 ys) := by
  unfold appendS
  rw [if_neg (by decide), if_neg (by decide), if_neg, if_neg (by decide)]
  · rfl
  · have e : longF ⟨-1, 0, []⟩ nA ys.length = decide (1048576 - (0 : Int) < (ys.length : Int)) := rfl
    rw [e, decide_eq_false (by omega)]
    decide
theorem append_one {k : Int} {xs ys : List Int} (hy : xs.length + ys.length ≤ 1000000) : appendS (oneS nA k xs) nA ys = (0, oneS nA (k + 1) (xs ++ ys)) := by
  have e1 : appendX (oneS nA k xs) nA = ⟨nA, xs, 0⟩ := by unfold appendX oneS; rw [find_one]; rfl
  have e2 : fullF (oneS nA k xs) nA = false := by unfold fullF oneS; rw [find_one]; rfl
  unfold appendS
  rw [if_neg (show ¬ (oneS nA k xs).left = 0 by show ¬ (-1 : Int) = 0; decide), if_neg (by decide), if_neg, if_neg (by rw [e2]; decide), e1]
  · show ((0 : Int), (⟨leftF (-1), k + 1, setF [(⟨nA, xs, 0⟩ : SF)] ⟨nA, xs ++ ys, 0⟩⟩ : Stt)) = _
    rw [set_one]
    rfl
  · unfold longF
    rw [e1, decide_eq_false (by dsimp only; omega)]
    decide
theorem trunc_one {k : Int} {xs : List Int} {n : Nat} (hn : n ≤ xs.length) : truncS (oneS nA k xs) nA (n : Int) = (0, oneS nA (k + 1) (xs.take n)) := by
  unfold truncS onF
  rw [if_neg (show ¬ (oneS nA k xs).left = 0 by show ¬ (-1 : Int) = 0; decide)]
  show (match findF [(⟨nA, xs, 0⟩ : SF)] nA.data.toList with | none => ((31 : Int), oneS nA k xs) | some x => if (n : Int) < 0 ∨ (x.f1.length : Int) < (n : Int) then (2, ⟨-1, k, withL [(⟨nA, xs, 0⟩ : SF)] nA x⟩) else (0, ⟨leftF (-1), k + 1, withL [(⟨nA, xs, 0⟩ : SF)] nA ⟨x.f0, x.f1.take (n : Int).toNat, minI x.f2 (n : Int)⟩⟩)) = _
  rw [find_one]
  dsimp only
  rw [if_neg (by omega), Int.toNat_natCast]
  unfold withL
  rw [find_one, if_pos (by rfl), set_one]
  have e : minI 0 (n : Int) = 0 := by unfold minI; rw [if_neg (by omega)]
  rw [e]
  rfl
theorem rename_one {k : Int} {xs : List Int} : renameS (oneS nA k xs) nA nB = (0, oneS nB (k + 1) xs) := by
  unfold renameS onF
  rw [if_neg (show ¬ (oneS nA k xs).left = 0 by show ¬ (-1 : Int) = 0; decide)]
  show (match findF [(⟨nA, xs, 0⟩ : SF)] nA.data.toList with | none => ((31 : Int), oneS nA k xs) | some x => if mayF nB = true then (0, ⟨leftF (-1), k + 1, withL (setF (cutF [(⟨nA, xs, 0⟩ : SF)] nA.data.toList) ⟨nB, x.f1, x.f2⟩) nA x⟩) else (2, ⟨-1, k, withL [(⟨nA, xs, 0⟩ : SF)] nA x⟩)) = _
  rw [find_one]
  dsimp only
  rw [if_pos (by decide), cut_one]
  have e : setF [] (⟨nB, xs, 0⟩ : SF) = [⟨nB, xs, 0⟩] := rfl
  have e2 : findF [(⟨nB, xs, 0⟩ : SF)] nA.data.toList = none := rfl
  rw [e]
  unfold withL
  rw [e2]
  rfl
theorem told_one (s : ByteArray) (k : Int) (xs : List Int) : toldE (oneS s k xs) s = 0 ∧ toldX (oneS s k xs) s = ⟨s, xs, 0⟩ := by
  unfold toldE toldX oneS
  rw [if_neg (by show ¬ (-1 : Int) = 0; decide), if_neg (by show ¬ (-1 : Int) = 0; decide), find_one]
  exact ⟨rfl, rfl⟩
theorem told_gone (k : Int) (xs : List Int) : toldE (oneS nB k xs) nA = 31 := rfl
theorem rise_one (s : ByteArray) (xs : List Int) (y : Int) : Rise [(⟨s, xs, y⟩ : SF)] := List.pairwise_singleton _ _
theorem wrap_mod (a : Int) (m : Nat) (h1 : 0 < m) (h2 : m ≤ 1000000) : ∃ j : Nat, j < m ∧ wrap64 ((IntKind.u64.wrap a).tmod (IntKind.u64.wrap (m : Int))) = (j : Int) := by
  obtain ⟨g1, g2⟩ := wrap_within .u64 a
  have g1' : 0 ≤ IntKind.u64.wrap a := g1
  have e : IntKind.u64.wrap (m : Int) = (m : Int) := by rw [IntKind.wrap_u64]; omega
  rw [e, Int.tmod_eq_emod_of_nonneg g1']
  generalize IntKind.u64.wrap a = b at *
  have m0 := Int.emod_nonneg b (show (m : Int) ≠ 0 by omega)
  have m1 := Int.emod_lt_of_pos b (show (0 : Int) < m by omega)
  refine ⟨(b % m).toNat, by omega, ?_⟩
  unfold wrap64
  omega
end Go.Proofs.Ytibnakpefjjoiaa.Fs
