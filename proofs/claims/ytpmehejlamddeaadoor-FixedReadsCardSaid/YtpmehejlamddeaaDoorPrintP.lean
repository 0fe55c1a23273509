/- What Print writes of a number, as a list of bytes. -/
import Derived.Test.YtpmehejlamddeaaDoorNumP
import Derived.Lib.Strings
namespace Go.Proofs.YtpmehejlamddeaaDoor.Pure
open Go.RowKit Go.Proofs.YtpmehejlamddeaaDoorW.PrintWords Go.Proofs.YtpmehejlamddeaaDoorW.PrintLast Go.Proofs.YtpmehejlamddeaaDoorW.PrintMore Go.Proofs.YtpmehejlamddeaaDoor.Q
set_option linter.unusedVariables false
set_option linter.unusedSimpArgs false

def str (l : List UInt8) : ByteArray := ⟨l.toArray⟩
abbrev B (s : ByteArray) : List UInt8 := s.data.toList
theorem B_str (l : List UInt8) : B (str l) = l := rfl
theorem str_B (s : ByteArray) : str (B s) = s := Lib.mk_data s
theorem size_str (l : List UInt8) : (str l).size = l.length := by rw [← data_length]; rfl
theorem str_app (l m : List UInt8) : str l ++ str m = str (l ++ m) := by
  rw [← str_B (str l ++ str m)]
  unfold B
  rw [ByteArray.data_append, Array.toList_append]
  rfl
/-- A number's text: a sign, the whole part, what stands behind the point. -/
def absL (n : Nat) : List UInt8 := decS 20 (n / 1000) ++ (if n % 1000 = 0 then [] else 46 :: partL (n % 1000))
def printL (y : Int) : List UInt8 := (if y < 0 then [45] else []) ++ absL y.natAbs
theorem decS_length : ∀ (f u : Nat), (decS f u).length ≤ f
  | 0, _ => Nat.le_refl _
  | f + 1, u => by
    rw [decS]
    have := decS_length f (u / 10)
    split
    · simp
    · rw [List.length_append]; simp; omega
theorem itoa_nat (n : Nat) : itoaS (n : Int) = decS 20 n := by
  unfold itoaS
  rw [if_neg (by omega), Int.toNat_natCast]
theorem format_f (n : Nat) (h : n ≤ 9223372036854775807) : strconv_FormatInt.f (n : Int) 10 = some (str (decS 20 n)) := by
  unfold strconv_FormatInt.f
  rw [if_pos ⟨by omega, by omega, rfl⟩, itoa_nat]
  rfl
theorem drop_one (l : List UInt8) : (str l).extract 1 (str l).size = str (l.drop 1) := by
  rw [Lib.extract_eq]
  show str ((l.drop 1).take ((str l).size - 1)) = _
  rw [List.take_of_length_le (by rw [List.length_drop, size_str]; omega)]
theorem trim_length (l : List UInt8) (c : UInt8) : (Lib.trimRightB l c).length ≤ l.length := by
  unfold Lib.trimRightB
  rw [List.length_reverse]
  exact Nat.le_trans (List.dropWhile_sublist _).length_le (by rw [List.length_reverse]; exact Nat.le_refl _)
theorem print_j0 (n : Nat) (hn : n ≤ 4611686018427387903) (sign : List UInt8) (hs : sign.length ≤ 1) : Ev (fun k => fixed_Print.j0 k (n : Int) (str sign)) (str (sign ++ absL n)) := by
  have e1 : wrap64 (Int.tdiv (n : Int) 1000) = ((n / 1000 : Nat) : Int) := by
    rw [Int.tdiv_eq_ediv_of_nonneg (by omega), w64 (by omega) (by omega)]
    omega
  have e2 : Int.tmod (n : Int) 1000 = ((n % 1000 : Nat) : Int) := by
    rw [Int.tmod_eq_emod_of_nonneg (by omega)]
    omega
  have l1 := decS_length 20 (n / 1000)
  refine Ev.step (fun k => by rw [fixed_Print.j0, e1, e2, format_f _ (by omega), Option.bind_some, if_pos (by rw [size_str, size_str]; omega)]) ?_
  unfold absL
  by_cases hz : n % 1000 = 0
  · rw [if_pos hz, List.append_nil]
    refine ev_neg (by omega) (ev_some ?_)
    rw [str_app]
  · rw [if_neg hz]
    refine ev_pos (by omega) ?_
    have e3 : wrap64 (1000 + ((n % 1000 : Nat) : Int)) = ((1000 + n % 1000 : Nat) : Int) := by
      rw [w64 (by omega) (by omega)]
      omega
    have l2 := decS_length 20 (1000 + n % 1000)
    rw [e3, format_f _ (by omega)]
    refine ev_bsome ?_
    have hlen : 1 ≤ ((str (decS 20 (1000 + n % 1000))).size : Int) := by
      have := (decS_facts 20 (1000 + n % 1000) (by omega) (by omega)).2.1
      rw [size_str]
      have h0 : 0 < (decS 20 (1000 + n % 1000)).length := List.length_pos_iff.2 this
      omega
    refine ev_pos hlen ?_
    rw [drop_one]
    have htr : strings_TrimRight.f (str ((decS 20 (1000 + n % 1000)).drop 1)) ⟨#[48]⟩ = some (str (partL (n % 1000))) := by
      unfold strings_TrimRight.f
      rw [if_pos ⟨by rw [size_str, List.length_drop]; omega, rfl⟩]
      unfold partL
      rw [itoa_nat]
      rfl
    have l3 : (partL (n % 1000)).length ≤ 20 := by
      unfold partL
      rw [itoa_nat]
      refine Nat.le_trans (trim_length _ _) ?_
      rw [List.length_drop]
      omega
    rw [htr]
    refine ev_bsome (ev_pos (by rw [size_str]; omega) ?_)
    rw [show (⟨#[46]⟩ : ByteArray) = str [46] from rfl, str_app, str_app, size_str, size_str]
    refine ev_pos (by rw [List.length_append, List.length_append]; simp; omega) (ev_some ?_)
    rw [str_app, List.append_assoc]
    rfl
theorem print_ev (x : Int) : Ev (fun k => fixed_Print.f k x) (str (printL (sat x))) := by
  obtain ⟨h0, h1⟩ := sat_range x
  unfold fixed_Print.f printL
  rw [sat_f]
  refine ev_bsome ?_
  by_cases h : sat x < 0
  · rw [if_pos h]
    refine ev_pos h ?_
    have e : wrap64 (-(sat x)) = (((sat x).natAbs : Nat) : Int) := by rw [w64 (by omega) (by omega)]; omega
    rw [e]
    exact print_j0 (sat x).natAbs (by omega) [45] (by simp)
  · rw [if_neg h]
    refine ev_neg h ?_
    have e : sat x = (((sat x).natAbs : Nat) : Int) := by omega
    have := print_j0 (sat x).natAbs (by omega) [] (by simp)
    rw [← e] at this
    exact this
end Go.Proofs.YtpmehejlamddeaaDoor.Pure
