/- What is added to a store of series, in plain words. No law is proved here. -/
import Derived.Test.YtlhlaadnifkdhaaSerC
namespace Go.Proofs.Ytlhlaadnifkdhaa.Sr
open Go.RowKit Go.Proofs.YtlhlaadnifkdhaaW.PrintWords Go.Proofs.YtlhlaadnifkdhaaW.PrintLast Go.Proofs.YtlhlaadnifkdhaaW.PrintMore Go.Proofs.Ytlhlaadnifkdhaa.Q Go.Proofs.Ytlhlaadnifkdhaa.Own Go.Proofs.Ytlhlaadnifkdhaa.Nmd
set_option linter.unusedVariables false
set_option linter.unusedSimpArgs false

def keyS' (s : SS) : List UInt8 := keyE s.e
theorem ins_map (s : SS) : ∀ L : List SS, (insF keyS' L s).map (fun s => s.e) = insF keyE (L.map fun s => s.e) s.e
  | [] => rfl
  | y :: L => by
    rw [List.map_cons]
    unfold insF
    by_cases h : keyE s.e < keyE y.e
    · rw [if_pos h, if_pos (show keyS' s < keyS' y from h)]
      rfl
    · rw [if_neg h, if_neg (show ¬ keyS' s < keyS' y from h), List.map_cons, ins_map s L]
theorem cut_map (n : List UInt8) : ∀ L : List SS, (cutF keyS' L n).map (fun s => s.e) = cutF keyE (L.map fun s => s.e) n
  | [] => rfl
  | y :: L => by
    rw [List.map_cons]
    have ih := cut_map n L
    unfold cutF at ih ⊢
    rw [List.filter_cons, List.filter_cons]
    by_cases h : (keyE y.e != n) = true
    · rw [if_pos h, if_pos (show (keyS' y != n) = true from h), List.map_cons, ih]
    · rw [if_neg h, if_neg (show ¬ (keyS' y != n) = true from h), ih]
theorem set_map (s : SS) (L : List SS) : (setF keyS' L s).map (fun s => s.e) = setF keyE (L.map fun s => s.e) s.e := by
  unfold setF
  rw [ins_map, cut_map]
  rfl
theorem find_map (n : List UInt8) : ∀ L : List SS, findF keyE (L.map fun s => s.e) n = (findF keyS' L n).map fun s => s.e
  | [] => rfl
  | y :: L => by
    rw [List.map_cons]
    have ih := find_map n L
    unfold findF at ih ⊢
    rw [List.find?_cons, List.find?_cons]
    show (match keyE y.e == n with | true => some y.e | false => _) = Option.map _ (match keyS' y == n with | true => some y | false => _)
    cases h : (keyE y.e == n) with
    | true => rw [show (keyS' y == n) = true from h]; rfl
    | false => rw [show (keyS' y == n) = false from h]; exact ih
theorem rise_map {L : List SS} : Rise keyE (L.map fun s => s.e) ↔ Rise keyS' L := by
  unfold Rise
  rw [List.pairwise_map]
  rfl
/-- The series of a text, as it is behind a push. -/
def pushedS (L : List SS) (n : List UInt8) (x : SM) : List SS := L.map fun s => if keyS' s = n then ⟨s.e, s.ls, pushL s.xs x⟩ else s
theorem pushed_e (L : List SS) (n : List UInt8) (x : SM) : (pushedS L n x).map (fun s => s.e) = L.map fun s => s.e := by
  unfold pushedS
  rw [List.map_map]
  refine List.map_congr_left fun s _ => ?_
  show (if keyS' s = n then (⟨s.e, s.ls, pushL s.xs x⟩ : SS) else s).e = s.e
  split <;> rfl
/-- What Add answers. -/
def addE (L : List SS) (ls : List LB) (x : SM) : Int :=
  if Pure.mayB ls = false then 70 else match findF keyS' L (textL ls).data.toList with
    | some s => pushE s.xs x
    | none => if pushE [] x ≠ 0 then pushE [] x else if 8 ≤ L.length then 170 else 0
end Go.Proofs.Ytlhlaadnifkdhaa.Sr
