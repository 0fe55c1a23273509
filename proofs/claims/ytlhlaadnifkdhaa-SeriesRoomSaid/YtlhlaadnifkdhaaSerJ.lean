/- Labels that are written out, as rows of one's own; what SeriesRoom comes to, in plain words. No law is proved here. -/
import Derived.Test.YtlhlaadnifkdhaaSerI
namespace Go.Proofs.Ytlhlaadnifkdhaa.Sr
open Go.RowKit Go.Proofs.YtlhlaadnifkdhaaW.PrintWords Go.Proofs.YtlhlaadnifkdhaaW.PrintLast Go.Proofs.YtlhlaadnifkdhaaW.PrintMore Go.Proofs.Ytlhlaadnifkdhaa.Q Go.Proofs.Ytlhlaadnifkdhaa.Own Go.Proofs.Ytlhlaadnifkdhaa.Nmd
set_option linter.unusedVariables false
set_option linter.unusedSimpArgs false

def cellsL (x : LB) : List Value := [.string x.f0, .string x.f1]
theorem reps_L (w : World) (base : Nat) (ok : Nat → Prop) (l : List LB) : Reps (kL.M w base ok) 2 l (l.flatMap cellsL) := by
  have h : ∀ (n : Nat) (l : List LB), l.length = n → Reps (kL.M w base ok) 2 l (l.flatMap cellsL) := by
    intro n
    induction n with
    | zero =>
      intro l hl
      rw [List.length_eq_zero_iff.1 hl]
      exact Reps.none _ _
    | succ n ih =>
      intro l hl
      have hne : l ≠ [] := by rintro rfl; simp at hl
      have he := List.dropLast_concat_getLast hne
      rw [← he, List.flatMap_append]
      have e1 : [l.getLast hne].flatMap cellsL = cellsL (l.getLast hne) := by simp
      rw [e1]
      exact Reps.snoc (ih _ (by rw [List.length_dropLast]; omega)) (k31_mkM w base ok _) rfl
  exact h _ l rfl
/-- A row of labels that is written out. -/
theorem lit_L {B : Nat} {w : World} {Ts : List Th} (h : Has B w Ts) (l : List LB) (hl : l.length ≤ 9223372036854775807) : Has B (w.alloc (.cells (l.flatMap cellsL).toArray 31)) (rowL (.slice (some ⟨w.heap.size, 0, none⟩) l.length l.length) l :: Ts) :=
  h.row ((Below.refl _ w).alloc (Nat.le_refl _) _) ⟨fun _ _ => trivial, OwnRow.lit (ps := l) w w.heap.size (inner := l.flatMap cellsL) (reps_L _ _ _ l) (Nat.le_refl _) hl⟩
theorem lit_readL {B : Nat} {w : World} {Ts : List Th} {A : Option Addr} {n c : Nat} {l : List LB} (h : Has B w Ts) (hm : rowL (.slice A n c) l ∈ Ts) : Kd.C kL w A l.length l := (row_reads h hm).2.2
theorem add_below {B : Nat} {w : World} {Ts : List Th} (h : Has B w Ts) {w' : World} (hb : Below w.heap.size w w') : Below B w w' := hb.mono h.size
/-! SeriesRoom -/
def labR (k : Nat) : List LB := [⟨⟨#[110]⟩, ⟨#[UInt8.ofNat (97 + k)]⟩⟩]
def roomX (old k : Nat) : SM := ⟨if k = old then 5 else 10, 0⟩
def roomV (old : Nat) : Nat → List PV
  | 0 => []
  | k + 1 => (addV (roomV old k) (labR k) (roomX old k)).2
theorem room_ok : ∀ old < 8, ∀ k < 8, (addV (roomV old k) (labR k) (roomX old k)).1 = 0 := by decide +kernel
def roomA (old : Nat) : List PV := (addV (roomV old 8) (labR 25) ⟨10, 0⟩).2
def roomB (old : Nat) : List PV := expV (roomA old) 5
def roomC (old : Nat) : List PV := (addV (roomB old) (labR 25) ⟨10, 0⟩).2
def roomD (old : Nat) : List PV := (addV (roomC old) (labR 24) ⟨10, 0⟩).2
theorem room_end : ∀ old < 8, (addV (roomV old 8) (labR 25) ⟨10, 0⟩).1 = 170 ∧ expVN (roomA old) 5 = 1 ∧ (addV (roomB old) (labR 25) ⟨10, 0⟩).1 = 0 ∧ (addV (roomC old) (labR 24) ⟨10, 0⟩).1 = 170 ∧ (roomD old).length = 8 := by decide +kernel
theorem str_lab (k : Nat) (h : k < 8) : strOfNums [97 + (k : Int)] = (⟨#[UInt8.ofNat (97 + k)]⟩ : ByteArray) := by
  have h1 : (97 + (k : Int)).toNat = 97 + k := by omega
  refine ByteArray.ext (Array.ext' ?_)
  simp [strOfNums, h1]
end Go.Proofs.Ytlhlaadnifkdhaa.Sr
