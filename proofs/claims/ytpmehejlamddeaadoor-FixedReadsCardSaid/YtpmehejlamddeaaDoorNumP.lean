/- Plain laws of decimal texts: what digits come to, what a number's digits are, what stands behind the point. -/
import Derived.Test.YtpmehejlamddeaaDoorQ3
import Derived.Test.YtpmehejlamddeaaDoorQ4
import Derived.Test.YtpmehejlamddeaaDoorBaseP
namespace Go.Proofs.YtpmehejlamddeaaDoor.Pure
open Go.RowKit Go.Proofs.YtpmehejlamddeaaDoorW.PrintWords Go.Proofs.YtpmehejlamddeaaDoorW.PrintLast Go.Proofs.YtpmehejlamddeaaDoorW.PrintMore Go.Proofs.YtpmehejlamddeaaDoor.Q
set_option linter.unusedVariables false
set_option linter.unusedSimpArgs false

/-- Is a byte a digit? -/
def isD (c : UInt8) : Bool := decide (48 ≤ c.toNat ∧ c.toNat ≤ 57)
def Digits (l : List UInt8) : Prop := ∀ c ∈ l, isD c = true
/-- What digits say, behind a number. -/
def valL (x : Int) (l : List UInt8) : Int := l.foldl (fun x c => 10 * x + ((c.toNat : Int) - 48)) x
theorem isD_iff {c : UInt8} : isD c = true ↔ 48 ≤ c.toNat ∧ c.toNat ≤ 57 := decide_eq_true_iff
theorem dg_eq {c : UInt8} (h : isD c = true) : dg c = (c.toNat : Int) - 48 ∧ 0 ≤ dg c ∧ dg c ≤ 9 := by
  obtain ⟨h0, h1⟩ := isD_iff.1 h
  unfold dg
  omega
theorem valL_ge : ∀ (l : List UInt8) (x : Int), Digits l → 0 ≤ x → x ≤ valL x l
  | [], x, _, _ => Int.le_refl _
  | c :: l, x, h, hx => by
    obtain ⟨h0, h1⟩ := isD_iff.1 (h c List.mem_cons_self)
    have ih := valL_ge l (10 * x + ((c.toNat : Int) - 48)) (fun d hd => h d (List.mem_cons_of_mem _ hd)) (by omega)
    exact Int.le_trans (by omega) ih
theorem valL_append (l m : List UInt8) (x : Int) : valL x (l ++ m) = valL (valL x l) m := by
  unfold valL
  exact List.foldl_append
/-- What is read of digits: what they say, at most the greatest number. -/
theorem digL_val : ∀ (l : List UInt8) (x : Int), Digits l → 0 ≤ x → x ≤ 4611686018427387903 → digL x l = min 4611686018427387903 (valL x l)
  | [], x, _, h0, h1 => by
    show x = min 4611686018427387903 x
    omega
  | c :: l, x, h, h0, h1 => by
    have hc := h c List.mem_cons_self
    have hl : Digits l := fun d hd => h d (List.mem_cons_of_mem _ hd)
    obtain ⟨e, e0, e1⟩ := dg_eq hc
    rw [digL]
    by_cases a : x > (4611686018427387903 - dg c) / 10
    · rw [if_pos a]
      have := valL_ge l (10 * x + ((c.toNat : Int) - 48)) hl (by omega)
      show (4611686018427387903 : Int) = min 4611686018427387903 (valL (10 * x + ((c.toNat : Int) - 48)) l)
      omega
    · rw [if_neg a, w64 (x := 10 * x) (by omega) (by omega), w64 (by omega) (by omega), digL_val l _ hl (by omega) (by omega), e]
      rfl
theorem ofNat_digit {u : Nat} (h : u < 10) : (UInt8.ofNat (48 + u)).toNat = 48 + u := by
  rw [UInt8.toNat_ofNat']
  omega
theorem decS_facts : ∀ (f u : Nat), u < 10 ^ f → 0 < f → Digits (decS f u) ∧ decS f u ≠ [] ∧ valL 0 (decS f u) = u
  | 0, _, _, h => absurd h (by omega)
  | f + 1, u, h, _ => by
    rw [decS]
    by_cases hu : u < 10
    · rw [if_pos hu]
      have hd := ofNat_digit hu
      refine ⟨fun c hc => ?_, by simp, ?_⟩
      · rw [List.mem_singleton] at hc
        subst hc
        exact isD_iff.2 (by omega)
      · show 10 * (0 : Int) + (((UInt8.ofNat (48 + u)).toNat : Int) - 48) = u
        omega
    · rw [if_neg hu]
      have h2 : u / 10 < 10 ^ f := by rw [Nat.pow_succ] at h; omega
      obtain ⟨i1, i2, i3⟩ := decS_facts f (u / 10) h2 (by cases f with | zero => simp at h2; omega | succ f => omega)
      have hd := ofNat_digit (Nat.mod_lt u (show 0 < 10 by omega))
      refine ⟨fun c hc => ?_, by simp, ?_⟩
      · rcases List.mem_append.1 hc with hc | hc
        · exact i1 c hc
        · rw [List.mem_singleton] at hc
          subst hc
          exact isD_iff.2 (by omega)
      · rw [valL_append, i3]
        show 10 * ((u / 10 : Nat) : Int) + (((UInt8.ofNat (48 + u % 10)).toNat : Int) - 48) = u
        omega
/-- What stands behind the point of a number with so many thousandths: one to three digits that say just these. -/
def partL (p : Nat) : List UInt8 := Lib.trimRightB ((itoaS (1000 + p : Nat)).drop 1) 48
theorem part_all : ∀ p : Fin 1000, 0 < p.1 → ((partL p.1).all isD && decide (0 < (partL p.1).length ∧ (partL p.1).length ≤ 3) && decide (valL 0 (partL p.1 ++ List.replicate (3 - (partL p.1).length) 48) = p.1) && decide ((partL p.1).getLast? ≠ some 48)) = true := by decide +kernel
end Go.Proofs.YtpmehejlamddeaaDoor.Pure
