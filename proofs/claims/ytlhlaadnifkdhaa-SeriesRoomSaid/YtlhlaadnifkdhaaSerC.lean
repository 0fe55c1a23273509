/- labels.May, labels.Print over rows that came in; the entries as things. No law is proved here. -/
import Derived.Test.YtlhlaadnifkdhaaSerB
import Derived.Test.YtlhlaadnifkdhaaLabP
namespace Go.Proofs.Ytlhlaadnifkdhaa.Sr
open Go.RowKit Go.Proofs.YtlhlaadnifkdhaaW.PrintWords Go.Proofs.YtlhlaadnifkdhaaW.PrintLast Go.Proofs.YtlhlaadnifkdhaaW.PrintMore Go.Proofs.Ytlhlaadnifkdhaa.Q Go.Proofs.Ytlhlaadnifkdhaa.Own Go.Proofs.Ytlhlaadnifkdhaa.Nmd
set_option linter.unusedVariables false
set_option linter.unusedSimpArgs false

theorem may_c {w : World} {A : Option Addr} {c : Nat} {l : List LB} (hC : Kd.C kL w A l.length l) (hc : l.length ≤ c) (hl : l.length ≤ 9223372036854775807) :
    Calls Try.prog 27 #[.slice A l.length c] w fun e w' => e = .returned (.bool (Pure.mayB l)) ∧ Below w.heap.size w w' := by
  obtain ⟨k, hk⟩ := (Pure.may l hl).rounds
  refine (labels_May.calls k A c l _ w hC hc hk).mono ?_
  rintro e w' ⟨rfl, hb⟩
  exact ⟨rfl, hb⟩
/-- The text of labels: their name in a store. -/
def textL (l : List LB) : ByteArray := Pure.str (Pure.printL l)
theorem print_c {w : World} {A : Option Addr} {c : Nat} {l : List LB} (hC : Kd.C kL w A l.length l) (hc : l.length ≤ c) (hm : Pure.mayB l = true) :
    Calls Try.prog 23 #[.slice A l.length c] w fun e w' => e = .returned (.string (textL l)) ∧ Below w.heap.size w w' := by
  obtain ⟨k, hk⟩ := (Pure.print l (Pure.good_small hm)).rounds
  refine (labels_Print.calls k A c l _ w hC hc hk).mono ?_
  rintro e w' ⟨rfl, hb⟩
  exact ⟨rfl, hb⟩
theorem text_size {l : List LB} (hm : Pure.mayB l = true) : (textL l).size ≤ 1500410 := by
  unfold textL
  rw [Pure.size_str]
  exact Pure.printL_len (Pure.good_small hm)
/-- A series: its entry, its labels, its samples. -/
structure SS where
  e : SE
  ls : List LB
  xs : List SM
/-- The things of series. -/
def tm (L : List SS) : List Th := L.flatMap fun s => [ringT s.e.b s.xs, rowL (.slice s.e.hd.1 s.e.hd.2.1 s.e.hd.2.2) s.ls]
theorem tm_app (L M : List SS) : tm (L ++ M) = tm L ++ tm M := List.flatMap_append
theorem tm_cons (s : SS) (L : List SS) : tm (s :: L) = ringT s.e.b s.xs :: rowL (.slice s.e.hd.1 s.e.hd.2.1 s.e.hd.2.2) s.ls :: tm L := rfl
/-- Series are as they ought to be: by rising texts, each under its text. -/
structure SerOk (L : List SS) : Prop where
  may : ∀ s ∈ L, Pure.mayB s.ls = true
  name : ∀ s ∈ L, s.e.name = textL s.ls
  le : L.length ≤ 8
  full : ∀ s ∈ L, s.xs.length ≤ 32
end Go.Proofs.Ytlhlaadnifkdhaa.Sr
