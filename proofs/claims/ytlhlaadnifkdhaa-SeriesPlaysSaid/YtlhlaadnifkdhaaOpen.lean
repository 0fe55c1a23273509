/- How the arguments of a law, read as data, are opened into plain Lean lists of structs; no law is proved here. -/
import Derived.Deep.Slices
import Derived.DataReads
import Derived.ChangeArms
import Derived.ChangeShapes
import Derived.WalkKit
import Derived.ProofKit
import Derived.SizedLaws
import Derived.StillTailTactics
import Derived.Test.YtlhlaadnifkdhaaWWords
namespace Go.Proofs.Ytlhlaadnifkdhaa.Opn
open Go.RowKit Go.Proofs.YtlhlaadnifkdhaaW.PrintWords

/-- Whatever reads as data at type T is a value of kind d, and meets 'good'. -/
def Opens (P : Program) (T : TypeId) {α : Type} (d : Kd α) (good : α → Prop) : Prop :=
  ∀ (H : Type) (enc : TypeId × Value → H) (w : World) (fuel : Nat) (cs : List Value) (x : DataW H × List MemPlace),
    DataW.trod enc P w 0 (fun _ => true) true fuel T cs = some x → ∃ y : α, d.K w y cs ∧ good y

theorem Opens.int {P : Program} {T : TypeId} {k : IntKind} (ht : P.underlying T = some (.int k)) : Opens P T (Kd.int k) (fun n => (Lit.int k n).wf = true) := by
  intro H enc w fuel cs x h
  obtain ⟨n, rfl, _, hw⟩ := DataW.trod_int ht h
  exact ⟨n, rfl, hw⟩

theorem Opens.bool {P : Program} {T : TypeId} (ht : P.underlying T = some .bool) : Opens P T Kd.bool (fun _ => True) := by
  intro H enc w fuel cs x h
  obtain ⟨n, rfl, _⟩ := DataW.trod_bool ht h
  exact ⟨n, rfl, trivial⟩

theorem Opens.string {P : Program} {T : TypeId} (ht : P.underlying T = some .string) : Opens P T Kd.string (fun s => s.size ≤ 9223372036854775807) := by
  intro H enc w fuel cs x h
  obtain ⟨n, rfl, _, hs⟩ := DataW.trod_string ht h
  exact ⟨n, rfl, hs⟩

theorem Opens.slice {P : Program} {T e : TypeId} {α : Type} {d : Kd α} {good : α → Prop} (ht : P.underlying T = some (.slice e)) (hc : P.cellsOf e = d.sz) (ho : Opens P e d good) :
    Opens P T (Kd.slice e d) (fun l => l.length ≤ 9223372036854775807 ∧ ∀ y ∈ l, good y) := by
  intro H enc w fuel cs x h
  rcases Go.Deep.open_slice ht h with ⟨rfl, _⟩ | ⟨a, len, cap, m, n, D, Pl, rfl, _, hl, hm, hmm, hxe, hx⟩
  · exact ⟨[], ⟨none, 0, rfl, Nat.le_refl _, Kd.C_nil d w⟩, by simp, by simp⟩
  · simp only [if_true] at hmm
    subst hmm
    clear hxe h
    have key : ∀ i, i < len → ∃ y : α, (∃ c, w.cells? 0 (a.add (i * P.cellsOf e)) (P.cellsOf e) = some c ∧ d.K w y c) ∧ good y := by
      intro i hi
      obtain ⟨c, h1, h2⟩ := hx i (by omega)
      obtain ⟨y, hy, hg⟩ := ho H enc w n c _ h2
      exact ⟨y, ⟨c, h1, hy⟩, hg⟩
    clear hx
    have hmx : len ≤ 9223372036854775807 := by unfold maxLen at hm; omega
    obtain ⟨l, hll, hlk⟩ : ∃ l : List α, l.length = len ∧ ∀ i y, l[i]? = some y → (∃ c, w.cells? 0 (a.add (i * P.cellsOf e)) (P.cellsOf e) = some c ∧ d.K w y c) ∧ good y := by
      clear hl hm hmx
      induction len with
      | zero => exact ⟨[], rfl, by simp⟩
      | succ len ih =>
        obtain ⟨l, h1, h2⟩ := ih (fun i hi => key i (by omega))
        obtain ⟨y, hy⟩ := key len (by omega)
        refine ⟨l ++ [y], by simp [h1], fun i z hz => ?_⟩
        rcases Nat.lt_or_ge i l.length with hi | hi
        · rw [List.getElem?_append_left hi] at hz
          exact h2 i z hz
        · have : i = l.length := by
            have := (List.getElem?_eq_some_iff.1 hz).1
            rw [List.length_append, List.length_singleton] at this
            omega
          subst this
          have hz' : y = z := by simpa using hz
          subst hz'
          rw [h1]
          exact hy
    subst hll
    refine ⟨l, ⟨some a, m, rfl, hl, rfl, hmx, fun _ => ⟨a, rfl, fun j p hj => ?_⟩⟩, hmx, fun y hy => ?_⟩
    · obtain ⟨⟨c, h1, h2⟩, _⟩ := hlk j p hj
      refine ⟨c, d.K_len h2, h2, fun i u hu => ?_⟩
      obtain ⟨_, hb, hb2⟩ := World.cells?_some h1
      rw [hc] at hb hb2
      have hi : i < d.sz := by have := (List.getElem?_eq_some_iff.1 hu).1; rw [d.K_len h2] at this; exact this
      have h3 := hb2 i hi
      rw [Go.Deep.add_add] at h3
      rw [h3]
      exact hu
    · obtain ⟨i, hi⟩ := List.getElem?_of_mem hy
      exact (hlk i y hi).2

/-- The fields from the one at offset o on. -/
def OpensF (P : Program) (fs : List Field) (o : Nat) {α : Type} (d : Kd α) (good : α → Prop) : Prop :=
  ∀ (H : Type) (enc : TypeId × Value → H) (w : World) (fuel : Nat) (cs : List Value), cs.length = o + d.sz →
    (∀ f ∈ fs, ∃ x, DataW.trod enc P w 0 (fun _ => true) true fuel f.type ((cs.drop f.offset).take (P.cellsOf f.type)) = some x) → ∃ y : α, d.K w y (cs.drop o) ∧ good y

theorem OpensF.one {P : Program} {f : Field} {α : Type} {d : Kd α} {good : α → Prop} (hc : P.cellsOf f.type = d.sz) (ho : Opens P f.type d good) : OpensF P [f] f.offset d good := by
  intro H enc w fuel cs hl hf
  obtain ⟨x, hx⟩ := hf f (by simp)
  rw [hc, List.take_of_length_le (by rw [List.length_drop]; omega)] at hx
  exact ho H enc w fuel _ x hx

theorem OpensF.cons {P : Program} {f : Field} {fs : List Field} {o : Nat} {α β : Type} {d : Kd α} {d' : Kd β} {good : α → Prop} {good' : β → Prop} (hc : P.cellsOf f.type = d.sz) (hof : f.offset + d.sz = o) (ho : Opens P f.type d good) (hr : OpensF P fs o d' good') :
    OpensF P (f :: fs) f.offset (Kd.pair d d') (fun x => good x.1 ∧ good' x.2) := by
  intro H enc w fuel cs hl hf
  have hl' : cs.length = f.offset + (d.sz + d'.sz) := hl
  obtain ⟨x, hx⟩ := hf f (by simp)
  obtain ⟨y, hy, hg⟩ := ho H enc w fuel _ x hx
  obtain ⟨z, hz, hg'⟩ := hr H enc w fuel cs (by omega) (fun g hgm => hf g (by simp [hgm]))
  refine ⟨(y, z), ⟨_, _, ?_, hy, hz⟩, hg, hg'⟩
  rw [hc, ← hof, ← List.drop_drop]
  exact (List.take_append_drop _ _).symm

theorem Opens.struct {P : Program} {T : TypeId} {fs : Array Field} {α β : Type} {d : Kd α} {good : α → Prop} (f : β → α) (g : α → β) (hfg : ∀ x, f (g x) = x) (ht : P.underlying T = some (.struct fs)) (hc : P.cellsOf T = d.sz) (ho : OpensF P fs.toList 0 d good) :
    Opens P T (Kd.iso d f) (fun y => good (f y)) := by
  intro H enc w fuel cs x h
  obtain ⟨xs, n, rfl, _, hl, hxl, hx⟩ := DataW.trod_struct ht h
  obtain ⟨y, hy, hg⟩ := ho H enc w n cs (by rw [hl, hc]; omega) (fun fl hfl => by
    obtain ⟨i, hi⟩ := List.getElem?_of_mem hfl
    have h1 : fs[i]? = some fl := by simpa using hi
    have h2 := hx i fl h1
    have h3 : i < xs.length := by rw [hxl]; exact (Array.getElem?_eq_some_iff.1 h1).1
    exact ⟨xs[i], by rw [h2, List.getElem?_eq_getElem h3]⟩)
  refine ⟨g y, ?_, by show good (f (g y)); rw [hfg]; exact hg⟩
  show d.K w (f (g y)) cs
  rw [hfg]
  simpa using hy

/-- A slice that came in: its list, what is known of it. -/
theorem Opens.slice_arg {P : Program} {T e : TypeId} {α : Type} {d : Kd α} {good : α → Prop} (ht : P.underlying T = some (.slice e)) (hc : P.cellsOf e = d.sz) (ho : Opens P e d good) {H : Type} {enc : TypeId × Value → H} {w : World} {a : Option Addr} {len cap : Nat} {D : DataW H} {p : List MemPlace}
    (h : DataW.Trod enc P w 0 (fun _ => true) true T (.slice a len cap) D p) :
    ∃ l : List α, len = l.length ∧ l.length ≤ cap ∧ d.C w a l.length l ∧ l.length ≤ 9223372036854775807 ∧ ∀ y ∈ l, good y := by
  obtain ⟨fuel, hf⟩ := h
  obtain ⟨l, ⟨A, c, he, hl, hC⟩, h1, h2⟩ := Opens.slice ht hc ho H enc w fuel _ _ hf
  simp only [Value.cells, List.cons.injEq, and_true] at he
  injection he with e1 e2 e3
  subst e1; subst e2; subst e3
  exact ⟨l, rfl, hl, hC, h1, h2⟩

/-- How long a slice that came in is, in bytes. -/
theorem sized_any {P : Program} {ts : List TypeId} {H : Type} {ds : List (DataW H)} (hsz : (DataW.weightsEach P ts ds).all (· ≤ reachBytes) = true) {j : Nat} {t e : TypeId} (ht : ts[j]? = some t) {D : DataW H} (hd : ds[j]? = some D) (hu : P.underlying t = some (.slice e)) {enc : TypeId × Value → H} {w : World} {a : Option Addr} {len cap : Nat} {p : List MemPlace}
    (h : DataW.Trod enc P w 0 (fun _ => true) true t (.slice a len cap) D p) : len * P.bytesOf e ≤ 140737488351232 := by
  obtain ⟨fuel, hf⟩ := h
  rcases Go.Deep.open_slice hu hf with ⟨he, _⟩ | ⟨a', len', cap', m, n, D', Pl, he, _, hl, hm, hmm, hx, _⟩
  · simp only [Value.cells, List.cons.injEq, and_true] at he
    injection he with e1 e2 e3
    subst e2
    simp
  · simp only [Value.cells, List.cons.injEq, and_true] at he
    injection he with e1 e2 e3
    subst e2
    injection hx with hx1 hx2
    have := sized_slice hsz ht (hd.trans (by rw [hx1])) hu
    simp only [List.length_map, List.length_range] at this
    have h2 : len * P.bytesOf e ≤ (len + (m - len)) * P.bytesOf e := Nat.mul_le_mul_right _ (by omega)
    exact Nat.le_trans h2 this
/-! Strings held against each other, as the print spells it. -/
theorem bl_leq : ∀ x y : List UInt8, (Op.bytesLess x y || x == y) = !Op.bytesLess y x
  | [], [] => by simp [Op.bytesLess]
  | [], b :: y => by simp [Op.bytesLess]
  | a :: x, [] => by simp [Op.bytesLess]
  | a :: x, b :: y => by
    have ih := bl_leq x y
    rcases Nat.lt_trichotomy a.toNat b.toNat with h | h | h
    · have h1 : a < b := h
      have h2 : ¬ b < a := by simp only [UInt8.lt_iff_toNat_lt]; omega
      have h3 : (b == a) = false := by rw [beq_eq_false_iff_ne]; intro e; subst e; exact h2 h1
      simp [Op.bytesLess, h1, h2, h3]
    · obtain rfl : a = b := UInt8.toNat_inj.1 h
      simp [Op.bytesLess, ih]
    · have h1 : b < a := h
      have h2 : ¬ a < b := by simp only [UInt8.lt_iff_toNat_lt]; omega
      have h3 : (a == b) = false := by rw [beq_eq_false_iff_ne]; intro e; subst e; exact h2 h1
      simp [Op.bytesLess, h1, h2, h3]
theorem bne_nil {α : Type} [BEq α] (l : List α) : (l != []) = !l.isEmpty := by cases l <;> rfl
theorem beq_nil {α : Type} [BEq α] (l : List α) : (l == []) = l.isEmpty := by cases l <;> rfl
theorem str_leq (t : TypeId) (a b : ByteArray) : binOp .leq t (.string a) (.string b) = pure (.bool (!Op.bytesLess b.toList a.toList)) := by
  rw [← bl_leq]
  simp [binOp, Op.stringOp]
theorem str_gtr (t : TypeId) (a b : ByteArray) : binOp .gtr t (.string a) (.string b) = pure (.bool (Op.bytesLess b.toList a.toList)) := by
  have h := bl_leq a.toList b.toList
  simp only [binOp, Op.stringOp]
  rw [h, Bool.not_not]
theorem str_geq (t : TypeId) (a b : ByteArray) : binOp .geq t (.string a) (.string b) = pure (.bool (!Op.bytesLess a.toList b.toList)) := by
  simp [binOp, Op.stringOp]
end Go.Proofs.Ytlhlaadnifkdhaa.Opn
