/- Things that live in blocks of memory, apart from each other: what a call keeps of them. No law is proved here. -/
import Derived.Test.YtlhlaadnifkdhaaWWords
namespace Go.Proofs.Ytlhlaadnifkdhaa.Own
open Go.RowKit Go.Proofs.YtlhlaadnifkdhaaW.PrintWords
set_option linter.unusedVariables false

/-- A thing: what is told of a world hangs on the thing's blocks alone. -/
structure Th where
  on : World → (Nat → Prop) → Prop
  loc : ∀ {w w' : World} {F : Nat → Prop}, on w F → (∀ k, F k → w'.heap[k]? = w.heap[k]?) → on w' F

/-- All but some blocks stay as they are. -/
structure KeepF (F : Nat → Prop) (w w' : World) : Prop where
  os : w'.os = w.os
  tape : w'.tape = w.tape
  output : w'.output = w.output
  size : w.heap.size ≤ w'.heap.size
  block : ∀ k, k < w.heap.size → ¬ F k → w'.heap[k]? = w.heap[k]?

theorem KeepF.refl (F : Nat → Prop) (w : World) : KeepF F w w := ⟨rfl, rfl, rfl, Nat.le_refl _, fun _ _ _ => rfl⟩
theorem KeepF.of_below {F : Nat → Prop} {w w' : World} (h : Below w.heap.size w w') : KeepF F w w' := ⟨h.os, h.tape, h.output, h.size, fun k hk _ => h.block k hk⟩
theorem KeepF.trans {F G : Nat → Prop} {w w1 w2 : World} (h : KeepF F w w1) (k : KeepF G w1 w2) (hG : ∀ b, G b → F b ∨ w.heap.size ≤ b) : KeepF F w w2 :=
  ⟨k.os.trans h.os, k.tape.trans h.tape, k.output.trans h.output, Nat.le_trans h.size k.size, fun b hb hn => (k.block b (Nat.lt_of_lt_of_le hb h.size) (fun g => (hG b g).elim hn (fun q => absurd hb (Nat.not_lt.2 q)))).trans (h.block b hb hn)⟩
theorem KeepF.mono {F G : Nat → Prop} {w w' : World} (h : KeepF F w w') (hF : ∀ b, F b → G b ∨ w.heap.size ≤ b) : KeepF G w w' :=
  ⟨h.os, h.tape, h.output, h.size, fun b hb hn => h.block b hb (fun g => (hF b g).elim hn (fun q => absurd hb (Nat.not_lt.2 q)))⟩
theorem KeepF.drewN {F : Nat → Prop} {w w' : World} (h : KeepF F w w') (n : Nat) : KeepF F w (w'.drewN n) := ⟨h.os, h.tape, h.output, h.size, h.block⟩
theorem KeepF.drew {F : Nat → Prop} {w w' : World} (h : KeepF F w w') : KeepF F w w'.drew := ⟨h.os, h.tape, h.output, h.size, h.block⟩
theorem KeepF.below {F : Nat → Prop} {w w' : World} {B : Nat} (h : KeepF F w w') (hB : B ≤ w.heap.size) (hF : ∀ b, F b → B ≤ b) : Below B w w' :=
  ⟨h.os, h.tape, h.output, h.size, fun k hk => h.block k (Nat.lt_of_lt_of_le hk hB) (fun f => absurd hk (Nat.not_lt.2 (hF k f)))⟩
theorem KeepF.alloc {F : Nat → Prop} {w w' : World} (h : KeepF F w w') (o : Obj) : KeepF F w (w'.alloc o) :=
  h.trans (KeepF.of_below (F := fun _ => False) ((Below.refl _ _).alloc (Nat.le_refl _) o)) (fun _ g => g.elim)
theorem KeepF.setCell {F : Nat → Prop} {w w' : World} (h : KeepF F w w') {p : Addr} (hp : F p.block ∨ w.heap.size ≤ p.block) (v : Value) : KeepF F w (w'.setCell p v) :=
  h.trans (G := fun k => k = p.block) ⟨rfl, rfl, rfl, by simp, fun k _ hn => Below.heap_setCell w' p v k hn⟩ (fun _ e => e ▸ hp)
theorem KeepF.grown {F : Nat → Prop} {w w1 w2 : World} (h : KeepF F w w1) {row : Option Nat} (hg : w1.grownBy w2 row) (hr : ∀ k, row = some k → F k ∨ w.heap.size ≤ k) : KeepF F w w2 :=
  h.trans (G := fun k => row = some k) ⟨hg.os, hg.tape, hg.output, hg.size, fun k hk hn => hg.block k hk (fun e => hn e.symm)⟩ (fun b e => hr b e)

/-- Things, each in blocks of its own (all made since B). -/
def All (B : Nat) (w : World) : (Nat → Prop) → List Th → Prop
  | _, [] => True
  | S, T :: Ts => ∃ F, T.on w F ∧ (∀ k, F k → S k ∧ B ≤ k ∧ k < w.heap.size) ∧ All B w (fun k => S k ∧ ¬ F k) Ts
theorem All.grow {B : Nat} {w : World} : ∀ {Ts : List Th} {S S' : Nat → Prop}, All B w S Ts → (∀ k, S k → k < w.heap.size → S' k) → All B w S' Ts
  | [], _, _, _, _ => trivial
  | T :: Ts, S, S', ⟨F, h1, h2, h3⟩, hS => ⟨F, h1, fun k hk => ⟨hS k (h2 k hk).1 (h2 k hk).2.2, (h2 k hk).2⟩, All.grow h3 fun k hk hl => ⟨hS k hk.1 hl, hk.2⟩⟩
theorem All.move {B : Nat} {w w' : World} (hs : w.heap.size ≤ w'.heap.size) : ∀ {Ts : List Th} {S : Nat → Prop}, All B w S Ts → (∀ k, S k → k < w.heap.size → w'.heap[k]? = w.heap[k]?) → All B w' (fun k => S k ∧ k < w.heap.size) Ts
  | [], _, _, _ => trivial
  | T :: Ts, S, ⟨F, h1, h2, h3⟩, hm => ⟨F, T.loc h1 fun k hk => hm k (h2 k hk).1 (h2 k hk).2.2, fun k hk => ⟨⟨(h2 k hk).1, (h2 k hk).2.2⟩, (h2 k hk).2.1, Nat.lt_of_lt_of_le (h2 k hk).2.2 hs⟩,
      (All.move hs h3 fun k hk hl => hm k hk.1 hl).grow fun k hk _ => ⟨⟨hk.1.1, hk.2⟩, hk.1.2⟩⟩
theorem All.perm {B : Nat} {w : World} {Ts Us : List Th} (p : Ts.Perm Us) : ∀ {S : Nat → Prop}, All B w S Ts → All B w S Us := by
  induction p with
  | nil => exact fun h => h
  | cons T _ ih => exact fun ⟨F, h1, h2, h3⟩ => ⟨F, h1, h2, ih h3⟩
  | swap T U l =>
    rintro S ⟨F, h1, h2, G, g1, g2, h3⟩
    exact ⟨G, g1, fun k hk => ⟨(g2 k hk).1.1, (g2 k hk).2⟩, F, h1, fun k hk => ⟨⟨(h2 k hk).1, fun g => (g2 k g).1.2 hk⟩, (h2 k hk).2⟩, h3.grow fun k hk _ => ⟨⟨hk.1.1, hk.2⟩, hk.1.2⟩⟩
  | trans _ _ i1 i2 => exact fun h => i2 (i1 h)

/-- At a world: things apart from each other, all made since B. -/
structure Has (B : Nat) (w : World) (Ts : List Th) : Prop where
  size : B ≤ w.heap.size
  all : All B w (fun _ => True) Ts
theorem Has.nil (w : World) : Has w.heap.size w [] := ⟨Nat.le_refl _, trivial⟩
theorem Has.perm {B : Nat} {w : World} {Ts Us : List Th} (h : Has B w Ts) (p : Ts.Perm Us) : Has B w Us := ⟨h.size, h.all.perm p⟩
theorem Has.tail {B : Nat} {w : World} {T : Th} {Ts : List Th} (h : Has B w (T :: Ts)) : Has B w Ts := by
  obtain ⟨h0, F, _, _, h3⟩ := h
  exact ⟨h0, h3.grow fun _ _ _ => trivial⟩
theorem Has.swap {B : Nat} {w : World} {T U : Th} {Ts : List Th} (h : Has B w (T :: U :: Ts)) : Has B w (U :: T :: Ts) := h.perm (List.Perm.swap _ _ _)
theorem Has.third {B : Nat} {w : World} {T U V : Th} {Ts : List Th} (h : Has B w (T :: U :: V :: Ts)) : Has B w (V :: T :: U :: Ts) := h.perm ((List.Perm.cons T (List.Perm.swap _ _ _)).trans (List.Perm.swap _ _ _))
theorem Has.below {B : Nat} {w w' : World} {Ts : List Th} (h : Has B w Ts) (hb : Below w.heap.size w w') : Has B w' Ts :=
  ⟨Nat.le_trans h.size hb.size, (All.move hb.size h.all fun k _ hk => hb.block k hk).grow fun _ _ _ => trivial⟩
theorem Has.alloc {B : Nat} {w : World} {Ts : List Th} (h : Has B w Ts) (o : Obj) : Has B (w.alloc o) Ts := h.below ((Below.refl _ _).alloc (Nat.le_refl _) o)
theorem Has.drewN {B : Nat} {w : World} {Ts : List Th} (h : Has B w Ts) (n : Nat) : Has B (w.drewN n) Ts := h.below ⟨rfl, rfl, rfl, Nat.le_refl _, fun _ _ => rfl⟩
theorem Has.drew {B : Nat} {w : World} {Ts : List Th} (h : Has B w Ts) : Has B w.drew Ts := h.below ⟨rfl, rfl, rfl, Nat.le_refl _, fun _ _ => rfl⟩
/-- A thing is laid open: its blocks; it may be turned, the others stay. -/
theorem Has.head {B : Nat} {w : World} {T : Th} {Ts : List Th} (h : Has B w (T :: Ts)) :
    ∃ F, T.on w F ∧ (∀ k, F k → B ≤ k ∧ k < w.heap.size) ∧ (∀ (w' : World) (F' : Nat → Prop) (T' : Th), KeepF F w w' → T'.on w' F' → (∀ k, F' k → (F k ∨ w.heap.size ≤ k) ∧ k < w'.heap.size) → Has B w' (T' :: Ts) ∧ Below B w w') := by
  obtain ⟨h0, F, h1, h2, h3⟩ := h
  refine ⟨F, h1, fun k hk => (h2 k hk).2, fun w' F' T' hk hT hF => ?_⟩
  have hb : ∀ k, F k → B ≤ k := fun k hk => (h2 k hk).2.1
  refine ⟨⟨Nat.le_trans h0 hk.size, F', hT, fun k hk' => ⟨trivial, ?_, (hF k hk').2⟩, ?_⟩, hk.below h0 hb⟩
  · rcases (hF k hk').1 with g | g
    · exact hb k g
    · exact Nat.le_trans h0 g
  · refine (All.move hk.size h3 fun k hk2 hl => hk.block k hl hk2.2).grow fun k hk2 _ => ⟨trivial, fun f => ?_⟩
    rcases (hF k f).1 with g | g
    · exact hk2.1.2 g
    · exact absurd hk2.2 (Nat.not_lt.2 g)
theorem Has.mem {B : Nat} {w : World} {T : Th} {Ts : List Th} (h : Has B w Ts) (hT : T ∈ Ts) : ∃ F, T.on w F ∧ ∀ k, F k → B ≤ k ∧ k < w.heap.size := by
  have key : ∀ {Ts : List Th} {S : Nat → Prop}, All B w S Ts → T ∈ Ts → ∃ F, T.on w F ∧ ∀ k, F k → B ≤ k ∧ k < w.heap.size := by
    intro Ts
    induction Ts with
    | nil => exact fun _ q => absurd q List.not_mem_nil
    | cons U Us ih =>
      rintro S ⟨F, h1, h2, h3⟩ q
      rcases List.mem_cons.1 q with rfl | q
      · exact ⟨F, h1, fun k hk => (h2 k hk).2⟩
      · exact ih h3 q
  exact key h.all hT
/-- A new thing, in new blocks. -/
theorem Has.new {B : Nat} {w w' : World} {T : Th} {Ts : List Th} (h : Has B w Ts) (hb : Below w.heap.size w w') {F : Nat → Prop} (hT : T.on w' F) (hF : ∀ k, F k → w.heap.size ≤ k ∧ k < w'.heap.size) : Has B w' (T :: Ts) := by
  have h' := h.below hb
  refine ⟨h'.size, F, hT, fun k hk => ⟨trivial, Nat.le_trans h.size (hF k hk).1, (hF k hk).2⟩, ?_⟩
  exact (All.move hb.size h.all fun k _ hk => hb.block k hk).grow fun k hk _ => ⟨trivial, fun f => absurd hk.2 (Nat.not_lt.2 (hF k f).1)⟩

/-! Rows: slices of the call's own -/
def rowT {α : Type} (d : Kd α) (e : Nat) (v : Value) (xs : List α) : Th := ⟨fun w F => d.R e w 0 F v xs, fun h hm => Kd.R_move h hm⟩
theorem Has.row {α : Type} {d : Kd α} {e : Nat} {v : Value} {xs : List α} {B : Nat} {w w' : World} {Ts : List Th} (h : Has B w Ts) (hb : Below w.heap.size w w') (hr : d.R e w' w.heap.size (fun _ => True) v xs) : Has B w' (rowT d e v xs :: Ts) := by
  refine h.new hb (F := fun k => w.heap.size ≤ k ∧ k < w'.heap.size) ?_ (fun k hk => hk)
  exact Kd.R_lower (Kd.R_mono (Kd.R_bound hr) fun k hk => ⟨hk.2.1, hk.2.2.1⟩) (Nat.zero_le _)
theorem Has.reads {α : Type} {d : Kd α} {e : Nat} {v : Value} {xs : List α} {B : Nat} {w : World} {Ts : List Th} (h : Has B w Ts) (hm : rowT d e v xs ∈ Ts) : ∃ A c, v = .slice A xs.length c ∧ xs.length ≤ c ∧ d.C w A xs.length xs := by
  obtain ⟨F, hF, _⟩ := h.mem hm
  exact Kd.R_reads hF

/-! Boxes: variables in memory -/
def boxT (b : Nat) (cs : Array Value) (t : TypeId) : Th := ⟨fun w F => F b ∧ w.heap[b]? = some (.cells cs t (0, 0)), fun h hm => ⟨h.1, (hm b h.1).trans h.2⟩⟩
theorem Has.box {B : Nat} {w : World} {Ts : List Th} (h : Has B w Ts) (cs : Array Value) (t : TypeId) : Has B (w.alloc (.cells cs t (0, 0))) (boxT w.heap.size cs t :: Ts) := by
  refine h.new ((Below.refl _ _).alloc (Nat.le_refl _) _) (F := fun k => k = w.heap.size) ⟨rfl, blk_new w _⟩ (fun k hk => ?_)
  rw [hk, World.size_alloc]
  exact ⟨Nat.le_refl _, Nat.lt_succ_self _⟩
theorem Has.box_set {B : Nat} {w : World} {Ts : List Th} {b : Nat} {cs : Array Value} {t : TypeId} (h : Has B w (boxT b cs t :: Ts)) (i : Nat) (v : Value) : Has B (w.setCell ⟨b, i, none⟩ v) (boxT b (cs.setIfInBounds i v) t :: Ts) ∧ Below B w (w.setCell ⟨b, i, none⟩ v) := by
  obtain ⟨F, ⟨hF, hb⟩, hFb, put⟩ := h.head
  exact put _ F _ ((KeepF.refl F w).setCell (.inl hF) v) ⟨hF, blk_set hb i v⟩ (fun k hk => ⟨.inl hk, by have := (hFb k hk).2; simpa using this⟩)
theorem Has.box_cell {B : Nat} {w : World} {Ts : List Th} {b : Nat} {cs : Array Value} {t : TypeId} (h : Has B w Ts) (hm : boxT b cs t ∈ Ts) : (∀ i, w.cell? ⟨b, i, none⟩ = cs[i]?) ∧ (∀ i, w.frozen? ⟨b, i, none⟩ = false) ∧ b < w.heap.size ∧ B ≤ b := by
  obtain ⟨F, ⟨hF, hb⟩, hFb⟩ := h.mem hm
  exact ⟨fun i => blk_cell hb i, fun i => blk_frozen hb i, (hFb b hF).2, (hFb b hF).1⟩

end Go.Proofs.Ytlhlaadnifkdhaa.Own
