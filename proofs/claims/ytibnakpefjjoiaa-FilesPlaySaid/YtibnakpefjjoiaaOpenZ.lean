/- How the arguments of a law are opened, where all that came in is bounded in bytes: nested rows and texts too; no law is proved here. -/
import Derived.Test.YtibnakpefjjoiaaOpen
namespace Go.Proofs.Ytibnakpefjjoiaa.Opn
open Go.RowKit Go.Proofs.YtibnakpefjjoiaaW.PrintWords

/-- As Opens, of data whose rows and texts are bounded. -/
def OpensZ (P : Program) (T : TypeId) {α : Type} (d : Kd α) (good : α → Prop) : Prop :=
  ∀ (H : Type) (enc : TypeId × Value → H) (w : World) (fuel : Nat) (cs : List Value) (x : DataW H × List MemPlace),
    DataW.trod enc P w 0 (fun _ => true) true fuel T cs = some x → (∀ n ∈ x.1.weights P T, n ≤ reachBytes) → ∃ y : α, d.K w y cs ∧ good y
theorem Opens.z {P : Program} {T : TypeId} {α : Type} {d : Kd α} {good : α → Prop} (h : Opens P T d good) : OpensZ P T d good := fun H enc w fuel cs x hx _ => h H enc w fuel cs x hx
theorem OpensZ.mono {P : Program} {T : TypeId} {α : Type} {d : Kd α} {good good' : α → Prop} (h : OpensZ P T d good) (hg : ∀ y, good y → good' y) : OpensZ P T d good' := fun H enc w fuel cs x hx hz => by
  obtain ⟨y, h1, h2⟩ := h H enc w fuel cs x hx hz
  exact ⟨y, h1, hg y h2⟩
theorem OpensZ.string {P : Program} {T : TypeId} (ht : P.underlying T = some .string) : OpensZ P T Kd.string (fun s => s.size ≤ 140737488351232) := by
  intro H enc w fuel cs x h hz
  obtain ⟨n, rfl, hx, hs⟩ := DataW.trod_string ht h
  refine ⟨n, rfl, ?_⟩
  have h1 := hz n.data.toList.length (by first | (rw [hx]; simp [DataW.weights]; done) | (subst hx; simp [DataW.weights]; done))
  rw [Array.length_toList] at h1
  exact h1
theorem weights_mem_all {H : Type} {P : Program} {e : TypeId} : ∀ {l : List (DataW H)} {d : DataW H}, d ∈ l → ∀ n ∈ d.weights P e, n ∈ DataW.weightsAll P e l
  | [], _, h, _, _ => absurd h List.not_mem_nil
  | x :: l, d, h, n, hn => by
    rw [DataW.weightsAll, List.mem_append]
    rcases List.mem_cons.1 h with rfl | h
    · exact .inl hn
    · exact .inr (weights_mem_all h n hn)
theorem OpensZ.slice {P : Program} {T e : TypeId} {α : Type} {d : Kd α} {good : α → Prop} (ht : P.underlying T = some (.slice e)) (hc : P.cellsOf e = d.sz) (ho : OpensZ P e d good) :
    OpensZ P T (Kd.slice e d) (fun l => l.length ≤ 9223372036854775807 ∧ l.length * P.bytesOf e ≤ 140737488351232 ∧ ∀ y ∈ l, good y) := by
  intro H enc w fuel cs x h hz
  rcases Go.Deep.open_slice ht h with ⟨rfl, _⟩ | ⟨a, len, cap, m, n, D, Pl, rfl, _, hl, hm, hmm, hxe, hx⟩
  · exact ⟨[], ⟨none, 0, rfl, Nat.le_refl _, Kd.C_nil d w⟩, by simp, by simp, by simp⟩
  · simp only [if_true] at hmm
    subst hmm
    subst hxe
    clear h
    have hz' : ∀ i, i < len → ∀ n ∈ (D i).weights P e, n ≤ reachBytes := fun i hi n hn => hz n (by
      simp only [DataW.weights, ht, List.mem_cons, List.mem_append]
      exact .inr (.inl (weights_mem_all (List.mem_map.2 ⟨i, List.mem_range.2 hi, rfl⟩) n hn)))
    have hb : len * P.bytesOf e ≤ 140737488351232 := by
      have h1 := hz ((((List.range len).map D).length + ((List.range (m - len)).map fun j => D (len + j)).length) * P.bytesOf e) (by
        simp [DataW.weights, ht])
      simp only [List.length_map, List.length_range] at h1
      exact Nat.le_trans (Nat.mul_le_mul_right _ (by omega)) h1
    have key : ∀ i, i < len → ∃ y : α, (∃ c, w.cells? 0 (a.add (i * P.cellsOf e)) (P.cellsOf e) = some c ∧ d.K w y c) ∧ good y := by
      intro i hi
      obtain ⟨c, h1, h2⟩ := hx i (by omega)
      obtain ⟨y, hy, hg⟩ := ho H enc w n c _ h2 (hz' i hi)
      exact ⟨y, ⟨c, h1, hy⟩, hg⟩
    clear hx hz hz'
    have hmx : len ≤ 9223372036854775807 := by unfold maxLen at hm; omega
    obtain ⟨l, hll, hlk⟩ : ∃ l : List α, l.length = len ∧ ∀ i y, l[i]? = some y → (∃ c, w.cells? 0 (a.add (i * P.cellsOf e)) (P.cellsOf e) = some c ∧ d.K w y c) ∧ good y := by
      clear hl hm hmx hb
      induction len with
      | zero => exact ⟨[], rfl, by simp⟩
      | succ len ih =>
        obtain ⟨l, h1, h2⟩ := ih (fun i hi => key i (by omega))
        obtain ⟨y, hy⟩ := key len (by omega)
        refine ⟨l ++ [y], by simp [h1], fun i z hz => ?_⟩
        rcases Nat.lt_or_ge i l.length with hi | hi
        · rw [List.getElem?_append_left hi] at hz
          exact h2 i z hz
        · have : i = l.length := by
            have := (List.getElem?_eq_some_iff.1 hz).1
            rw [List.length_append, List.length_singleton] at this
            omega
          subst this
          have hz' : y = z := by simpa using hz
          subst hz'
          rw [h1]
          exact hy
    subst hll
    refine ⟨l, ⟨some a, m, rfl, hl, rfl, hmx, fun _ => ⟨a, rfl, fun j p hj => ?_⟩⟩, hmx, hb, fun y hy => ?_⟩
    · obtain ⟨⟨c, h1, h2⟩, _⟩ := hlk j p hj
      refine ⟨c, d.K_len h2, h2, fun i u hu => ?_⟩
      obtain ⟨_, hb, hb2⟩ := World.cells?_some h1
      rw [hc] at hb hb2
      have hi : i < d.sz := by have := (List.getElem?_eq_some_iff.1 hu).1; rw [d.K_len h2] at this; exact this
      have h3 := hb2 i hi
      rw [Go.Deep.add_add] at h3
      rw [h3]
      exact hu
    · obtain ⟨i, hi⟩ := List.getElem?_of_mem hy
      exact (hlk i y hi).2
def OpensFZ (P : Program) (fs : List Field) (o : Nat) {α : Type} (d : Kd α) (good : α → Prop) : Prop :=
  ∀ (H : Type) (enc : TypeId × Value → H) (w : World) (fuel : Nat) (cs : List Value), cs.length = o + d.sz →
    (∀ f ∈ fs, ∃ x, DataW.trod enc P w 0 (fun _ => true) true fuel f.type ((cs.drop f.offset).take (P.cellsOf f.type)) = some x ∧ ∀ n ∈ x.1.weights P f.type, n ≤ reachBytes) → ∃ y : α, d.K w y (cs.drop o) ∧ good y
theorem OpensFZ.one {P : Program} {f : Field} {α : Type} {d : Kd α} {good : α → Prop} (hc : P.cellsOf f.type = d.sz) (ho : OpensZ P f.type d good) : OpensFZ P [f] f.offset d good := by
  intro H enc w fuel cs hl hf
  obtain ⟨x, hx, hz⟩ := hf f (by simp)
  rw [hc, List.take_of_length_le (by rw [List.length_drop]; omega)] at hx
  exact ho H enc w fuel _ x hx hz
theorem OpensFZ.cons {P : Program} {f : Field} {fs : List Field} {o : Nat} {α β : Type} {d : Kd α} {d' : Kd β} {good : α → Prop} {good' : β → Prop} (hc : P.cellsOf f.type = d.sz) (hof : f.offset + d.sz = o) (ho : OpensZ P f.type d good) (hr : OpensFZ P fs o d' good') :
    OpensFZ P (f :: fs) f.offset (Kd.pair d d') (fun x => good x.1 ∧ good' x.2) := by
  intro H enc w fuel cs hl hf
  have hl' : cs.length = f.offset + (d.sz + d'.sz) := hl
  obtain ⟨x, hx, hz⟩ := hf f (by simp)
  obtain ⟨y, hy, hg⟩ := ho H enc w fuel _ x hx hz
  obtain ⟨z, hz, hg'⟩ := hr H enc w fuel cs (by omega) (fun g hgm => hf g (by simp [hgm]))
  refine ⟨(y, z), ⟨_, _, ?_, hy, hz⟩, hg, hg'⟩
  rw [hc, ← hof, ← List.drop_drop]
  exact (List.take_append_drop _ _).symm
theorem OpensZ.struct {P : Program} {T : TypeId} {fs : Array Field} {α β : Type} {d : Kd α} {good : α → Prop} (f : β → α) (g : α → β) (hfg : ∀ x, f (g x) = x) (ht : P.underlying T = some (.struct fs)) (hc : P.cellsOf T = d.sz) (ho : OpensFZ P fs.toList 0 d good) :
    OpensZ P T (Kd.iso d f) (fun y => good (f y)) := by
  intro H enc w fuel cs x h hz
  obtain ⟨xs, n, rfl, rfl, hl, hxl, hx⟩ := DataW.trod_struct ht h
  obtain ⟨y, hy, hg⟩ := ho H enc w n cs (by rw [hl, hc]; omega) (fun fl hfl => by
    obtain ⟨i, hi⟩ := List.getElem?_of_mem hfl
    have h1 : fs[i]? = some fl := by simpa using hi
    have h2 := hx i fl h1
    have h3 : i < xs.length := by rw [hxl]; exact (Array.getElem?_eq_some_iff.1 h1).1
    refine ⟨xs[i], by rw [h2, List.getElem?_eq_getElem h3], fun n hn => hz n ?_⟩
    simp only [DataW.weights, ht]
    exact DataW.weights_mem_each (j := i) (t := fl.type) (d := xs[i].1) (by rw [List.getElem?_map, hi]; rfl) (by rw [List.getElem?_map, List.getElem?_eq_getElem h3]; rfl) n hn)
  refine ⟨g y, ?_, by show good (f (g y)); rw [hfg]; exact hg⟩
  show d.K w (f (g y)) cs
  rw [hfg]
  simpa using hy
theorem OpensZ.slice_arg {P : Program} {T e : TypeId} {α : Type} {d : Kd α} {good : α → Prop} (ht : P.underlying T = some (.slice e)) (hc : P.cellsOf e = d.sz) (ho : OpensZ P e d good) {H : Type} {enc : TypeId × Value → H} {w : World} {a : Option Addr} {len cap : Nat} {D : DataW H} {p : List MemPlace}
    (h : DataW.Trod enc P w 0 (fun _ => true) true T (.slice a len cap) D p) (hz : ∀ n ∈ D.weights P T, n ≤ reachBytes) :
    ∃ l : List α, len = l.length ∧ l.length ≤ cap ∧ d.C w a l.length l ∧ l.length ≤ 9223372036854775807 ∧ ∀ y ∈ l, good y := by
  obtain ⟨fuel, hf⟩ := h
  obtain ⟨l, ⟨A, c, he, hl, hC⟩, h1, -, h2⟩ := OpensZ.slice ht hc ho H enc w fuel _ _ hf hz
  simp only [Value.cells, List.cons.injEq, and_true] at he
  injection he with e1 e2 e3
  subst e1; subst e2; subst e3
  exact ⟨l, rfl, hl, hC, h1, h2⟩
theorem z_of {H : Type} {P : Program} {ts : List TypeId} {ds : List (DataW H)} (hsz : (DataW.weightsEach P ts ds).all (· ≤ reachBytes) = true) {j : Nat} {t : TypeId} {D : DataW H} (ht : ts[j]? = some t) (hd : ds[j]? = some D) : ∀ n ∈ D.weights P t, n ≤ reachBytes := fun n hn => by
  have := List.all_eq_true.1 hsz n (DataW.weights_mem_each ht hd n hn)
  simpa using this
end Go.Proofs.Ytibnakpefjjoiaa.Opn
