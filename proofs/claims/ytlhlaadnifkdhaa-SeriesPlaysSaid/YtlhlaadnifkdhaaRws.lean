/- Rows of a call's own, as things: made, grown, read, written; two things as one. No law is proved here. -/
import Derived.Test.YtlhlaadnifkdhaaOwn
namespace Go.Proofs.Ytlhlaadnifkdhaa.Own
open Go.RowKit Go.Proofs.YtlhlaadnifkdhaaW.PrintWords
set_option linter.unusedVariables false
set_option linter.unusedSimpArgs false

theorem bl_drew {B : Nat} {w w' : World} (h : Below B w w') : Below B w w'.drew := h.trans ⟨rfl, rfl, rfl, Nat.le_refl _, fun _ _ => rfl⟩
theorem c_al {W : World} {a : Addr} {v : Value} (o : Obj) (h : W.cell? a = some v) : (W.alloc o).cell? a = some v := (World.cell?_alloc_some W a o (by rw [h]; rfl)).trans h
theorem has_only {B : Nat} {w : World} {T : Th} {Ts : List Th} (h : Has B w (T :: Ts)) : Has B w [T] := by
  obtain ⟨h0, F, h1, h2, -⟩ := h
  exact ⟨h0, F, h1, h2, trivial⟩
theorem has_mid {B : Nat} {w : World} {T : Th} {As Bs : List Th} (h : Has B w (As ++ T :: Bs)) : Has B w (T :: (As ++ Bs)) := h.perm List.perm_middle
theorem has_back {B : Nat} {w : World} {T : Th} {As Bs : List Th} (h : Has B w (T :: (As ++ Bs))) : Has B w (As ++ T :: Bs) := h.perm List.perm_middle.symm
/-- Two things as one. -/
def pairT (T U : Th) : Th where
  on w F := ∃ F1 F2, T.on w F1 ∧ U.on w F2 ∧ (∀ k, F1 k → F k ∧ ¬ F2 k) ∧ ∀ k, F2 k → F k
  loc := by
    rintro w w' F ⟨F1, F2, h1, h2, h3, h4⟩ hm
    exact ⟨F1, F2, T.loc h1 (fun k hk => hm k (h3 k hk).1), U.loc h2 (fun k hk => hm k (h4 k hk)), h3, h4⟩
theorem has_pair {B : Nat} {w : World} {T U : Th} {Ts : List Th} (h : Has B w (T :: U :: Ts)) : Has B w (pairT T U :: Ts) := by
  obtain ⟨h0, F1, t1, f1, F2, t2, f2, rest⟩ := h
  exact ⟨h0, fun k => F1 k ∨ F2 k, ⟨F1, F2, t1, t2, fun k hk => ⟨.inl hk, fun q => (f2 k q).1.2 hk⟩, fun k hk => .inr hk⟩, fun k hk => ⟨trivial, hk.elim (fun q => (f1 k q).2) (fun q => (f2 k q).2)⟩, rest.grow fun k hk _ => ⟨trivial, fun q => q.elim hk.1.2 hk.2⟩⟩
theorem has_unpair {B : Nat} {w : World} {T U : Th} {Ts : List Th} (h : Has B w (pairT T U :: Ts)) : Has B w (T :: U :: Ts) := by
  obtain ⟨h0, F, ⟨F1, F2, t1, t2, h3, h4⟩, f, rest⟩ := h
  exact ⟨h0, F1, t1, fun k hk => ⟨trivial, (f k (h3 k hk).1).2⟩, F2, t2, fun k hk => ⟨⟨trivial, fun q => (h3 k q).2 hk⟩, (f k (h4 k hk)).2⟩, rest.grow fun k hk _ => ⟨⟨trivial, fun q => hk.2 (h3 k q).1⟩, fun q => hk.2 (h4 k q)⟩⟩
theorem fr_row {α : Type} {d : Kd α} {e : Nat} {w : World} {base : Nat} {ok : Nat → Prop} {g n c : Nat} {xs : List α} (h : d.R e w base ok (.slice (some ⟨g, 0, none⟩) n c) xs) (j : Nat) : w.frozen? ⟨g, j, none⟩ = false := by
  obtain ⟨_, inner, ho, hr⟩ := h
  obtain ⟨cells, hc⟩ := own_typed ho g (by simp [Value.ownBlock])
  exact blk_frozen hc _
/-! Rows that grow -/
theorem row_grows {α : Type} {d : Kd α} {e : Nat} {B : Nat} {W w1 : World} {Ts : List Th} {ys : List α} {F : Nat → Prop} {v v1 : Value} (hFb : ∀ k, F k → B ≤ k ∧ k < W.heap.size)
    (put : ∀ (w' : World) (F' : Nat → Prop) (T' : Th), KeepF F W w' → T'.on w' F' → (∀ k, F' k → (F k ∨ W.heap.size ≤ k) ∧ k < w'.heap.size) → Has B w' (T' :: Ts) ∧ Below B W w')
    (hv : ∀ k, v.ownBlock = some k → F k) (hg : W.grownBy w1 v.ownBlock) (hr : d.R e w1 0 (fun k => F k ∨ W.heap.size ≤ k) v1 ys) : Has B w1 (rowT d e v1 ys :: Ts) ∧ Below B W w1 :=
  put w1 (fun k => (F k ∨ W.heap.size ≤ k) ∧ k < w1.heap.size) (rowT d e v1 ys) (KeepF.grown (KeepF.refl F W) hg fun k e => .inl (hv k e)) (Kd.R_mono (Kd.R_bound hr) fun k hk => ⟨hk.1, hk.2.2.1⟩) (fun k hk => hk)
/-- append(v, ys...) to a row of one's own. -/
theorem rows_app {P : Program} {ops : Array Oper} {rest : List Oper} {o : Oper} {a : Act} {Q : Exit → Act → World → Prop} {α : Type} (d : Kd α) {B : Nat} {W : World} {Ts : List Th} {e : TypeId} {v : Value} {xs ys : List α} (h : Has B W (rowT d e v xs :: Ts))
    (hgd : o.guard = none) (s x : Operand) (t : TypeId) (z : Value) (bytes : Nat) (ho : o.op = .call { callee := .builtin .append, args := #[s, x], argTypes := #[t, t] })
    (ht : P.underlying t = some (.slice e)) (hinfo : (P.info? e).map (fun i => (i.zero, i.size, i.bytes)) = some (some z, d.sz, bytes)) (hz : z.cells.size = d.sz) (hs0 : 0 < d.sz) (hb0 : 0 < bytes)
    (A : Option Addr) (c : Nat) (hs : a.eval s = v) (hx : a.eval x = .slice A ys.length c) (HC : d.C W A ys.length ys) (hKM : ∀ x cs, d.K W x cs → d.M W 0 (fun _ => False) x cs) (hl : (xs.length + ys.length) * bytes ≤ 140737488355328)
    (hK : ∀ v1 w1, Has B w1 (rowT d e v1 (xs ++ ys) :: Ts) → Below B W w1 → wpList P ops Q rest (a.put o.dst v1) w1) : wpList P ops Q (o :: rest) a W := by
  obtain ⟨F, hr, hFb, put⟩ := h.head
  have hr' : Kd.R d e W 0 F v xs := hr
  refine Kd.R_append_rows d (Rr := d.K W) (w0 := W) (W := W) 0 hgd s x t e z bytes ho ht hinfo hz hs0 hb0 v xs ys A ys.length c (fun k => F k ∨ W.heap.size ≤ k) (fun _ => False) hs hx (Kd.R_mono hr' fun k hk => .inl hk) HC hKM (fun _ f => f.elim) (fun k hk => .inr hk) (Below.refl _ _) (Nat.zero_le _) hl ?_
  intro v1 w1 hr1 _ hg _
  obtain ⟨q1, q2⟩ := row_grows hFb put hr'.1 hg hr1
  exact hK v1 w1 q1 q2
/-! Rows that are read, or written over -/
theorem row_reads {α : Type} {d : Kd α} {e B : Nat} {w : World} {A : Option Addr} {n c : Nat} {xs : List α} {Ts : List Th} (h : Has B w Ts) (hm : rowT d e (.slice A n c) xs ∈ Ts) : n = xs.length ∧ xs.length ≤ c ∧ d.C w A xs.length xs := by
  obtain ⟨A', c', ev, hc, hC⟩ := h.reads hm
  injection ev with e1 e2 e3
  subst e1; subst e2; subst e3
  exact ⟨rfl, hc, hC⟩
theorem row_plain {α : Type} {d : Kd α} {e B : Nat} {w : World} {ad : Addr} {n c : Nat} {xs : List α} {Ts : List Th} (h : Has B w Ts) (hm : rowT d e (.slice (some ad) n c) xs ∈ Ts) : ∃ g, ad = ⟨g, 0, none⟩ := by
  obtain ⟨F, hF, -⟩ := h.mem hm
  have hR : d.R e w 0 F (.slice (some ad) n c) xs := hF
  obtain ⟨_, inner, ho, _⟩ := hR
  rcases ho.2 with ⟨h0, _⟩ | ⟨g, cap, cur, hv, _, _, _, _⟩
  · cases h0
  · injection hv with h1 _ _
    injection h1 with h1
    exact ⟨g, h1⟩
/-- One cell of an element is written over. -/
theorem row_seg {α : Type} {d : Kd α} {e B : Nat} {w : World} {Ts : List Th} {g n c : Nat} {l : List α} (h : Has B w (rowT d e (.slice (some ⟨g, 0, none⟩) n c) l :: Ts)) (i : Nat) (hi : i < l.length) {cs : List Value} (hcl : cs.length = d.sz) (hc : ∀ j u, cs[j]? = some u → w.cell? ⟨g, i * d.sz + j, none⟩ = some u) {j : Nat} (hj : j + 1 ≤ d.sz) {u : Value} {x' : α} (hM : d.M w 0 (fun _ => False) x' (cs.take j ++ [u] ++ cs.drop (j + 1))) :
    Has B (w.setCell ⟨g, i * d.sz + j, none⟩ u) (rowT d e (.slice (some ⟨g, 0, none⟩) n c) (l.set i x') :: Ts) ∧ Below B w (w.setCell ⟨g, i * d.sz + j, none⟩ u) ∧ ∀ k, w.frozen? ⟨g, k, none⟩ = false := by
  obtain ⟨F, hR, hFb, put⟩ := h.head
  have hR' : Kd.R d e w 0 F (.slice (some ⟨g, 0, none⟩) n c) l := hR
  obtain ⟨hn, hnc, hC⟩ := Kd.R_reads' hR'
  have hg : F g := hR'.1 g rfl
  obtain ⟨s1, s2⟩ := Kd.R_seg (okp := fun _ => False) hR' (i : Int) (by omega) (by omega) (c := cs) (seg := [u]) (j := j) hcl (fun j q hq => by rw [Int.toNat_natCast]; exact hc j q hq) hj hM (fun _ f => f.elim)
  rw [Int.toNat_natCast] at s1 s2
  have s1' : Kd.R d e (w.setCell ⟨g, i * d.sz + j, none⟩ u) 0 F (.slice (some ⟨g, 0, none⟩) n c) (l.set i x') := s1
  have s2' : w.grownBy (w.setCell ⟨g, i * d.sz + j, none⟩ u) (some g) := s2
  obtain ⟨p1, p2⟩ := put _ F (rowT d e (.slice (some ⟨g, 0, none⟩) n c) (l.set i x')) ((KeepF.refl F w).grown s2' (fun k e => by injection e with e; subst e; exact .inl hg)) s1' (fun k hk => ⟨.inl hk, Nat.lt_of_lt_of_le (hFb k hk).2 s2'.size⟩)
  exact ⟨p1, p2, fun k => fr_row hR' k⟩
/-- A field behind the first one of an element is written over; cs: the element's cells. -/
theorem row_field {α : Type} {d : Kd α} {e B : Nat} {w : World} {As Bs : List Th} {ad : Addr} {n c : Nat} {l : List α} (h : Has B w (As ++ rowT d e (.slice (some ad) n c) l :: Bs)) (i : Nat) (hi : i < l.length) {cs : List Value} (hK : ∀ cs', d.K w l[i] cs' → cs' = cs) {j : Nat} (hj0 : 0 < j) (hj : j + 1 ≤ d.sz) {u : Value} {x' : α} (hM : d.M w 0 (fun _ => False) x' (cs.take j ++ [u] ++ cs.drop (j + 1))) :
    Has B (w.setCell ⟨(ad.add (i * d.sz)).block, (ad.add (i * d.sz)).off + j, none⟩ u) (As ++ rowT d e (.slice (some ad) n c) (l.set i x') :: Bs) ∧ Below B w (w.setCell ⟨(ad.add (i * d.sz)).block, (ad.add (i * d.sz)).off + j, none⟩ u) ∧ ∀ k, w.frozen? ⟨(ad.add (i * d.sz)).block, k, none⟩ = false := by
  have h' := has_mid h
  obtain ⟨g, rfl⟩ := row_plain h' (List.mem_cons_self ..)
  obtain ⟨hn, -, hC⟩ := row_reads h' (List.mem_cons_self ..)
  obtain ⟨ad', cs', e0, hcl, hK0, hc0⟩ := Kd.C_get hC l[i] (i : Int) (by omega) (by omega)
  cases e0
  rw [Int.toNat_natCast, List.getD_eq_getElem?_getD, List.getElem?_eq_getElem hi] at hK0
  rw [Int.toNat_natCast] at hc0
  have e1 := hK cs' hK0
  subst e1
  rw [add_plain]
  obtain ⟨p1, p2, p3⟩ := row_seg h' i hi (cs := cs') (j := j) (u := u) (x' := x') hcl (fun j u hu => by have := hc0 j u hu; rwa [add_plain] at this) hj hM
  exact ⟨has_back p1, p2, p3⟩
/-! Rows that are made -/
theorem lit_0 {α : Type} (d : Kd α) {B : Nat} {w : World} {Ts : List Th} (h : Has B w Ts) (e : TypeId) : Has B (w.alloc (.cells #[] e)) (rowT d e (.slice (some ⟨w.heap.size, 0, none⟩) 0 0) [] :: Ts) :=
  h.row ((Below.refl _ w).alloc (Nat.le_refl _) _) ⟨fun _ _ => trivial, OwnRow.lit (ps := ([] : List α)) w w.heap.size (inner := []) (Reps.none _ _) (Nat.le_refl _) (Nat.zero_le _)⟩
theorem row_nil {α : Type} (d : Kd α) {B : Nat} {w : World} {Ts : List Th} (h : Has B w Ts) (e : TypeId) : Has B w (rowT d e (.slice none 0 0) [] :: Ts) := h.row (Below.refl _ _) (Kd.R_nil d e _ _ _)
end Go.Proofs.Ytlhlaadnifkdhaa.Own
