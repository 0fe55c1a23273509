/- Rows of one's own that grow; pieces of a file, in plain words. No law is proved here. -/
import Derived.Test.YtibnakpefjjoiaaFileP
namespace Go.Proofs.Ytibnakpefjjoiaa.Fs
open Go.RowKit Go.Proofs.YtibnakpefjjoiaaW.PrintWords Go.Proofs.YtibnakpefjjoiaaW.PrintLast Go.Proofs.YtibnakpefjjoiaaW.PrintMore Go.Proofs.Ytibnakpefjjoiaa.Q Go.Proofs.Ytibnakpefjjoiaa.Own
set_option linter.unusedVariables false
set_option linter.unusedSimpArgs false

theorem row_grown {α : Type} {d : Kd α} {e : Nat} {B : Nat} {W w1 : World} {Ts : List Th} {ys : List α} {F : Nat → Prop} {v v1 : Value} (hFb : ∀ k, F k → B ≤ k ∧ k < W.heap.size)
    (put : ∀ (w' : World) (F' : Nat → Prop) (T' : Th), KeepF F W w' → T'.on w' F' → (∀ k, F' k → (F k ∨ W.heap.size ≤ k) ∧ k < w'.heap.size) → Has B w' (T' :: Ts) ∧ Below B W w')
    (hv : ∀ k, v.ownBlock = some k → F k) (hg : W.grownBy w1 v.ownBlock) (hr : d.R e w1 0 (fun k => F k ∨ W.heap.size ≤ k) v1 ys) : Has B w1 (rowT d e v1 ys :: Ts) ∧ Below B W w1 :=
  put w1 (fun k => (F k ∨ W.heap.size ≤ k) ∧ k < w1.heap.size) (rowT d e v1 ys) (KeepF.grown (KeepF.refl F W) hg fun k e => .inl (hv k e)) (Kd.R_mono (Kd.R_bound hr) fun k hk => ⟨hk.1, hk.2.2.1⟩) (fun k hk => hk)
/-- append(v, ys...) to a row of one's own. -/
theorem app_rows {P : Program} {ops : Array Oper} {rest : List Oper} {o : Oper} {a : Act} {Q : Exit → Act → World → Prop} {α : Type} (d : Kd α) {B : Nat} {W : World} {Ts : List Th} {e : TypeId} {v : Value} {xs ys : List α} (h : Has B W (rowT d e v xs :: Ts))
    (hgd : o.guard = none) (s x : Operand) (t : TypeId) (z : Value) (bytes : Nat) (ho : o.op = .call { callee := .builtin .append, args := #[s, x], argTypes := #[t, t] })
    (ht : P.underlying t = some (.slice e)) (hinfo : (P.info? e).map (fun i => (i.zero, i.size, i.bytes)) = some (some z, d.sz, bytes)) (hz : z.cells.size = d.sz) (hs0 : 0 < d.sz) (hb0 : 0 < bytes)
    (A : Option Addr) (c : Nat) (hs : a.eval s = v) (hx : a.eval x = .slice A ys.length c) (HC : d.C W A ys.length ys) (hKM : ∀ x cs, d.K W x cs → d.M W 0 (fun _ => False) x cs) (hl : (xs.length + ys.length) * bytes ≤ 140737488355328)
    (hK : ∀ v1 w1, Has B w1 (rowT d e v1 (xs ++ ys) :: Ts) → Below B W w1 → wpList P ops Q rest (a.put o.dst v1) w1) : wpList P ops Q (o :: rest) a W := by
  obtain ⟨F, hr, hFb, put⟩ := h.head
  have hr' : Kd.R d e W 0 F v xs := hr
  refine Kd.R_append_rows d (Rr := d.K W) (w0 := W) (W := W) 0 hgd s x t e z bytes ho ht hinfo hz hs0 hb0 v xs ys A ys.length c (fun k => F k ∨ W.heap.size ≤ k) (fun _ => False) hs hx (Kd.R_mono hr' fun k hk => .inl hk) HC hKM (fun _ f => f.elim) (fun k hk => .inr hk) (Below.refl _ _) (Nat.zero_le _) hl ?_
  intro v1 w1 hr1 _ hg _
  obtain ⟨q1, q2⟩ := row_grown hFb put hr'.1 hg hr1
  exact hK v1 w1 q1 q2
theorem wrap_nat {i : Nat} (h : i < 9223372036854775807) : wrap64 ((i : Int) + 1) = ((i + 1 : Nat) : Int) := by unfold wrap64; omega
/-- The store behind k pieces. -/
def pcS (l : List (List Int)) (k : Nat) : Stt := if k = 0 then ⟨-1, 0, []⟩ else oneS nA k (l.take k).flatten
theorem take_flat (l : List (List Int)) {k : Nat} (hk : k < l.length) : (l.take (k + 1)).flatten = (l.take k).flatten ++ l[k] := by
  rw [List.take_succ_eq_append_getElem hk, List.flatten_append]
  simp
theorem take_flat_le (l : List (List Int)) (k : Nat) : (l.take k).flatten.length ≤ l.flatten.length := by
  have h : l.flatten = (l.take k).flatten ++ (l.drop k).flatten := by rw [← List.flatten_append, List.take_append_drop]
  rw [h, List.length_append]
  omega
theorem pc_ok {l : List (List Int)} {k : Nat} (hk : k ≤ 50) (hl : l.flatten.length ≤ 20000) : OkS (pcS l k) := by
  unfold pcS
  split
  · exact ok_new
  · exact ok_one nA (by omega) (by omega) (by have := take_flat_le l k; omega)
theorem pc_rise (l : List (List Int)) (k : Nat) : Rise (pcS l k).L := by
  unfold pcS
  split
  · exact List.Pairwise.nil
  · exact rise_one _ _ _
theorem pc_next {l : List (List Int)} {k : Nat} (hk : k < l.length) (hl : l.flatten.length ≤ 20000) : appendS (pcS l k) nA l[k] = (0, pcS l (k + 1)) := by
  have h1 := take_flat_le l (k + 1)
  rw [take_flat l hk, List.length_append] at h1
  unfold pcS
  by_cases h : k = 0
  · subst h
    rw [if_pos rfl, if_neg (by omega), append_new (by omega), take_flat l hk]
    rfl
  · rw [if_neg h, if_neg (by omega), append_one (by omega), take_flat l hk]
    rfl
theorem u64_nz (n : Nat) (h : n ≤ 1000000) : (IntKind.u64.wrap (((n + 1 : Nat) : Int)) == 0) = false := by
  rw [IntKind.wrap_u64, beq_eq_false_iff_ne]
  omega
end Go.Proofs.Ytibnakpefjjoiaa.Fs
