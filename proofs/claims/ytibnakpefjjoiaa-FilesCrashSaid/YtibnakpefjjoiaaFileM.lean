/- A store of files: bytes are appended to a file: walked. No law is proved here. -/
import Derived.Test.YtibnakpefjjoiaaFileL
namespace Go.Proofs.Ytibnakpefjjoiaa.Fs
open Go.RowKit Go.Proofs.YtibnakpefjjoiaaW.PrintWords Go.Proofs.YtibnakpefjjoiaaW.PrintLast Go.Proofs.YtibnakpefjjoiaaW.PrintMore Go.Proofs.Ytibnakpefjjoiaa.Q Go.Proofs.Ytibnakpefjjoiaa.Own
set_option linter.unusedVariables false
set_option linter.unusedSimpArgs false
attribute [local go_sem ↓] Go.wp_at_zero Go.wp_at_succ

theorem wpList_append_run {P : Program} (w : World) {ops : Array Oper} {rest : List Oper} {o : Oper} {a : Act} {Q : Exit → Act → World → Prop} (hgd : o.guard = none) (s x : Operand) (t tx : TypeId)
    (ho : o.op = .call { callee := .builtin .append, args := #[s, x], argTypes := #[t, tx] }) {v xv v' : Value} {w' : World} (hv : a.eval s = v) (hx : a.eval x = xv) (hrun : (Builtin.append_ #[t, tx] o.type #[v, xv]).run P w = .ok v' w')
    (hK : wpList P ops Q rest (a.put o.dst v') w') : wpList P ops Q (o :: rest) a w := by
  refine wpList_plain hgd fun K hK' => ?_
  unfold Oper.wp
  simp [execOp, ho, resolve, invoke, builtin, hv, hx, hrun, Result.andThen]
  exact hK' _ _ hK
/-- The name's file is open, or an empty one. -/
theorem look_any {B : Nat} {w : World} {p : Nat} {left acts : Int} {L : List SF} {Ts : List Th} (h : Has B w (storeT p left acts L none :: Ts)) {s : ByteArray} (hs : s.size ≤ 9223372036854775807) :
    ∃ mb A c, w.cell? ⟨p, 0, none⟩ = some (.map (some mb)) ∧ (Instr.lookup 60 (.map (some mb)) (.string s) true).run Try.prog w = .ok (.tuple #[fv A ((findF L s.data.toList).getD zF) c, .bool (findF L s.data.toList).isSome]) w ∧
      Has B (w.alloc (.cells #[.slice A ((findF L s.data.toList).getD zF).f1.length c, .int .i64 ((findF L s.data.toList).getD zF).f2] 67)) (storeT p left acts L (some ⟨w.heap.size, (findF L s.data.toList).getD zF, A, c⟩) :: Ts) ∧ Below B w (w.alloc (.cells #[.slice A ((findF L s.data.toList).getD zF).f1.length c, .int .i64 ((findF L s.data.toList).getD zF).f2] 67)) := by
  cases hx : findF L s.data.toList with
  | none =>
    obtain ⟨mb, h1, h2, h3, h4⟩ := look_miss h hs hx
    exact ⟨mb, none, 0, h1, h2, h3, h4⟩
  | some x =>
    obtain ⟨mb, A, c, h1, h2, -, h3, h4⟩ := look_hit h hs hx true
    exact ⟨mb, A, c, h1, h2, h3, h4⟩
/-- Bytes more in the open file. -/
theorem open_app {B : Nat} {w : World} {p : Nat} {left acts : Int} {L : List SF} {q : Op} {Ts : List Th} (h : Has B w (storeT p left acts L (some q) :: Ts)) (ty : TypeId) {A2 : Option Addr} {c2 : Nat} {ys : List Int} (hC : Kd.C kB w A2 ys.length ys) (hm : q.x.f1.length + ys.length ≤ 100000000) :
    ∃ w1 A1 c1, (Builtin.append_ #[23, 23] ty #[.slice q.A q.x.f1.length q.x.f1.length, .slice A2 ys.length c2]).run Try.prog w = .ok (.slice A1 (q.x.f1 ++ ys).length c1) w1 ∧ w1.cell? ⟨q.b, 0, none⟩ = some (.slice q.A q.x.f1.length q.c) ∧ w1.frozen? ⟨q.b, 0, none⟩ = false ∧
      Has B (w1.setCell ⟨q.b, 0, none⟩ (.slice A1 (q.x.f1 ++ ys).length c1)) (storeT p left acts L (some ⟨q.b, ⟨q.x.f0, q.x.f1 ++ ys, q.x.f2⟩, A1, c1⟩) :: Ts) ∧ Below B w (w1.setCell ⟨q.b, 0, none⟩ (.slice A1 (q.x.f1 ++ ys).length c1)) := by
  obtain ⟨F, ⟨hF, mb, D, h1, h2, h3, h4, h5, h6, h7⟩, hFb, put⟩ := h.head
  have hq := h7 q rfl
  obtain ⟨v1, w1, A1, c1, hrun, hb, rfl, hc1, hy⟩ := full_append ty hq.bytes hC hm
  have hlt : ∀ k, F k → k < w.heap.size := fun k hk => (hFb k hk).2
  have hold : ∀ k, F k → w1.heap[k]? = w.heap[k]? := fun k hk => hb.block k (hlt k hk)
  have hbx : w1.heap[q.b]? = some (.cells #[.slice q.A q.x.f1.length q.c, .int .i64 q.x.f2] 67 (0, 0)) := (hold _ hq.mem).trans hq.box
  have hset := blk_set hbx 0 (.slice A1 (q.x.f1 ++ ys).length c1)
  have hfar : ∀ k, k ≠ q.b → (w1.setCell ⟨q.b, 0, none⟩ (.slice A1 (q.x.f1 ++ ys).length c1)).heap[k]? = w1.heap[k]? := fun k hk => Below.heap_setCell w1 ⟨q.b, 0, none⟩ _ k hk
  have hok : ∀ k, okk F p mb (some q) k → okk (fun k => (F k ∨ w.heap.size ≤ k) ∧ k < w1.heap.size) p mb (some ⟨q.b, ⟨q.x.f0, q.x.f1 ++ ys, q.x.f2⟩, A1, c1⟩) k := fun k hk => ⟨⟨.inl hk.1, Nat.lt_of_lt_of_le (hlt k hk.1) hb.size⟩, hk.2.1, hk.2.2.1, fun r e => by cases e; exact hk.2.2.2 q rfl⟩
  obtain ⟨p1, p2⟩ := put (w1.setCell ⟨q.b, 0, none⟩ (.slice A1 (q.x.f1 ++ ys).length c1)) (fun k => (F k ∨ w.heap.size ≤ k) ∧ k < w1.heap.size) (storeT p left acts L (some ⟨q.b, ⟨q.x.f0, q.x.f1 ++ ys, q.x.f2⟩, A1, c1⟩)) (((KeepF.of_below hb).setCell (.inl hq.mem) _))
    ⟨⟨.inl hF, Nat.lt_of_lt_of_le (hlt p hF) hb.size⟩, mb, D, ⟨.inl h1, Nat.lt_of_lt_of_le (hlt mb h1) hb.size⟩, h2, ((hfar p hq.nep.symm).trans (hold p hF)).trans h3, by
        obtain ⟨es, clock, hbm, r⟩ := h4
        exact ⟨es, clock, ((hfar mb hq.nem.symm).trans (hold mb h1)).trans hbm, r⟩, h5.step (fun k hk _ => (hfar k (hk.2.2.2 q rfl)).trans (hold k hk.1)) hok, h6, fun r e => by
      cases e
      refine ⟨⟨.inl hq.mem, Nat.lt_of_lt_of_le (hlt _ hq.mem) hb.size⟩, hq.nep, hq.nem, hset, hc1, ?_⟩
      have hne : ∀ k, okk F p mb (some q) k ∨ w.heap.size ≤ k → k ≠ q.b := fun k hk => hk.elim (fun hk => hk.2.2.2 q rfl) (fun hk e => by have := hlt _ hq.mem; omega)
      refine Kd.F_mono (Kd.F_step (Kd.F_bound hy) fun k hk _ => hfar k (hne k hk.1)) fun k hk => ?_
      rcases hk.1 with hk1 | hk1
      · exact hok k hk1
      · refine ⟨⟨.inr hk1, hk.2⟩, ?_, ?_, fun r e => by cases e; exact hne k hk.1⟩
        · have := hlt p hF
          omega
        · have := hlt mb h1
          omega⟩ (fun k hk => ⟨hk.1, by simpa using hk.2⟩)
  exact ⟨w1, A1, c1, hrun, by rw [blk_cell hbx]; rfl, blk_frozen hbx 0, p1, p2⟩
end Go.Proofs.Ytibnakpefjjoiaa.Fs
