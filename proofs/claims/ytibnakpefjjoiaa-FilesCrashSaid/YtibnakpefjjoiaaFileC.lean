/- A store of files: looked up, opened, put, deleted. No law is proved here. -/
import Derived.Test.YtibnakpefjjoiaaFileB
namespace Go.Proofs.Ytibnakpefjjoiaa.Fs
open Go.RowKit Go.Proofs.YtibnakpefjjoiaaW.PrintWords Go.Proofs.YtibnakpefjjoiaaW.PrintLast Go.Proofs.Ytibnakpefjjoiaa.Q Go.Proofs.Ytibnakpefjjoiaa.Own
set_option linter.unusedVariables false
set_option linter.unusedSimpArgs false

def zF : SF := ⟨⟨#[]⟩, [], 0⟩
theorem keyS {s : ByteArray} (hs : s.size ≤ 9223372036854775807) : keyOf Try.prog 9 (.string s) = some (.string s.data.toList) := Go.WideMaps.keyOf_string_mk Try.underlying9 (by unfold maxLen; exact hs)
theorem zeroF (w : World) : (zeroValue 67).run Try.prog w = .ok (.agg #[.slice none 0 0, .int .i64 0]) w := by kernel_rfl
theorem RV_inj {v u : Value} {ps : List MemPlace} (h : RV v = some (.held u, ps)) : v = u := by
  unfold RV at h
  injection h with h
  injection h with h
  injection h
theorem open_at {w : World} {F : Nat → Prop} {p mb : Nat} {left acts : Int} {L : List SF} {D : DataW Value} (q : Op) (hF : F p) (h1 : F mb) (h2 : mb ≠ p) (h3 : w.heap[p]? = some (.cells #[.map (some mb), .int .i64 left, .int .i64 acts] 62 (0, 0))) (h4 : w.ownsMap Try.prog 9 RV mb L.length D) (h5 : FilesAt w (okk F p mb none) D L) (h6 : Rise L)
    (hlt : ∀ k, F k → k < w.heap.size) (hb : q.b = w.heap.size) (hc : q.x.f1.length ≤ q.c) (hy : Kd.F kB w (okk F p mb none) q.A q.x.f1.length q.x.f1) :
    (storeT p left acts L (some q)).on (w.alloc (.cells #[.slice q.A q.x.f1.length q.c, .int .i64 q.x.f2] 67)) (fun k => F k ∨ k = w.heap.size) := by
  have hok : ∀ k, okk F p mb none k → okk (fun k => F k ∨ k = w.heap.size) p mb (some q) k := fun k hk => ⟨.inl hk.1, hk.2.1, hk.2.2.1, fun r e => by
    cases e
    rw [hb]
    have := hlt k hk.1
    omega⟩
  have hal : ∀ k, F k → (w.alloc (.cells #[.slice q.A q.x.f1.length q.c, .int .i64 q.x.f2] 67)).heap[k]? = w.heap[k]? := fun k hk => Below.heap_alloc w _ k (hlt k hk)
  refine ⟨.inl hF, mb, D, .inl h1, h2, (hal p hF).trans h3, h4.alloc _, h5.step (fun k hk _ => hal k hk.1) hok, h6, fun r e => ?_⟩
  cases e
  refine ⟨.inr hb, ?_, ?_, ?_, hc, Kd.F_mono (Kd.F_step hy fun k hk _ => hal k hk.1) hok⟩
  · rw [hb]
    have := hlt p hF
    omega
  · rw [hb]
    have := hlt mb h1
    omega
  · rw [hb]
    exact blk_new w _
/-- A name that is there is looked up; its box made, the file is open. -/
theorem look_hit {B : Nat} {w : World} {p : Nat} {left acts : Int} {L : List SF} {Ts : List Th} (h : Has B w (storeT p left acts L none :: Ts)) {s : ByteArray} (hs : s.size ≤ 9223372036854775807) {x : SF} (hx : findF L s.data.toList = some x) (ok : Bool) :
    ∃ mb A c, w.cell? ⟨p, 0, none⟩ = some (.map (some mb)) ∧ (Instr.lookup 60 (.map (some mb)) (.string s) true).run Try.prog w = .ok (.tuple #[fv A x c, .bool true]) w ∧ (Instr.lookup 60 (.map (some mb)) (.string s) false).run Try.prog w = .ok (fv A x c) w ∧
      Has B (w.alloc (.cells #[.slice A x.f1.length c, .int .i64 x.f2] 67)) (storeT p left acts L (some ⟨w.heap.size, x, A, c⟩) :: Ts) ∧ Below B w (w.alloc (.cells #[.slice A x.f1.length c, .int .i64 x.f2] 67)) := by
  obtain ⟨F, ⟨hF, mb, D, h1, h2, h3, h4, h5, h6, h7⟩, hFb, put⟩ := h.head
  obtain ⟨A, c, a1, a2, a3⟩ := h5.hit _ x hx
  have hh : Go.Maps.has D (.string s.data.toList) = true := by rw [h5.has, hx]; rfl
  obtain ⟨v, ps, hrun, hv⟩ := h4.look_ok lawK Try.underlying60 (zeroF w) (zd := .held (.agg #[.slice none 0 0, .int .i64 0])) (zp := []) rfl (keyS hs)
  obtain ⟨v2, ps2, hrun2, hv2⟩ := h4.lookup lawK Try.underlying60 (zeroF w) (zd := .held (.agg #[.slice none 0 0, .int .i64 0])) (zp := []) rfl (keyS hs)
  rw [a1] at hv hv2
  have e : v = fv A x c := RV_inj hv
  have e2 : v2 = fv A x c := RV_inj hv2
  rw [hh, e] at hrun
  rw [e2] at hrun2
  obtain ⟨p1, p2⟩ := put _ (fun k => F k ∨ k = w.heap.size) _ ((KeepF.refl F w).alloc _) (open_at ⟨w.heap.size, x, A, c⟩ hF h1 h2 h3 h4 h5 h6 (fun k hk => (hFb k hk).2) rfl a2 a3) (fun k hk => ⟨hk.imp id fun e => Nat.le_of_eq e.symm, by
    rw [World.size_alloc]
    rcases hk with hk | hk
    · have := (hFb k hk).2; omega
    · omega⟩)
  exact ⟨mb, A, c, by rw [blk_cell h3]; rfl, hrun, hrun2, p1, p2⟩
/-- A name that isn't there: the file that is open is empty. -/
theorem look_miss {B : Nat} {w : World} {p : Nat} {left acts : Int} {L : List SF} {Ts : List Th} (h : Has B w (storeT p left acts L none :: Ts)) {s : ByteArray} (hs : s.size ≤ 9223372036854775807) (hx : findF L s.data.toList = none) :
    ∃ mb, w.cell? ⟨p, 0, none⟩ = some (.map (some mb)) ∧ (Instr.lookup 60 (.map (some mb)) (.string s) true).run Try.prog w = .ok (.tuple #[.agg #[.slice none 0 0, .int .i64 0], .bool false]) w ∧
      Has B (w.alloc (.cells #[.slice none 0 0, .int .i64 0] 67)) (storeT p left acts L (some ⟨w.heap.size, zF, none, 0⟩) :: Ts) ∧ Below B w (w.alloc (.cells #[.slice none 0 0, .int .i64 0] 67)) := by
  obtain ⟨F, ⟨hF, mb, D, h1, h2, h3, h4, h5, h6, h7⟩, hFb, put⟩ := h.head
  have hh : Go.Maps.has D (.string s.data.toList) = false := by rw [h5.has, hx]; rfl
  obtain ⟨v, ps, hrun, hv⟩ := h4.look_ok lawK Try.underlying60 (zeroF w) (zd := .held (.agg #[.slice none 0 0, .int .i64 0])) (zp := []) rfl (keyS hs)
  rw [h5.miss _ hx] at hv
  have e : v = .agg #[.slice none 0 0, .int .i64 0] := RV_inj hv
  rw [hh, e] at hrun
  obtain ⟨p1, p2⟩ := put _ (fun k => F k ∨ k = w.heap.size) _ ((KeepF.refl F w).alloc _) (open_at ⟨w.heap.size, zF, none, 0⟩ hF h1 h2 h3 h4 h5 h6 (fun k hk => (hFb k hk).2) rfl (Nat.le_refl _) (Kd.F_nil _ _ _)) (fun k hk => ⟨hk.imp id fun e => Nat.le_of_eq e.symm, by
    rw [World.size_alloc]
    rcases hk with hk | hk
    · have := (hFb k hk).2; omega
    · omega⟩)
  exact ⟨mb, by rw [blk_cell h3]; rfl, hrun, p1, p2⟩
/-- Shut: the box is nobody's. -/
theorem store_shut {B : Nat} {w : World} {p : Nat} {left acts : Int} {L : List SF} {o : Option Op} {Ts : List Th} (h : Has B w (storeT p left acts L o :: Ts)) : Has B w (storeT p left acts L none :: Ts) := by
  obtain ⟨a, F, ⟨hF, mb, D, h1, h2, h3, h4, h5, h6, h7⟩, c, d⟩ := h
  exact ⟨a, F, ⟨hF, mb, D, h1, h2, h3, h4, h5.step (fun _ _ _ => rfl) (fun k hk => ⟨hk.1, hk.2.1, hk.2.2.1, fun q e => by cases e⟩), h6, fun q e => by cases e⟩, c, d⟩
theorem open_cells {B : Nat} {w : World} {p : Nat} {left acts : Int} {L : List SF} {q : Op} {Ts : List Th} (h : Has B w (storeT p left acts L (some q) :: Ts)) :
    w.cell? ⟨q.b, 0, none⟩ = some (.slice q.A q.x.f1.length q.c) ∧ w.cell? ⟨q.b, 1, none⟩ = some (.int .i64 q.x.f2) ∧ (∀ i, w.frozen? ⟨q.b, i, none⟩ = false) ∧ q.x.f1.length ≤ q.c ∧ Kd.C kB w q.A q.x.f1.length q.x.f1 := by
  obtain ⟨F, ⟨hF, mb, D, h1, h2, h3, h4, h5, h6, h7⟩, hFb, put⟩ := h.head
  have hq := h7 q rfl
  exact ⟨by rw [blk_cell hq.box]; rfl, by rw [blk_cell hq.box]; rfl, fun i => blk_frozen hq.box i, hq.le, Kd.F_now hq.bytes⟩
/-- The open file's box is turned. -/
theorem open_set {B : Nat} {w : World} {p : Nat} {left acts : Int} {L : List SF} {q : Op} {Ts : List Th} (h : Has B w (storeT p left acts L (some q) :: Ts)) :
    (∀ y : Int, Has B (w.setCell ⟨q.b, 1, none⟩ (.int .i64 y)) (storeT p left acts L (some ⟨q.b, ⟨q.x.f0, q.x.f1, y⟩, q.A, q.c⟩) :: Ts) ∧ Below B w (w.setCell ⟨q.b, 1, none⟩ (.int .i64 y))) ∧
    (∀ n : Nat, n ≤ q.x.f1.length → Has B (w.setCell ⟨q.b, 0, none⟩ (.slice q.A n q.c)) (storeT p left acts L (some ⟨q.b, ⟨q.x.f0, q.x.f1.take n, q.x.f2⟩, q.A, q.c⟩) :: Ts) ∧ Below B w (w.setCell ⟨q.b, 0, none⟩ (.slice q.A n q.c))) := by
  obtain ⟨F, ⟨hF, mb, D, h1, h2, h3, h4, h5, h6, h7⟩, hFb, put⟩ := h.head
  have hq := h7 q rfl
  have key : ∀ (i : Nat) (u : Value) (x' : SF), (#[.slice q.A q.x.f1.length q.c, .int .i64 q.x.f2] : Array Value).setIfInBounds i u = #[.slice q.A x'.f1.length q.c, .int .i64 x'.f2] → x'.f1.length ≤ q.c → (Kd.F kB w (okk F p mb (some q)) q.A x'.f1.length x'.f1) →
      Has B (w.setCell ⟨q.b, i, none⟩ u) (storeT p left acts L (some ⟨q.b, x', q.A, q.c⟩) :: Ts) ∧ Below B w (w.setCell ⟨q.b, i, none⟩ u) := by
    intro i u x' e hc hy
    have hset := blk_set hq.box i u
    rw [e] at hset
    have hok : ∀ k, okk F p mb (some q) k → okk F p mb (some ⟨q.b, x', q.A, q.c⟩) k := fun k hk => ⟨hk.1, hk.2.1, hk.2.2.1, fun r e => by cases e; exact hk.2.2.2 q rfl⟩
    have hfar : ∀ k, k ≠ q.b → (w.setCell ⟨q.b, i, none⟩ u).heap[k]? = w.heap[k]? := fun k hk => Below.heap_setCell w ⟨q.b, i, none⟩ u k hk
    refine put _ F _ ((KeepF.refl F w).setCell (.inl hq.mem) u) ⟨hF, mb, D, h1, h2, (hfar p hq.nep.symm).trans h3, h4.setCell (a := ⟨q.b, i, none⟩) hq.nem.symm u, h5.step (fun k hk _ => hfar k (hk.2.2.2 q rfl)) hok, h6, fun r e => ?_⟩ (fun k hk => ⟨.inl hk, by have := (hFb k hk).2; simpa using this⟩)
    cases e
    exact ⟨hq.mem, hq.nep, hq.nem, hset, hc, Kd.F_mono (Kd.F_step hy fun k hk _ => hfar k (hk.2.2.2 q rfl)) hok⟩
  refine ⟨fun y => key 1 _ ⟨q.x.f0, q.x.f1, y⟩ rfl hq.le hq.bytes, fun n hn => ?_⟩
  have hl : (q.x.f1.take n).length = n := by rw [List.length_take]; omega
  refine key 0 _ ⟨q.x.f0, q.x.f1.take n, q.x.f2⟩ ?_ ?_ (Kd.F_take hq.bytes hn)
  · show #[Value.slice q.A n q.c, .int .i64 q.x.f2] = #[Value.slice q.A (q.x.f1.take n).length q.c, .int .i64 q.x.f2]
    rw [hl]
  · show (q.x.f1.take n).length ≤ q.c
    have := hq.le
    omega
/-- The open file is put under a name. -/
theorem put_run {B : Nat} {w : World} {p : Nat} {left acts : Int} {L : List SF} {q : Op} {Ts : List Th} (h : Has B w (storeT p left acts L (some q) :: Ts)) {s : ByteArray} (hs : s.size ≤ 9223372036854775807) (hn : L.length < 1000000) :
    ∃ mb w', w.cell? ⟨p, 0, none⟩ = some (.map (some mb)) ∧ (Instr.mapUpdate 60 (.map (some mb)) (.string s) (fv q.A q.x q.c)).run Try.prog w = .ok () w' ∧
      Has B w' (storeT p left acts (setF L ⟨s, q.x.f1, q.x.f2⟩) (some q) :: Ts) ∧ Below B w w' := by
  obtain ⟨F, ⟨hF, mb, D, h1, h2, h3, h4, h5, h6, h7⟩, hFb, put⟩ := h.head
  have hq := h7 q rfl
  obtain ⟨w', hrun, ho, ht⟩ := h4.store lawK Try.underlying60 (by unfold maxLen; omega) (keyS hs) (val := fv q.A q.x q.c) (d := .held (fv q.A q.x q.c)) (ps := []) rfl
  have hfp := files_put h5 (h4.tidy lawK) h6 ⟨s, q.x.f1, q.x.f2⟩ (A := q.A) (c := q.c) hq.le hq.bytes
  have ho' := own_tight ho
  have hg := ht.grown
  have hfar : ∀ k, F k → k ≠ mb → w'.heap[k]? = w.heap[k]? := fun k hk hne => hg.block k (hFb k hk).2 (fun e => by injection e with e; exact hne e)
  obtain ⟨p1, p2⟩ := put w' F (storeT p left acts (setF L ⟨s, q.x.f1, q.x.f2⟩) (some q)) ((KeepF.refl F w).grown hg fun k e => by injection e with e; subst e; exact .inl h1)
    ⟨hF, mb, _, h1, h2, (hfar p hF h2.symm).trans h3, by rw [← hfp.size]; exact ho', hfp.step (fun k hk _ => hfar k hk.1 hk.2.2.1) (fun k hk => hk), set_rise h6 _, fun r e => by
      cases e
      exact ⟨hq.mem, hq.nep, hq.nem, (hfar _ hq.mem hq.nem).trans hq.box, hq.le, Kd.F_step hq.bytes fun k hk _ => hfar k hk.1 hk.2.2.1⟩⟩ (fun k hk => ⟨.inl hk, Nat.lt_of_lt_of_le (hFb k hk).2 hg.size⟩)
  exact ⟨mb, w', by rw [blk_cell h3]; rfl, hrun, p1, p2⟩
/-- A name is deleted. -/
theorem del_run {B : Nat} {w : World} {p : Nat} {left acts : Int} {L : List SF} {o : Option Op} {Ts : List Th} (h : Has B w (storeT p left acts L o :: Ts)) {s : ByteArray} (hs : s.size ≤ 9223372036854775807) (ty : TypeId) :
    ∃ mb w', w.cell? ⟨p, 0, none⟩ = some (.map (some mb)) ∧ (Builtin.delete_ #[60, 9] ty #[.map (some mb), .string s]).run Try.prog w = .ok (.tuple #[]) w' ∧
      Has B w' (storeT p left acts (cutF L s.data.toList) o :: Ts) ∧ Below B w w' := by
  obtain ⟨F, ⟨hF, mb, D, h1, h2, h3, h4, h5, h6, h7⟩, hFb, put⟩ := h.head
  obtain ⟨w', hrun, ho, ht⟩ := h4.drop lawK Try.underlying60 (keyS hs) ty
  have hfp := files_del h5 (h4.tidy lawK) h6 s.data.toList
  have ho' := own_tight ho
  have hg := ht.grown
  have hfar : ∀ k, F k → k ≠ mb → w'.heap[k]? = w.heap[k]? := fun k hk hne => hg.block k (hFb k hk).2 (fun e => by injection e with e; exact hne e)
  obtain ⟨p1, p2⟩ := put w' F (storeT p left acts (cutF L s.data.toList) o) ((KeepF.refl F w).grown hg fun k e => by injection e with e; subst e; exact .inl h1)
    ⟨hF, mb, _, h1, h2, (hfar p hF h2.symm).trans h3, by rw [← hfp.size]; exact ho', hfp.step (fun k hk _ => hfar k hk.1 hk.2.2.1) (fun k hk => hk), cut_rise h6 _, fun r e => ⟨(h7 r e).mem, (h7 r e).nep, (h7 r e).nem, (hfar _ (h7 r e).mem (h7 r e).nem).trans (h7 r e).box, (h7 r e).le, Kd.F_step (h7 r e).bytes fun k hk _ => hfar k hk.1 hk.2.2.1⟩⟩ (fun k hk => ⟨.inl hk, Nat.lt_of_lt_of_le (hFb k hk).2 hg.size⟩)
  exact ⟨mb, w', by rw [blk_cell h3]; rfl, hrun, p1, p2⟩
/-- How many files. -/
theorem len_run {B : Nat} {w : World} {p : Nat} {left acts : Int} {L : List SF} {o : Option Op} {Ts : List Th} (h : Has B w (storeT p left acts L o :: Ts)) (ty : TypeId) :
    ∃ mb, w.cell? ⟨p, 0, none⟩ = some (.map (some mb)) ∧ (Builtin.len_ #[60] ty #[.map (some mb)]).run Try.prog w = .ok (.int .i64 (L.length : Int)) w := by
  obtain ⟨F, ⟨hF, mb, D, h1, h2, h3, h4, h5, h6, h7⟩, hFb, put⟩ := h.head
  have hrun := h4.len Try.underlying60 ty
  rw [h5.size] at hrun
  exact ⟨mb, by rw [blk_cell h3]; rfl, hrun⟩
end Go.Proofs.Ytibnakpefjjoiaa.Fs
