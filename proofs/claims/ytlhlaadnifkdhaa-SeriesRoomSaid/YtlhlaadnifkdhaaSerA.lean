/- A store of series: the pair and its map, as a thing: made, looked up, put, deleted, counted. No law is proved here. -/
import Derived.Test.YtlhlaadnifkdhaaRingD
import Derived.Test.YtlhlaadnifkdhaaNmd
namespace Go.Proofs.Ytlhlaadnifkdhaa.Sr
open Go.RowKit Go.Proofs.YtlhlaadnifkdhaaW.PrintWords Go.Proofs.YtlhlaadnifkdhaaW.PrintLast Go.Proofs.YtlhlaadnifkdhaaW.PrintMore Go.Proofs.Ytlhlaadnifkdhaa.Q Go.Proofs.Ytlhlaadnifkdhaa.Own Go.Proofs.Ytlhlaadnifkdhaa.Nmd
set_option linter.unusedVariables false
set_option linter.unusedSimpArgs false
attribute [local go_sem ↓] Go.wp_at_zero Go.wp_at_succ

/-- An entry: its name, its ring, the place of its labels. -/
structure SE where
  name : ByteArray
  b : Nat
  hd : Option Addr × Nat × Nat
def keyE (x : SE) : List UInt8 := x.name.data.toList
def valE (x : SE) : Value := .agg #[ptr x.b, .slice x.hd.1 x.hd.2.1 x.hd.2.2]
theorem keyS {s : ByteArray} (hs : s.size ≤ 9223372036854775807) : keyOf Try.prog 9 (.string s) = some (.string s.data.toList) := Go.WideMaps.keyOf_string_mk Try.underlying9 (by unfold maxLen; exact hs)
theorem zeroE (w : World) : (zeroValue 72).run Try.prog w = .ok (.agg #[.pointer none, .slice none 0 0]) w := by kernel_rfl
theorem RV_inj {v u : Value} {ps : List MemPlace} (h : RV v = some (.held u, ps)) : v = u := by
  unfold RV at h
  injection h with h
  injection h with h
  injection h
theorem own_tight {H : Type} {P : Program} {k : TypeId} {R : Value → Option (DataW H × List MemPlace)} {w : World} {b n : Nat} {D : DataW H} (h : w.ownsMap P k R b n D) : w.ownsMap P k R b (Go.Maps.size D) D := by
  obtain ⟨es, clock, hb, F, _, rfl⟩ := h
  refine ⟨es, clock, hb, F, ?_, rfl⟩
  simp [Go.Maps.size, length_sorted]
def mapT (p : Nat) (es : List SE) : Th where
  on w F := F p ∧ ∃ mb D, F mb ∧ mb ≠ p ∧ w.heap[p]? = some (.cells #[.map (some mb)] 58 (0, 0)) ∧ w.ownsMap Try.prog 9 RV mb es.length D ∧ Tells keyE valE D es ∧ Rise keyE es
  loc := by
    rintro w w' F ⟨h0, mb, D, h1, h2, h3, ⟨es, clock, hb, r⟩, h5, h6⟩ hm
    exact ⟨h0, mb, D, h1, h2, (hm p h0).trans h3, ⟨es, clock, (hm mb h1).trans hb, r⟩, h5, h6⟩
section
variable {B : Nat} {w : World} {p : Nat} {es : List SE} {Ts : List Th}
theorem map_cell (h : Has B w Ts) (hm : mapT p es ∈ Ts) : ∃ mb, w.cell? ⟨p, 0, none⟩ = some (.map (some mb)) := by
  obtain ⟨F, ⟨hF, mb, D, h1, h2, h3, -⟩, -⟩ := h.mem hm
  exact ⟨mb, by rw [blk_cell h3]; rfl⟩
theorem map_rise (h : Has B w Ts) (hm : mapT p es ∈ Ts) : Rise keyE es := by
  obtain ⟨F, ⟨hF, mb, D, h1, h2, h3, h4, h5, h6⟩, -⟩ := h.mem hm
  exact h6
/-- A name is looked up. -/
theorem map_look (h : Has B w Ts) (hm : mapT p es ∈ Ts) {s : ByteArray} (hs : s.size ≤ 9223372036854775807) :
    ∃ mb, w.cell? ⟨p, 0, none⟩ = some (.map (some mb)) ∧ (∀ x, findF keyE es s.data.toList = some x → (Instr.lookup 56 (.map (some mb)) (.string s) true).run Try.prog w = .ok (.tuple #[valE x, .bool true]) w ∧ (Instr.lookup 56 (.map (some mb)) (.string s) false).run Try.prog w = .ok (valE x) w) ∧
      (findF keyE es s.data.toList = none → (Instr.lookup 56 (.map (some mb)) (.string s) true).run Try.prog w = .ok (.tuple #[.agg #[.pointer none, .slice none 0 0], .bool false]) w) := by
  obtain ⟨F, ⟨hF, mb, D, h1, h2, h3, h4, h5, h6⟩, -⟩ := h.mem hm
  obtain ⟨v, ps, hrun, hv⟩ := h4.look_ok lawK Try.underlying56 (zeroE w) (zd := .held (.agg #[.pointer none, .slice none 0 0])) (zp := []) rfl (keyS hs)
  obtain ⟨v2, ps2, hrun2, hv2⟩ := h4.lookup lawK Try.underlying56 (zeroE w) (zd := .held (.agg #[.pointer none, .slice none 0 0])) (zp := []) rfl (keyS hs)
  refine ⟨mb, by rw [blk_cell h3]; rfl, fun x hx => ?_, fun hx => ?_⟩
  · have hh : Go.Maps.has D (.string s.data.toList) = true := by rw [h5.has, hx]; rfl
    rw [h5.hit _ x hx] at hv hv2
    rw [hh, RV_inj hv] at hrun
    rw [RV_inj hv2] at hrun2
    exact ⟨hrun, hrun2⟩
  · have hh : Go.Maps.has D (.string s.data.toList) = false := by rw [h5.has, hx]; rfl
    rw [h5.miss _ hx] at hv
    rw [hh, RV_inj hv] at hrun
    exact hrun
theorem map_len (h : Has B w Ts) (hm : mapT p es ∈ Ts) (ty : TypeId) : ∃ mb, w.cell? ⟨p, 0, none⟩ = some (.map (some mb)) ∧ (Builtin.len_ #[56] ty #[.map (some mb)]).run Try.prog w = .ok (.int .i64 (es.length : Int)) w := by
  obtain ⟨F, ⟨hF, mb, D, h1, h2, h3, h4, h5, h6⟩, -⟩ := h.mem hm
  have hrun := h4.len Try.underlying56 ty
  rw [h5.size] at hrun
  exact ⟨mb, by rw [blk_cell h3]; rfl, hrun⟩
theorem map_put (h : Has B w (mapT p es :: Ts)) {s : ByteArray} (hs : s.size ≤ 9223372036854775807) (hn : es.length < 1000000) (x : SE) (hx : x.name = s) :
    ∃ mb w', w.cell? ⟨p, 0, none⟩ = some (.map (some mb)) ∧ (Instr.mapUpdate 56 (.map (some mb)) (.string s) (valE x)).run Try.prog w = .ok () w' ∧ Has B w' (mapT p (setF keyE es x) :: Ts) ∧ Below B w w' := by
  subst hx
  obtain ⟨F, ⟨hF, mb, D, h1, h2, h3, h4, h5, h6⟩, hFb, put⟩ := h.head
  obtain ⟨w', hrun, ho, ht⟩ := h4.store lawK Try.underlying56 (by unfold maxLen; omega) (keyS hs) (val := valE x) (d := .held (valE x)) (ps := []) rfl
  have hfp := tells_put h5 (h4.tidy lawK) h6 x
  have ho' := own_tight ho
  have hg := ht.grown
  have hfar : ∀ k, F k → k ≠ mb → w'.heap[k]? = w.heap[k]? := fun k hk hne => hg.block k (hFb k hk).2 (fun e => by injection e with e; exact hne e)
  obtain ⟨p1, p2⟩ := put w' F (mapT p (setF keyE es x)) ((KeepF.refl F w).grown hg fun k e => by injection e with e; subst e; exact .inl h1)
    ⟨hF, mb, _, h1, h2, (hfar p hF h2.symm).trans h3, by rw [← hfp.size]; exact ho', hfp, set_rise h6 _⟩ (fun k hk => ⟨.inl hk, Nat.lt_of_lt_of_le (hFb k hk).2 hg.size⟩)
  exact ⟨mb, w', by rw [blk_cell h3]; rfl, hrun, p1, p2⟩
theorem map_del (h : Has B w (mapT p es :: Ts)) {s : ByteArray} (hs : s.size ≤ 9223372036854775807) (ty : TypeId) :
    ∃ mb w', w.cell? ⟨p, 0, none⟩ = some (.map (some mb)) ∧ (Builtin.delete_ #[56, 9] ty #[.map (some mb), .string s]).run Try.prog w = .ok (.tuple #[]) w' ∧ Has B w' (mapT p (cutF keyE es s.data.toList) :: Ts) ∧ Below B w w' := by
  obtain ⟨F, ⟨hF, mb, D, h1, h2, h3, h4, h5, h6⟩, hFb, put⟩ := h.head
  obtain ⟨w', hrun, ho, ht⟩ := h4.drop lawK Try.underlying56 (keyS hs) ty
  have hfp := tells_del h5 (h4.tidy lawK) h6 s.data.toList
  have ho' := own_tight ho
  have hg := ht.grown
  have hfar : ∀ k, F k → k ≠ mb → w'.heap[k]? = w.heap[k]? := fun k hk hne => hg.block k (hFb k hk).2 (fun e => by injection e with e; exact hne e)
  obtain ⟨p1, p2⟩ := put w' F (mapT p (cutF keyE es s.data.toList)) ((KeepF.refl F w).grown hg fun k e => by injection e with e; subst e; exact .inl h1)
    ⟨hF, mb, _, h1, h2, (hfar p hF h2.symm).trans h3, by rw [← hfp.size]; exact ho', hfp, cut_rise h6 _⟩ (fun k hk => ⟨.inl hk, Nat.lt_of_lt_of_le (hFb k hk).2 hg.size⟩)
  exact ⟨mb, w', by rw [blk_cell h3]; rfl, hrun, p1, p2⟩
set_option maxRecDepth 100000 in
theorem snone_calls (h : Has B w Ts) (hm : mapT p es ∈ Ts) : Calls Try.prog 26 #[ptr p] w fun e w' => e = .returned (.bool false) ∧ w = w' := by
  obtain ⟨mb, c0⟩ := map_cell h hm
  clear h hm
  have hq : ∀ w : World, (binOp .eql 56 (.map (some mb)) (.map none)).run Try.prog w = .ok (.bool false) w := fun w => by kernel_rfl
  go_enter Try.func26, Try.ntmps26
  go_wp2_with fail
  go_ret
  exact ⟨rfl, rfl⟩
set_option maxRecDepth 100000 in
theorem slen_calls (h : Has B w Ts) (hm : mapT p es ∈ Ts) : Calls Try.prog 11 #[ptr p] w fun e w' => e = .returned (.int .i64 (es.length : Int)) ∧ w = w' := by
  have HN := Aside0.mk (snone_calls h hm)
  obtain ⟨mb, c0, hlen⟩ := map_len h hm 3
  clear h hm
  go_enter Try.func11, Try.ntmps11
  go_wp2_with fail
  refine HN.out.mono ?_
  rintro e w1 ⟨rfl, rfl⟩
  go_wp2_with fail
  go_ret
  exact ⟨rfl, rfl⟩
set_option maxHeartbeats 1000000 in
set_option maxRecDepth 100000 in
theorem snew_calls (h : Has B w Ts) : Calls Try.prog 8 #[] w fun e w' => ∃ p, e = .returned (ptr p) ∧ Has B w' (mapT p [] :: Ts) ∧ Below B w w' := by
  have hb : Below w.heap.size w ((w.alloc (.map #[] 0)).alloc (.cells #[.map (some w.heap.size)] 58)) := ((Below.refl _ w).alloc (Nat.le_refl _) _).alloc (by simp) _
  have HF : Aside0 (Has B ((w.alloc (.map #[] 0)).alloc (.cells #[.map (some w.heap.size)] 58)) (mapT (w.heap.size + 1) [] :: Ts) ∧ Below B w ((w.alloc (.map #[] 0)).alloc (.cells #[.map (some w.heap.size)] 58))) := ⟨by
    refine ⟨h.new hb (F := fun k => k = w.heap.size ∨ k = w.heap.size + 1) ⟨.inr rfl, w.heap.size, .map [], .inl rfl, by omega, ?_, ?_, tells_start, List.Pairwise.nil⟩ (fun k hk => by
      rw [World.size_alloc, World.size_alloc]
      omega), hb.mono h.size⟩
    · have := blk_new (w.alloc (.map #[] 0)) (.cells #[.map (some w.heap.size)] 58)
      rw [World.size_alloc] at this
      exact this
    · exact (World.ownsMap_made w Try.prog 9 RV).alloc _⟩
  have hmk : (Instr.makeMap 56 none).run Try.prog w = .ok (.map (some w.heap.size)) (w.alloc (.map #[] 0)) := rfl
  clear h hb
  go_enter Try.func8, Try.ntmps8
  go_wp2_with fail
  go_ret
  exact ⟨_, rfl, HF.out.1, HF.out.2⟩
end
end Go.Proofs.Ytlhlaadnifkdhaa.Sr
