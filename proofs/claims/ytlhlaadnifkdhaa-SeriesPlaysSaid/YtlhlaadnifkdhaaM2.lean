/- A store of series: the pair and its map, as a thing: made, looked up, put, deleted, counted. No law is proved here. (with what is built on it) -/
import Derived.Test.YtlhlaadnifkdhaaM1
import Derived.Test.YtlhlaadnifkdhaaNmd
import Derived.Test.YtlhlaadnifkdhaaQ9
import Derived.Test.YtlhlaadnifkdhaaQ11
import Derived.Test.YtlhlaadnifkdhaaQ6
import Derived.Test.YtlhlaadnifkdhaaQ5
import Derived.Test.YtlhlaadnifkdhaaQ4
import Derived.Test.YtlhlaadnifkdhaaQ3
import Derived.Maps.RangeWalk
namespace Go.Proofs.Ytlhlaadnifkdhaa.Sr
open Go.RowKit Go.Proofs.YtlhlaadnifkdhaaW.PrintWords Go.Proofs.YtlhlaadnifkdhaaW.PrintLast Go.Proofs.YtlhlaadnifkdhaaW.PrintMore Go.Proofs.Ytlhlaadnifkdhaa.Q Go.Proofs.Ytlhlaadnifkdhaa.Own Go.Proofs.Ytlhlaadnifkdhaa.Nmd
set_option linter.unusedVariables false
set_option linter.unusedSimpArgs false
attribute [local go_sem ↓] Go.wp_at_zero Go.wp_at_succ

/-- An entry: its name, its ring, the place of its labels. -/
structure SE where
  name : ByteArray
  b : Nat
  hd : Option Addr × Nat × Nat
def keyE (x : SE) : List UInt8 := x.name.data.toList
def valE (x : SE) : Value := .agg #[ptr x.b, .slice x.hd.1 x.hd.2.1 x.hd.2.2]
theorem keyS {s : ByteArray} (hs : s.size ≤ 9223372036854775807) : keyOf Try.prog 9 (.string s) = some (.string s.data.toList) := Go.WideMaps.keyOf_string_mk Try.underlying9 (by unfold maxLen; exact hs)
theorem zeroE (w : World) : (zeroValue 72).run Try.prog w = .ok (.agg #[.pointer none, .slice none 0 0]) w := by kernel_rfl
theorem RV_inj {v u : Value} {ps : List MemPlace} (h : RV v = some (.held u, ps)) : v = u := by
  unfold RV at h
  injection h with h
  injection h with h
  injection h
theorem own_tight {H : Type} {P : Program} {k : TypeId} {R : Value → Option (DataW H × List MemPlace)} {w : World} {b n : Nat} {D : DataW H} (h : w.ownsMap P k R b n D) : w.ownsMap P k R b (Go.Maps.size D) D := by
  obtain ⟨es, clock, hb, F, _, rfl⟩ := h
  refine ⟨es, clock, hb, F, ?_, rfl⟩
  simp [Go.Maps.size, length_sorted]
def mapT (p : Nat) (es : List SE) : Th where
  on w F := F p ∧ ∃ mb D, F mb ∧ mb ≠ p ∧ w.heap[p]? = some (.cells #[.map (some mb)] 58 (0, 0)) ∧ w.ownsMap Try.prog 9 RV mb es.length D ∧ Tells keyE valE D es ∧ Rise keyE es
  loc := by
    rintro w w' F ⟨h0, mb, D, h1, h2, h3, ⟨es, clock, hb, r⟩, h5, h6⟩ hm
    exact ⟨h0, mb, D, h1, h2, (hm p h0).trans h3, ⟨es, clock, (hm mb h1).trans hb, r⟩, h5, h6⟩
section
variable {B : Nat} {w : World} {p : Nat} {es : List SE} {Ts : List Th}
theorem map_cell (h : Has B w Ts) (hm : mapT p es ∈ Ts) : ∃ mb, w.cell? ⟨p, 0, none⟩ = some (.map (some mb)) := by
  obtain ⟨F, ⟨hF, mb, D, h1, h2, h3, -⟩, -⟩ := h.mem hm
  exact ⟨mb, by rw [blk_cell h3]; rfl⟩
theorem map_rise (h : Has B w Ts) (hm : mapT p es ∈ Ts) : Rise keyE es := by
  obtain ⟨F, ⟨hF, mb, D, h1, h2, h3, h4, h5, h6⟩, -⟩ := h.mem hm
  exact h6
/-- A name is looked up. -/
theorem map_look (h : Has B w Ts) (hm : mapT p es ∈ Ts) {s : ByteArray} (hs : s.size ≤ 9223372036854775807) :
    ∃ mb, w.cell? ⟨p, 0, none⟩ = some (.map (some mb)) ∧ (∀ x, findF keyE es s.data.toList = some x → (Instr.lookup 56 (.map (some mb)) (.string s) true).run Try.prog w = .ok (.tuple #[valE x, .bool true]) w ∧ (Instr.lookup 56 (.map (some mb)) (.string s) false).run Try.prog w = .ok (valE x) w) ∧
      (findF keyE es s.data.toList = none → (Instr.lookup 56 (.map (some mb)) (.string s) true).run Try.prog w = .ok (.tuple #[.agg #[.pointer none, .slice none 0 0], .bool false]) w) := by
  obtain ⟨F, ⟨hF, mb, D, h1, h2, h3, h4, h5, h6⟩, -⟩ := h.mem hm
  obtain ⟨v, ps, hrun, hv⟩ := h4.look_ok lawK Try.underlying56 (zeroE w) (zd := .held (.agg #[.pointer none, .slice none 0 0])) (zp := []) rfl (keyS hs)
  obtain ⟨v2, ps2, hrun2, hv2⟩ := h4.lookup lawK Try.underlying56 (zeroE w) (zd := .held (.agg #[.pointer none, .slice none 0 0])) (zp := []) rfl (keyS hs)
  refine ⟨mb, by rw [blk_cell h3]; rfl, fun x hx => ?_, fun hx => ?_⟩
  · have hh : Go.Maps.has D (.string s.data.toList) = true := by rw [h5.has, hx]; rfl
    rw [h5.hit _ x hx] at hv hv2
    rw [hh, RV_inj hv] at hrun
    rw [RV_inj hv2] at hrun2
    exact ⟨hrun, hrun2⟩
  · have hh : Go.Maps.has D (.string s.data.toList) = false := by rw [h5.has, hx]; rfl
    rw [h5.miss _ hx] at hv
    rw [hh, RV_inj hv] at hrun
    exact hrun
theorem map_len (h : Has B w Ts) (hm : mapT p es ∈ Ts) (ty : TypeId) : ∃ mb, w.cell? ⟨p, 0, none⟩ = some (.map (some mb)) ∧ (Builtin.len_ #[56] ty #[.map (some mb)]).run Try.prog w = .ok (.int .i64 (es.length : Int)) w := by
  obtain ⟨F, ⟨hF, mb, D, h1, h2, h3, h4, h5, h6⟩, -⟩ := h.mem hm
  have hrun := h4.len Try.underlying56 ty
  rw [h5.size] at hrun
  exact ⟨mb, by rw [blk_cell h3]; rfl, hrun⟩
theorem map_put (h : Has B w (mapT p es :: Ts)) {s : ByteArray} (hs : s.size ≤ 9223372036854775807) (hn : es.length < 1000000) (x : SE) (hx : x.name = s) :
    ∃ mb w', w.cell? ⟨p, 0, none⟩ = some (.map (some mb)) ∧ (Instr.mapUpdate 56 (.map (some mb)) (.string s) (valE x)).run Try.prog w = .ok () w' ∧ Has B w' (mapT p (setF keyE es x) :: Ts) ∧ Below B w w' := by
  subst hx
  obtain ⟨F, ⟨hF, mb, D, h1, h2, h3, h4, h5, h6⟩, hFb, put⟩ := h.head
  obtain ⟨w', hrun, ho, ht⟩ := h4.store lawK Try.underlying56 (by unfold maxLen; omega) (keyS hs) (val := valE x) (d := .held (valE x)) (ps := []) rfl
  have hfp := tells_put h5 (h4.tidy lawK) h6 x
  have ho' := own_tight ho
  have hg := ht.grown
  have hfar : ∀ k, F k → k ≠ mb → w'.heap[k]? = w.heap[k]? := fun k hk hne => hg.block k (hFb k hk).2 (fun e => by injection e with e; exact hne e)
  obtain ⟨p1, p2⟩ := put w' F (mapT p (setF keyE es x)) ((KeepF.refl F w).grown hg fun k e => by injection e with e; subst e; exact .inl h1)
    ⟨hF, mb, _, h1, h2, (hfar p hF h2.symm).trans h3, by rw [← hfp.size]; exact ho', hfp, set_rise h6 _⟩ (fun k hk => ⟨.inl hk, Nat.lt_of_lt_of_le (hFb k hk).2 hg.size⟩)
  exact ⟨mb, w', by rw [blk_cell h3]; rfl, hrun, p1, p2⟩
set_option maxRecDepth 100000 in
theorem snone_calls (h : Has B w Ts) (hm : mapT p es ∈ Ts) : Calls Try.prog 26 #[ptr p] w fun e w' => e = .returned (.bool false) ∧ w = w' := by
  obtain ⟨mb, c0⟩ := map_cell h hm
  clear h hm
  have hq : ∀ w : World, (binOp .eql 56 (.map (some mb)) (.map none)).run Try.prog w = .ok (.bool false) w := fun w => by kernel_rfl
  go_enter Try.func26, Try.ntmps26
  go_wp2_with fail
  go_ret
  exact ⟨rfl, rfl⟩
set_option maxRecDepth 100000 in
theorem slen_calls (h : Has B w Ts) (hm : mapT p es ∈ Ts) : Calls Try.prog 11 #[ptr p] w fun e w' => e = .returned (.int .i64 (es.length : Int)) ∧ w = w' := by
  have HN := Aside0.mk (snone_calls h hm)
  obtain ⟨mb, c0, hlen⟩ := map_len h hm 3
  clear h hm
  go_enter Try.func11, Try.ntmps11
  go_wp2_with fail
  refine HN.out.mono ?_
  rintro e w1 ⟨rfl, rfl⟩
  go_wp2_with fail
  go_ret
  exact ⟨rfl, rfl⟩
set_option maxHeartbeats 1000000 in
set_option maxRecDepth 100000 in
theorem snew_calls (h : Has B w Ts) : Calls Try.prog 8 #[] w fun e w' => ∃ p, e = .returned (ptr p) ∧ Has B w' (mapT p [] :: Ts) ∧ Below B w w' := by
  have hb : Below w.heap.size w ((w.alloc (.map #[] 0)).alloc (.cells #[.map (some w.heap.size)] 58)) := ((Below.refl _ w).alloc (Nat.le_refl _) _).alloc (by simp) _
  have HF : Aside0 (Has B ((w.alloc (.map #[] 0)).alloc (.cells #[.map (some w.heap.size)] 58)) (mapT (w.heap.size + 1) [] :: Ts) ∧ Below B w ((w.alloc (.map #[] 0)).alloc (.cells #[.map (some w.heap.size)] 58))) := ⟨by
    refine ⟨h.new hb (F := fun k => k = w.heap.size ∨ k = w.heap.size + 1) ⟨.inr rfl, w.heap.size, .map [], .inl rfl, by omega, ?_, ?_, tells_start, List.Pairwise.nil⟩ (fun k hk => by
      rw [World.size_alloc, World.size_alloc]
      omega), hb.mono h.size⟩
    · have := blk_new (w.alloc (.map #[] 0)) (.cells #[.map (some w.heap.size)] 58)
      rw [World.size_alloc] at this
      exact this
    · exact (World.ownsMap_made w Try.prog 9 RV).alloc _⟩
  have hmk : (Instr.makeMap 56 none).run Try.prog w = .ok (.map (some w.heap.size)) (w.alloc (.map #[] 0)) := rfl
  clear h hb
  go_enter Try.func8, Try.ntmps8
  go_wp2_with fail
  go_ret
  exact ⟨_, rfl, HF.out.1, HF.out.2⟩
end
end Go.Proofs.Ytlhlaadnifkdhaa.Sr
namespace Go.Proofs.Ytlhlaadnifkdhaa.Sr
open Go.RowKit Go.Proofs.YtlhlaadnifkdhaaW.PrintWords Go.Proofs.YtlhlaadnifkdhaaW.PrintLast Go.Proofs.YtlhlaadnifkdhaaW.PrintMore Go.Proofs.Ytlhlaadnifkdhaa.Q Go.Proofs.Ytlhlaadnifkdhaa.Own Go.Proofs.Ytlhlaadnifkdhaa.Nmd
set_option linter.unusedVariables false
set_option linter.unusedSimpArgs false
attribute [local go_sem ↓] Go.wp_at_zero Go.wp_at_succ

abbrev LB := S31
abbrev kL : Kd LB := k31
abbrev rowL (v : Value) (l : List LB) : Th := rowT kL 31 v l
theorem infL : (Try.prog.info? 31).map (fun i => (i.zero, i.size, i.bytes)) = some (some (.agg #[.string ⟨#[]⟩, .string ⟨#[]⟩]), 2, 32) := by kernel_rfl
theorem kL_KM {W : World} {base : Nat} {ok : Nat → Prop} (x : LB) (cs : List Value) (h : kL.K W x cs) : kL.M W base ok x cs := by
  rw [k31_open h]
  exact k31_mkM _ _ _ x
set_option maxHeartbeats 1000000 in
set_option maxRecDepth 100000 in
theorem clone_calls {B : Nat} {w : World} {Ts : List Th} (h : Has B w Ts) {A : Option Addr} {c : Nat} {l : List LB} (hC : ∀ w', Below w.heap.size w w' → Kd.C kL w' A l.length l) (hm : l.length ≤ 1000000) :
    Calls Try.prog 30 #[.slice A l.length c] w fun e w' => ∃ v, e = .returned v ∧ Has B w' (rowL v l :: Ts) ∧ Below B w w' := by
  have HC := Aside0.mk hC
  have HM := Aside0.mk hm
  have HH := Aside0.mk h
  cases A with
  | none =>
    have hx : l = [] := by
      rcases l with _ | ⟨y, l⟩
      · rfl
      · obtain ⟨ad, e, _⟩ := (hC w (Below.refl _ _)).2.2 (by simp)
        cases e
    subst hx
    clear hC h hm
    have huf : ∀ W : World, (binOp .eql 32 (.slice none 0 c) (.slice none 0 0)).run Try.prog W = .ok (.bool true) W := fun W => by kernel_rfl
    go_enter Try.func30, Try.ntmps30
    go_wp2_with fail
    go_ret
    exact ⟨_, rfl, row_nil kL HH.out 31, Below.refl _ _⟩
  | some ad =>
    have HE := Aside0.mk (lit_0 kL h 31)
    have HB : Aside0 (Below B w (w.alloc (.cells #[] 31))) := ⟨(Below.refl _ w).alloc h.size _⟩
    have HC1 := Aside0.mk (hC (w.alloc (.cells #[] 31)) ((Below.refl _ w).alloc (Nat.le_refl _) _))
    have huf : ∀ W : World, (binOp .eql 32 (.slice (some ad) l.length c) (.slice none 0 0)).run Try.prog W = .ok (.bool false) W := fun W => by kernel_rfl
    clear hC h hm
    go_enter Try.func30, Try.ntmps30
    go_wp2_with (refine rows_app kL HE.out rfl _ _ 32 (.agg #[.string ⟨#[]⟩, .string ⟨#[]⟩]) 32 rfl Try.underlying32 infL rfl (by decide) (by decide) (some ad) c rfl rfl HC1.out (fun x cs hx => kL_KM x cs hx) (by show (0 + l.length) * 32 ≤ 140737488355328; have := HM.out; omega) ?_; rintro v1 w1 hA1 hB1; have HA1 : Aside0 (Has B w1 (rowL v1 l :: Ts)) := ⟨hA1⟩; have HB1 := Aside0.mk (HB.out.trans hB1); clear hA1 hB1)
    go_ret
    exact ⟨v1, rfl, HA1.out, HB1.out⟩
end Go.Proofs.Ytlhlaadnifkdhaa.Sr
namespace Go.Proofs.Ytlhlaadnifkdhaa.Pure
open Go.RowKit Go.Proofs.YtlhlaadnifkdhaaW.PrintWords Go.Proofs.YtlhlaadnifkdhaaW.PrintLast Go.Proofs.Ytlhlaadnifkdhaa.Q
set_option linter.unusedVariables false
set_option linter.unusedSimpArgs false

theorem rd_drop (l : List S31) (k : Nat) (h : k < l.length) : l.drop k = rd_T31 l (k : Int) :: l.drop (k + 1) := by
  rw [List.drop_eq_getElem_cons h]
  simp [rd_T31, List.getElem?_eq_getElem h]
theorem toNat_succ {x : Int} (h : 0 ≤ x) : (x + 1).toNat = x.toNat + 1 := by omega
def str (l : List UInt8) : ByteArray := ⟨l.toArray⟩
set_option linter.unusedSimpArgs false

theorem w64 {x : Int} (h0 : -9223372036854775808 ≤ x) (h1 : x ≤ 9223372036854775807) : wrap64 x = x := by unfold wrap64; omega

theorem ev_pos {α : Type} {c : Prop} [Decidable c] {A B : Nat → Option α} {r : α} (hc : c) (h : Ev A r) : Ev (fun k => if c then A k else B k) r := Ev.congr (fun _ => if_pos hc) h
theorem ev_neg {α : Type} {c : Prop} [Decidable c] {A B : Nat → Option α} {r : α} (hc : ¬ c) (h : Ev B r) : Ev (fun k => if c then A k else B k) r := Ev.congr (fun _ => if_neg hc) h
theorem ev_some {α : Type} {a r : α} (h : a = r) : Ev (fun _ => some a) r := by rw [h]; exact Ev.now _
theorem ev_bsome {α β : Type} {a : α} {F : Nat → α → Option β} {r : β} (h : Ev (fun k => F k a) r) : Ev (fun k => (some a).bind (F k)) r := h
def Small (l : List S31) : Prop := l.length ≤ 100 ∧ ∀ y ∈ l, y.f0.size ≤ 5000 ∧ y.f1.size ≤ 5000
theorem rd_mem {l : List S31} {x : Int} (h0 : 0 ≤ x) (h1 : x < l.length) : rd_T31 l x ∈ l := by
  unfold rd_T31
  have h : x.toNat < l.length := by omega
  rw [List.getD_eq_getElem?_getD, List.getElem?_eq_getElem h]
  exact List.getElem_mem h
def allFrom (p : Int → Bool) (s : ByteArray) (x : Int) : Bool := (s.data.toList.drop x.toNat).all fun b => p b.toNat
theorem bt_nat (s : ByteArray) (x : Int) (h0 : 0 ≤ x) (h : x < s.size) : ∃ h2 : x.toNat < s.data.toList.length, bt s x = ((s.data.toList[x.toNat]'h2).toNat : Int) := by
  have h2 : x.toNat < s.data.toList.length := by rw [data_length]; omega
  refine ⟨h2, ?_⟩
  have := bt_list s x.toNat h2
  rwa [Int.toNat_of_nonneg h0] at this
theorem drop_bt (s : ByteArray) (x : Int) (h0 : 0 ≤ x) (h : x < s.size) : ∃ c : UInt8, bt s x = (c.toNat : Int) ∧ s.data.toList.drop x.toNat = c :: s.data.toList.drop (x + 1).toNat := by
  obtain ⟨h2, hb⟩ := bt_nat s x h0 h
  exact ⟨_, hb, by rw [toNat_succ h0]; exact List.drop_eq_getElem_cons h2⟩
theorem drop_end (s : ByteArray) (x : Int) (h : ¬ x < s.size) : s.data.toList.drop x.toNat = [] := List.drop_eq_nil_of_le (by rw [data_length]; omega)
theorem all_step (p : Int → Bool) (s : ByteArray) (x : Int) (h0 : 0 ≤ x) (h : x < s.size) : allFrom p s x = (p (bt s x) && allFrom p s (x + 1)) := by
  obtain ⟨c, hc, hd⟩ := drop_bt s x h0 h
  unfold allFrom
  rw [hd, hc]
  rfl
theorem all_end (p : Int → Bool) (s : ByteArray) (x : Int) (h : ¬ x < s.size) : allFrom p s x = true := by
  unfold allFrom
  rw [drop_end s x h]
  rfl
theorem mark_cases (c : Int) : markB c = true ↔ (c ≥ 97 ∧ c ≤ 122) ∨ (c ≥ 48 ∧ c ≤ 57) ∨ c = 95 := by
  unfold markB letterB
  simp only [Bool.or_eq_true, Bool.and_eq_true, decide_eq_true_eq, beq_iff_eq]
  constructor
  · rintro ((⟨a, b⟩ | ⟨a, b⟩) | a)
    · exact .inl ⟨a, b⟩
    · exact .inr (.inl ⟨a, b⟩)
    · exact .inr (.inr a)
  · rintro (⟨a, b⟩ | ⟨a, b⟩ | a)
    · exact .inl (.inl ⟨a, b⟩)
    · exact .inl (.inr ⟨a, b⟩)
    · exact .inr a
theorem name_ev (s : ByteArray) (hs : s.size ≤ 9223372036854775807) : ∀ (d : Nat) (x : Int), 0 ≤ x → x ≤ s.size → (s.size : Int) - x = d → Ev (fun k => tocsinref07_MayName.l0 k s x) (allFrom markB s x) := by
  intro d
  induction d with
  | zero =>
    intro x h0 h1 hd
    rw [all_end _ _ _ (by omega)]
    apply Ev.step
    · intro k
      rw [tocsinref07_MayName.l0, if_neg (by omega)]
    · exact Ev.now _
  | succ d ih =>
    intro x h0 h1 hd
    have hx : x < s.size := by omega
    rw [all_step _ _ _ h0 hx]
    have hm := mark_cases (bt s x)
    have hn := ih (x + 1) (by omega) (by omega) (by omega)
    cases hb : markB (bt s x) with
    | true =>
      rw [hb] at hm
      have hm := hm.1 rfl
      rw [Bool.true_and]
      apply Ev.step (f := fun k => tocsinref07_MayName.l0 k s (x + 1))
      · intro k
        rw [tocsinref07_MayName.l0, if_pos hx, if_pos h0, w64 (by omega) (by omega)]
        repeat' split
        all_goals first | rfl | (exfalso; omega)
      · exact hn
    | false =>
      rw [hb] at hm
      have hm : ¬ ((bt s x ≥ 97 ∧ bt s x ≤ 122) ∨ (bt s x ≥ 48 ∧ bt s x ≤ 57) ∨ bt s x = 95) := fun h => by cases hm.2 h
      rw [Bool.false_and]
      apply Ev.step (f := fun k => some false)
      · intro k
        rw [tocsinref07_MayName.l0, if_pos hx, if_pos h0]
        repeat' split
        all_goals first | rfl | (exfalso; omega)
      · exact Ev.now _
theorem mayName_ref (s : ByteArray) (hs : s.size ≤ 9223372036854775807) : Ev (fun k => tocsinref07_MayName.f k s) (mayName s) := by
  unfold mayName
  by_cases h1 : 1 ≤ s.size
  · by_cases h2 : s.size ≤ 16
    · rw [decide_eq_true h1, decide_eq_true h2, Bool.true_and, Bool.true_and]
      unfold letterB
      refine Ev.congr (f := fun k => if bt s 0 < 97 then tocsinref07_MayName.j0 k s true else tocsinref07_MayName.j0 k s (decide (bt s 0 > 122))) (fun k => ?_) ?_
      · unfold tocsinref07_MayName.f
        rw [if_neg (by omega), if_neg (by omega), if_pos (by omega)]
      · by_cases a : bt s 0 < 97
        · simp only [if_pos a]
          rw [decide_eq_false (show ¬ 97 ≤ bt s 0 by omega), Bool.false_and, Bool.false_and]
          exact Ev.step (fun k => by rw [tocsinref07_MayName.j0, if_pos rfl]) (Ev.now _)
        · simp only [if_neg a]
          rw [decide_eq_true (show 97 ≤ bt s 0 by omega), Bool.true_and]
          by_cases b : bt s 0 > 122
          · rw [decide_eq_true b, decide_eq_false (show ¬ bt s 0 ≤ 122 by omega), Bool.false_and]
            exact Ev.step (fun k => by rw [tocsinref07_MayName.j0, if_pos rfl]) (Ev.now _)
          · rw [decide_eq_false b, decide_eq_true (show bt s 0 ≤ 122 by omega), Bool.true_and]
            refine Ev.step (fun k => by rw [tocsinref07_MayName.j0, if_neg (by simp)]) ?_
            exact name_ev s hs s.size 0 (by omega) (by omega) (by omega)
    · rw [decide_eq_false h2, Bool.false_and, Bool.and_false]
      refine Ev.congr (fun k => ?_) (Ev.step (fun k => by rw [tocsinref07_MayName.j0, if_pos rfl]) (Ev.now _) : Ev (fun k => tocsinref07_MayName.j0 k s true) false)
      unfold tocsinref07_MayName.f
      rw [if_neg (by omega), if_pos (by omega)]
  · rw [decide_eq_false h1, Bool.false_and]
    refine Ev.congr (fun k => ?_) (Ev.step (fun k => by rw [tocsinref07_MayName.j0, if_pos rfl]) (Ev.now _) : Ev (fun k => tocsinref07_MayName.j0 k s true) false)
    unfold tocsinref07_MayName.f
    rw [if_pos (by omega)]
theorem plain_ev (s : ByteArray) (hs : s.size ≤ 9223372036854775807) : ∀ (d : Nat) (x : Int), 0 ≤ x → x ≤ s.size → (s.size : Int) - x = d → Ev (fun k => tocsinref07_Plain.l0 k s x) (allFrom signB s x) := by
  intro d
  induction d with
  | zero =>
    intro x h0 h1 hd
    rw [all_end _ _ _ (by omega)]
    apply Ev.step
    · intro k
      rw [tocsinref07_Plain.l0, if_neg (by omega)]
    · exact Ev.now _
  | succ d ih =>
    intro x h0 h1 hd
    have hx : x < s.size := by omega
    rw [all_step _ _ _ h0 hx]
    unfold signB
    by_cases a : bt s x < 32
    · rw [decide_eq_false (show ¬ 32 ≤ bt s x by omega), Bool.false_and, Bool.false_and]
      exact Ev.step (fun k => by rw [tocsinref07_Plain.l0, if_pos hx, if_pos h0, if_pos a]) (Ev.now _)
    · rw [decide_eq_true (show 32 ≤ bt s x by omega), Bool.true_and]
      by_cases b : bt s x > 126
      · rw [decide_eq_false (show ¬ bt s x ≤ 126 by omega), Bool.false_and]
        exact Ev.step (fun k => by rw [tocsinref07_Plain.l0, if_pos hx, if_pos h0, if_neg a, if_pos b]) (Ev.now _)
      · rw [decide_eq_true (show bt s x ≤ 126 by omega), Bool.true_and]
        refine Ev.step (fun k => by rw [tocsinref07_Plain.l0, if_pos hx, if_pos h0, if_neg a, if_neg b, w64 (by omega) (by omega)]) ?_
        exact ih (x + 1) (by omega) (by omega) (by omega)
theorem mayValue_ref (s : ByteArray) (hs : s.size ≤ 9223372036854775807) : Ev (fun k => tocsinref07_MayValue.f k s) (mayValue s) := by
  unfold mayValue
  by_cases h1 : 1 ≤ s.size
  · by_cases h2 : s.size ≤ 32
    · rw [decide_eq_true h1, decide_eq_true h2, Bool.true_and, Bool.true_and]
      refine Ev.congr (fun k => ?_) (plain_ev s hs s.size 0 (by omega) (by omega) (by omega))
      unfold tocsinref07_MayValue.f tocsinref07_Plain.f
      rw [if_pos (by omega), if_pos (by omega)]
      show (tocsinref07_Plain.l0 k s 0).bind some = tocsinref07_Plain.l0 k s 0
      cases tocsinref07_Plain.l0 k s 0 <;> rfl
    · rw [decide_eq_false h2, Bool.false_and, Bool.and_false]
      refine Ev.congr (fun k => ?_) (Ev.now _)
      unfold tocsinref07_MayValue.f
      rw [if_pos (by omega), if_neg (by omega)]
  · rw [decide_eq_false h1, Bool.false_and]
    refine Ev.congr (fun k => ?_) (Ev.now _)
    unfold tocsinref07_MayValue.f
    rw [if_neg (by omega)]

/-- Each name and value may be, the names rise, from behind p on. -/
def okL : Option S31 → List S31 → Bool
  | _, [] => true
  | p, x :: l => mayName x.f0 && (mayValue x.f1 && ((match p with | none => true | some q => Op.bytesLess q.f0.toList x.f0.toList) && okL (some x) l))
def mayB (l : List S31) : Bool := okL none l && decide (l.length ≤ 4)
def prevAt (l : List S31) (x : Int) : Option S31 := if x > 0 then some (rd_T31 l (x - 1)) else none
theorem okL_step {l : List S31} {x : Int} (h0 : 0 ≤ x) (h : x < l.length) : okL (prevAt l x) (l.drop x.toNat) = (mayName (rd_T31 l x).f0 && (mayValue (rd_T31 l x).f1 && ((if x > 0 then Op.bytesLess (rd_T31 l (x - 1)).f0.toList (rd_T31 l x).f0.toList else true) && okL (prevAt l (x + 1)) (l.drop (x + 1).toNat)))) := by
  rw [rd_drop l x.toNat (by omega), Int.toNat_of_nonneg h0, toNat_succ h0]
  unfold prevAt
  rw [if_pos (show x + 1 > 0 by omega), show x + 1 - 1 = x by omega]
  by_cases hx : x > 0
  · rw [if_pos hx, if_pos hx]
    rfl
  · rw [if_neg hx, if_neg hx]
    rfl
theorem okL_end {l : List S31} {x : Int} (h : ¬ x < l.length) : okL (prevAt l x) (l.drop x.toNat) = true := by
  rw [List.drop_eq_nil_of_le (by omega)]
  rfl
theorem may_ev (l : List S31) (hl : l.length ≤ 9223372036854775807) : ∀ (d : Nat) (x : Int), 0 ≤ x → x ≤ l.length → (l.length : Int) - x = d →
    Ev (fun k => labels_May.l0 k l l (l.length : Int) x) (okL (prevAt l x) (l.drop x.toNat) && decide (l.length ≤ 4)) := by
  intro d
  induction d with
  | zero =>
    intro x h0 h1 hd
    rw [okL_end (by omega), Bool.true_and]
    refine Ev.step (fun k => by rw [labels_May.l0, if_neg (by omega)]) (Ev.congr (fun k => ?_) (Ev.now _))
    congr 1
    rw [decide_eq_decide]
    omega
  | succ d ih =>
    intro x h0 h1 hd
    have hx : x < l.length := by omega
    have hn := ih (x + 1) (by omega) (by omega) (by omega)
    rw [okL_step h0 hx]
    cases hm : mayName (rd_T31 l x).f0 with
    | false =>
      rw [Bool.false_and, Bool.false_and]
      exact Ev.step (fun k => by rw [labels_May.l0, if_pos hx, if_pos h0, if_pos hx, labels_MayName.f, hm, Option.bind_some, if_neg (by simp)]) (Ev.now _)
    | true =>
      cases hv : mayValue (rd_T31 l x).f1 with
      | false =>
        rw [Bool.true_and, Bool.false_and, Bool.false_and]
        exact Ev.step (fun k => by rw [labels_May.l0, if_pos hx, if_pos h0, if_pos hx, labels_MayName.f, hm, Option.bind_some, if_pos rfl, labels_MayValue.f, hv, Option.bind_some, if_neg (by simp)]) (Ev.now _)
      | true =>
        simp only [Bool.true_and]
        by_cases hp : x > 0
        · cases hb : Op.bytesLess (rd_T31 l (x - 1)).f0.toList (rd_T31 l x).f0.toList with
          | false =>
            rw [if_pos hp, Bool.false_and, Bool.false_and]
            exact Ev.step (fun k => by rw [labels_May.l0, if_pos hx, if_pos h0, if_pos hx, labels_MayName.f, hm, Option.bind_some, if_pos rfl, labels_MayValue.f, hv, Option.bind_some, if_pos rfl, if_pos hp, w64 (by omega) (by omega), if_pos (by omega), if_pos (by omega), hb, if_neg (by simp)]) (Ev.now _)
          | true =>
            rw [if_pos hp, Bool.true_and]
            exact Ev.step (fun k => by rw [labels_May.l0, if_pos hx, if_pos h0, if_pos hx, labels_MayName.f, hm, Option.bind_some, if_pos rfl, labels_MayValue.f, hv, Option.bind_some, if_pos rfl, if_pos hp, w64 (by omega) (by omega), if_pos (by omega), if_pos (by omega), hb, if_pos rfl, w64 (by omega) (by omega)]) hn
        · rw [if_neg hp, Bool.true_and]
          exact Ev.step (fun k => by rw [labels_May.l0, if_pos hx, if_pos h0, if_pos hx, labels_MayName.f, hm, Option.bind_some, if_pos rfl, labels_MayValue.f, hv, Option.bind_some, if_pos rfl, if_neg hp, w64 (by omega) (by omega)]) hn
theorem may (l : List S31) (hl : l.length ≤ 9223372036854775807) : Ev (fun k => labels_May.f k l) (mayB l) := may_ev l hl l.length 0 (by omega) (by omega) (by omega)
def Good (l : List S31) : Prop := ∀ y ∈ l, y.f0.size ≤ 9223372036854775807 ∧ y.f1.size ≤ 9223372036854775807
theorem refmay_ev (l : List S31) (hl : l.length ≤ 9223372036854775807) (hg : Good l) : ∀ (d : Nat) (x : Int), 0 ≤ x → x ≤ l.length → (l.length : Int) - x = d →
    Ev (fun k => tocsinref07_May.l0 k l x) (okL (prevAt l x) (l.drop x.toNat)) := by
  intro d
  induction d with
  | zero =>
    intro x h0 h1 hd
    rw [okL_end (by omega)]
    exact Ev.step (fun k => by rw [tocsinref07_May.l0, if_neg (by omega)]) (Ev.now _)
  | succ d ih =>
    intro x h0 h1 hd
    have hx : x < l.length := by omega
    have hn := ih (x + 1) (by omega) (by omega) (by omega)
    have hgx := hg _ (rd_mem h0 hx)
    rw [okL_step h0 hx]
    refine Ev.step (fun k => by rw [tocsinref07_May.l0, if_pos hx, if_pos h0]) (Ev.bind (mayName_ref _ hgx.1) ?_)
    cases hm : mayName (rd_T31 l x).f0 with
    | false => exact Ev.congr (fun k => if_neg (by simp)) (Ev.now _)
    | true =>
      simp only [reduceIte]
      refine Ev.bind (mayValue_ref _ hgx.2) ?_
      cases hv : mayValue (rd_T31 l x).f1 with
      | false => exact Ev.congr (fun k => if_neg (by simp)) (Ev.now _)
      | true =>
        simp only [Bool.true_and]
        simp only [reduceIte]
        by_cases hp : x > 0
        · cases hb : Op.bytesLess (rd_T31 l (x - 1)).f0.toList (rd_T31 l x).f0.toList with
          | false =>
            rw [if_pos hp, Bool.false_and]
            exact Ev.congr (fun k => by rw [if_pos hp, w64 (by omega) (by omega), if_pos (by omega), if_pos (by omega), hb, if_neg (by simp)]) (Ev.now _)
          | true =>
            rw [if_pos hp, Bool.true_and]
            exact Ev.congr (fun k => by rw [if_pos hp, w64 (by omega) (by omega), if_pos (by omega), if_pos (by omega), hb, if_pos rfl, w64 (by omega) (by omega)]) hn
        · rw [if_neg hp, Bool.true_and]
          exact Ev.congr (fun k => by rw [if_neg hp, w64 (by omega) (by omega)]) hn
theorem refmay (l : List S31) (hl : l.length ≤ 9223372036854775807) (hg : Good l) : Ev (fun k => tocsinref07_May.f k l) (mayB l) := by
  unfold mayB
  by_cases h : l.length ≤ 4
  · rw [decide_eq_true h, Bool.and_true]
    refine Ev.congr (fun k => ?_) (refmay_ev l hl hg l.length 0 (by omega) (by omega) (by omega))
    unfold tocsinref07_May.f
    rw [if_neg (by omega)]
  · rw [decide_eq_false h, Bool.and_false]
    refine Ev.congr (fun k => ?_) (Ev.now _)
    unfold tocsinref07_May.f
    rw [if_pos (by omega)]
theorem may_small {l : List S31} (h : mayB l = true) : l.length ≤ 4 ∧ ∀ y ∈ l, mayName y.f0 = true ∧ mayValue y.f1 = true := by
  unfold mayB at h
  rw [Bool.and_eq_true, decide_eq_true_eq] at h
  refine ⟨h.2, ?_⟩
  have key : ∀ (l : List S31) (p : Option S31), okL p l = true → ∀ y ∈ l, mayName y.f0 = true ∧ mayValue y.f1 = true := by
    intro l
    induction l with
    | nil => intro p _ y hy; cases hy
    | cons x l ih =>
      intro p hp y hy
      rw [okL.eq_def] at hp
      simp only [Bool.and_eq_true] at hp
      rcases List.mem_cons.1 hy with rfl | hy
      · exact ⟨hp.1, hp.2.1⟩
      · exact ih _ hp.2.2.2 y hy
  exact key l none h.1

/-! Same -/
theorem ext31 {x y : S31} (h0 : x.f0.toList = y.f0.toList) (h1 : x.f1.toList = y.f1.toList) : x = y := by
  have inj : ∀ {a b : ByteArray}, a.toList = b.toList → a = b := fun {a b} h => by
    rw [ByteArray.toList_eq, ByteArray.toList_eq] at h
    exact ByteArray.ext (Array.ext' h)
  have e0 := inj h0
  have e1 := inj h1
  cases x
  cases y
  simp only at e0 e1
  rw [e0, e1]
abbrev B (s : ByteArray) : List UInt8 := s.data.toList
theorem B_str (l : List UInt8) : B (str l) = l := rfl
theorem str_B (s : ByteArray) : str (B s) = s := Lib.mk_data s
theorem size_str (l : List UInt8) : (str l).size = l.length := by rw [← data_length]; rfl
theorem B_inj {a b : ByteArray} (h : B a = B b) : a = b := by rw [← str_B a, ← str_B b, h]
def item (x : S31) : List UInt8 := B x.f0 ++ 61 :: quoteL (B x.f1)
def joinC : List S31 → List UInt8
  | [] => []
  | x :: l => item x ++ (match l with | [] => [] | _ :: _ => 44 :: joinC l)
def printL (l : List S31) : List UInt8 := 123 :: (joinC l ++ [125])
theorem joinC_one (x : S31) : joinC [x] = item x := by rw [joinC, List.append_nil]
theorem joinC_two (x y : S31) (l : List S31) : joinC (x :: y :: l) = item x ++ 44 :: joinC (y :: l) := by rw [joinC]
theorem B_app (a b : ByteArray) : B (a ++ b) = B a ++ B b := by
  unfold B
  rw [ByteArray.data_append, Array.toList_append]
theorem size_app (a b : ByteArray) : (a ++ b).size = a.size + b.size := ByteArray.size_append
def itemS (y : S31) : ByteArray := (y.f0 ++ (⟨#[61]⟩ : ByteArray)) ++ str (quoteL (B y.f1))
theorem B_itemS (y : S31) : B (itemS y) = item y := by
  unfold itemS item
  rw [B_app, B_app, B_str, List.append_assoc]
  rfl
theorem joinC_flat (x : S31) (l : List S31) : joinC (x :: l) = item x ++ (l.map fun y => 44 :: item y).flatten := by
  induction l generalizing x with
  | nil => rw [joinC_one]; simp
  | cons y l ih => rw [joinC_two, ih y]; simp
theorem joinL_items (l : List S31) : joinL (l.map itemS) ⟨#[44]⟩ = joinC l := by
  unfold joinL
  rw [List.map_map, show ((fun x : ByteArray => x.data.toList) ∘ itemS) = item from funext fun y => B_itemS y]
  cases l with
  | nil => rw [List.map_nil, Lib.join_nil]; rfl
  | cons x l =>
    rw [List.map_cons, Lib.join_cons, joinC_flat]
    unfold Lib.joinTail
    rw [List.map_map]
    rfl
theorem quoteL_len (u : List UInt8) : (quoteL u).length ≤ 2 * u.length + 2 := by
  unfold quoteL
  have := esc_len u
  simp only [List.length_cons, List.length_append, List.length_nil]
  omega
theorem item_len (y : S31) : (item y).length ≤ y.f0.size + 2 * y.f1.size + 3 := by
  unfold item
  have := quoteL_len (B y.f1)
  rw [data_length] at this
  rw [List.length_append, List.length_cons, data_length]
  omega
theorem joinC_len {l : List S31} (hs : ∀ y ∈ l, y.f0.size ≤ 5000 ∧ y.f1.size ≤ 5000) : (joinC l).length ≤ 15004 * l.length := by
  induction l with
  | nil => simp [joinC]
  | cons x l ih =>
    have h1 := item_len x
    have h2 := hs x (by simp)
    have h3 := ih (fun y hy => hs y (by simp [hy]))
    cases l with
    | nil => rw [joinC_one, List.length_singleton]; omega
    | cons y l =>
      rw [joinC_two, List.length_append, List.length_cons, List.length_cons]
      omega
theorem print_ev (l : List S31) (hl : Small l) : ∀ (d : Nat) (x : Int), 0 ≤ x → x ≤ l.length → (l.length : Int) - x = d →
    Ev (fun k => labels_Print.l0 k ((l.take x.toNat).map itemS) l (l.length : Int) x) (str (printL l)) := by
  intro d
  have h100 := hl.1
  induction d with
  | zero =>
    intro x h0 h1 hd
    refine Ev.step (fun k => by rw [labels_Print.l0, if_neg (by omega), List.take_of_length_le (by omega)]) ?_
    have hj := joinC_len hl.2
    unfold strings_Join.f
    rw [joinL_items, List.length_map, if_pos ⟨by omega, by omega⟩]
    refine ev_bsome ?_
    have hsz : (⟨(joinC l).toArray⟩ : ByteArray).size = (joinC l).length := size_str _
    refine ev_pos (by rw [hsz]; omega) (ev_pos (by rw [size_app, hsz]; have : (⟨#[123]⟩ : ByteArray).size = 1 := rfl; omega) (ev_some ?_))
    apply B_inj
    rw [B_app, B_app, B_str]
    unfold printL
    rfl
  | succ d ih =>
    intro x h0 h1 hd
    have hx : x < l.length := by omega
    have hs := hl.2 _ (rd_mem h0 hx)
    have hsz : (⟨#[61]⟩ : ByteArray).size = 1 := rfl
    have hq := quoteL_len (B (rd_T31 l x).f1)
    rw [data_length] at hq
    refine Ev.step (fun k => by rw [labels_Print.l0, if_pos hx, if_pos h0, if_pos hx, if_pos (by omega), labels_Quote.f, if_pos (by omega)]) ?_
    refine ev_bsome (ev_pos ?_ (ev_pos (by rw [List.length_map, List.length_take]; omega) ?_))
    · rw [size_app, hsz]
      show _ + (str (quoteL (B (rd_T31 l x).f1))).size ≤ _
      rw [size_str]
      omega
    · have hn := ih (x + 1) (by omega) (by omega) (by omega)
      have htk : (l.take (x + 1).toNat).map itemS = (l.take x.toNat).map itemS ++ [itemS (rd_T31 l x)] := by
        rw [toNat_succ h0, List.take_succ_eq_append_getElem (by omega), List.map_append]
        congr 1
        simp only [List.map_cons, List.map_nil]
        congr 1
        unfold rd_T31
        rw [List.getD_eq_getElem?_getD, List.getElem?_eq_getElem (by omega)]
        rfl
      rw [htk] at hn
      rw [w64 (by omega) (by omega)]
      exact hn
theorem print (l : List S31) (hl : Small l) : Ev (fun k => labels_Print.f k l) (str (printL l)) := by
  exact print_ev l hl l.length 0 (by omega) (by omega) (by omega)
theorem good_small {l : List S31} (h : mayB l = true) : Small l := by
  have hm := may_small h
  refine ⟨by omega, fun y hy => ?_⟩
  have h2 := hm.2 y hy
  unfold mayName mayValue at h2
  simp only [Bool.and_eq_true, decide_eq_true_eq] at h2
  omega
/-- One text, one row. -/
theorem printL_len {l : List S31} (hl : Small l) : (printL l).length ≤ 1500410 := by
  unfold printL
  have := joinC_len hl.2
  have := hl.1
  simp only [List.length_cons, List.length_append, List.length_nil]
  omega
end Go.Proofs.Ytlhlaadnifkdhaa.Pure
namespace Go.Proofs.Ytlhlaadnifkdhaa.Sr
open Go.RowKit Go.Proofs.YtlhlaadnifkdhaaW.PrintWords Go.Proofs.YtlhlaadnifkdhaaW.PrintLast Go.Proofs.YtlhlaadnifkdhaaW.PrintMore Go.Proofs.Ytlhlaadnifkdhaa.Q Go.Proofs.Ytlhlaadnifkdhaa.Own Go.Proofs.Ytlhlaadnifkdhaa.Nmd
set_option linter.unusedVariables false
set_option linter.unusedSimpArgs false

theorem may_c {w : World} {A : Option Addr} {c : Nat} {l : List LB} (hC : Kd.C kL w A l.length l) (hc : l.length ≤ c) (hl : l.length ≤ 9223372036854775807) :
    Calls Try.prog 27 #[.slice A l.length c] w fun e w' => e = .returned (.bool (Pure.mayB l)) ∧ Below w.heap.size w w' := by
  obtain ⟨k, hk⟩ := (Pure.may l hl).rounds
  refine (labels_May.calls k A c l _ w hC hc hk).mono ?_
  rintro e w' ⟨rfl, hb⟩
  exact ⟨rfl, hb⟩
/-- The text of labels: their name in a store. -/
def textL (l : List LB) : ByteArray := Pure.str (Pure.printL l)
theorem print_c {w : World} {A : Option Addr} {c : Nat} {l : List LB} (hC : Kd.C kL w A l.length l) (hc : l.length ≤ c) (hm : Pure.mayB l = true) :
    Calls Try.prog 23 #[.slice A l.length c] w fun e w' => e = .returned (.string (textL l)) ∧ Below w.heap.size w w' := by
  obtain ⟨k, hk⟩ := (Pure.print l (Pure.good_small hm)).rounds
  refine (labels_Print.calls k A c l _ w hC hc hk).mono ?_
  rintro e w' ⟨rfl, hb⟩
  exact ⟨rfl, hb⟩
theorem text_size {l : List LB} (hm : Pure.mayB l = true) : (textL l).size ≤ 1500410 := by
  unfold textL
  rw [Pure.size_str]
  exact Pure.printL_len (Pure.good_small hm)
/-- A series: its entry, its labels, its samples. -/
structure SS where
  e : SE
  ls : List LB
  xs : List SM
/-- The things of series. -/
def tm (L : List SS) : List Th := L.flatMap fun s => [ringT s.e.b s.xs, rowL (.slice s.e.hd.1 s.e.hd.2.1 s.e.hd.2.2) s.ls]
theorem tm_app (L M : List SS) : tm (L ++ M) = tm L ++ tm M := List.flatMap_append
theorem tm_cons (s : SS) (L : List SS) : tm (s :: L) = ringT s.e.b s.xs :: rowL (.slice s.e.hd.1 s.e.hd.2.1 s.e.hd.2.2) s.ls :: tm L := rfl
/-- Series are as they ought to be: by rising texts, each under its text. -/
structure SerOk (L : List SS) : Prop where
  may : ∀ s ∈ L, Pure.mayB s.ls = true
  name : ∀ s ∈ L, s.e.name = textL s.ls
  le : L.length ≤ 8
  full : ∀ s ∈ L, s.xs.length ≤ 32
end Go.Proofs.Ytlhlaadnifkdhaa.Sr
namespace Go.Proofs.Ytlhlaadnifkdhaa.Sr
open Go.RowKit Go.Proofs.YtlhlaadnifkdhaaW.PrintWords Go.Proofs.YtlhlaadnifkdhaaW.PrintLast Go.Proofs.YtlhlaadnifkdhaaW.PrintMore Go.Proofs.Ytlhlaadnifkdhaa.Q Go.Proofs.Ytlhlaadnifkdhaa.Own Go.Proofs.Ytlhlaadnifkdhaa.Nmd
set_option linter.unusedVariables false
set_option linter.unusedSimpArgs false

def keyS' (s : SS) : List UInt8 := keyE s.e
theorem ins_map (s : SS) : ∀ L : List SS, (insF keyS' L s).map (fun s => s.e) = insF keyE (L.map fun s => s.e) s.e
  | [] => rfl
  | y :: L => by
    rw [List.map_cons]
    unfold insF
    by_cases h : keyE s.e < keyE y.e
    · rw [if_pos h, if_pos (show keyS' s < keyS' y from h)]
      rfl
    · rw [if_neg h, if_neg (show ¬ keyS' s < keyS' y from h), List.map_cons, ins_map s L]
theorem cut_map (n : List UInt8) : ∀ L : List SS, (cutF keyS' L n).map (fun s => s.e) = cutF keyE (L.map fun s => s.e) n
  | [] => rfl
  | y :: L => by
    rw [List.map_cons]
    have ih := cut_map n L
    unfold cutF at ih ⊢
    rw [List.filter_cons, List.filter_cons]
    by_cases h : (keyE y.e != n) = true
    · rw [if_pos h, if_pos (show (keyS' y != n) = true from h), List.map_cons, ih]
    · rw [if_neg h, if_neg (show ¬ (keyS' y != n) = true from h), ih]
theorem set_map (s : SS) (L : List SS) : (setF keyS' L s).map (fun s => s.e) = setF keyE (L.map fun s => s.e) s.e := by
  unfold setF
  rw [ins_map, cut_map]
  rfl
theorem find_map (n : List UInt8) : ∀ L : List SS, findF keyE (L.map fun s => s.e) n = (findF keyS' L n).map fun s => s.e
  | [] => rfl
  | y :: L => by
    rw [List.map_cons]
    have ih := find_map n L
    unfold findF at ih ⊢
    rw [List.find?_cons, List.find?_cons]
    show (match keyE y.e == n with | true => some y.e | false => _) = Option.map _ (match keyS' y == n with | true => some y | false => _)
    cases h : (keyE y.e == n) with
    | true => rw [show (keyS' y == n) = true from h]; rfl
    | false => rw [show (keyS' y == n) = false from h]; exact ih
theorem rise_map {L : List SS} : Rise keyE (L.map fun s => s.e) ↔ Rise keyS' L := by
  unfold Rise
  rw [List.pairwise_map]
  rfl
/-- The series of a text, as it is behind a push. -/
def pushedS (L : List SS) (n : List UInt8) (x : SM) : List SS := L.map fun s => if keyS' s = n then ⟨s.e, s.ls, pushL s.xs x⟩ else s
theorem pushed_e (L : List SS) (n : List UInt8) (x : SM) : (pushedS L n x).map (fun s => s.e) = L.map fun s => s.e := by
  unfold pushedS
  rw [List.map_map]
  refine List.map_congr_left fun s _ => ?_
  show (if keyS' s = n then (⟨s.e, s.ls, pushL s.xs x⟩ : SS) else s).e = s.e
  split <;> rfl
/-- What Add answers. -/
def addE (L : List SS) (ls : List LB) (x : SM) : Int :=
  if Pure.mayB ls = false then 70 else match findF keyS' L (textL ls).data.toList with
    | some s => pushE s.xs x
    | none => if pushE [] x ≠ 0 then pushE [] x else if 8 ≤ L.length then 170 else 0
end Go.Proofs.Ytlhlaadnifkdhaa.Sr
namespace Go.Proofs.Ytlhlaadnifkdhaa.Sr
open Go.RowKit Go.Proofs.YtlhlaadnifkdhaaW.PrintWords Go.Proofs.YtlhlaadnifkdhaaW.PrintLast Go.Proofs.YtlhlaadnifkdhaaW.PrintMore Go.Proofs.Ytlhlaadnifkdhaa.Q Go.Proofs.Ytlhlaadnifkdhaa.Own Go.Proofs.Ytlhlaadnifkdhaa.Nmd
set_option linter.unusedVariables false
set_option linter.unusedSimpArgs false
attribute [local go_sem ↓] Go.wp_at_zero Go.wp_at_succ

/-- What Add leaves; a new series has its ring, its labels' place. -/
def addL (L : List SS) (ls : List LB) (x : SM) (b : Nat) (hd : Option Addr × Nat × Nat) : List SS :=
  if Pure.mayB ls = false then L else match findF keyS' L (textL ls).data.toList with
    | some _ => pushedS L (textL ls).data.toList x
    | none => if addE L ls x = 0 then setF keyS' L ⟨⟨textL ls, b, hd⟩, ls, [x]⟩ else L
theorem pushed_cut {L : List SS} (h : Rise keyS' L) {n : List UInt8} {s : SS} (hf : findF keyS' L n = some s) (x : SM) :
    ∃ L1 L2, L = L1 ++ s :: L2 ∧ pushedS L n x = L1 ++ ⟨s.e, s.ls, pushL s.xs x⟩ :: L2 := by
  obtain ⟨hm, hk⟩ := find_mem hf
  obtain ⟨L1, L2, rfl⟩ := List.append_of_mem hm
  refine ⟨L1, L2, rfl, ?_⟩
  have hu := rise_unlike h
  obtain ⟨-, h2, h3⟩ := List.pairwise_append.1 hu
  obtain ⟨h4, -⟩ := List.pairwise_cons.1 h2
  unfold pushedS
  rw [List.map_append, List.map_cons, if_pos hk]
  congr 1
  · refine (List.map_congr_left fun y hy => ?_).trans (List.map_id _)
    rw [if_neg (fun q => h3 y hy s (List.mem_cons_self ..) (q.trans hk.symm))]
    rfl
  · congr 1
    refine (List.map_congr_left fun y hy => ?_).trans (List.map_id _)
    rw [if_neg (fun q => h4 y hy (hk.trans q.symm))]
    rfl
theorem tm_perm {L M : List SS} (h : L.Perm M) : (tm L).Perm (tm M) := h.flatMap_right _
theorem cut_none {L : List SS} {n : List UInt8} (h : findF keyS' L n = none) : cutF keyS' L n = L := by
  unfold cutF
  rw [List.filter_eq_self]
  intro a ha
  exact bne_iff_ne.2 (find_none.1 h a ha)
theorem tm_set {L : List SS} {s : SS} (h : findF keyS' L (keyS' s) = none) : (tm (setF keyS' L s)).Perm (ringT s.e.b s.xs :: rowL (.slice s.e.hd.1 s.e.hd.2.1 s.e.hd.2.2) s.ls :: tm L) := by
  unfold setF
  rw [cut_none h]
  exact tm_perm (ins_perm L s)
theorem has_drop {B : Nat} {w : World} : ∀ {As Bs : List Th}, Has B w (As ++ Bs) → Has B w Bs
  | [], _, h => h
  | _ :: As, _, h => has_drop (As := As) h.tail
theorem oneB (b : Nat) (A : Option Addr) (n c : Nat) : Try.prog.built 72 [(0, ptr b), (1, .slice A n c)] = some #[ptr b, .slice A n c] := by kernel_rfl
set_option maxHeartbeats 4000000 in
set_option maxRecDepth 100000 in
theorem sadd_calls {B : Nat} {w : World} {p : Nat} {L : List SS} {Ts : List Th} (h : Has B w (mapT p (L.map fun s => s.e) :: (tm L ++ Ts))) (hok : SerOk L) {A : Option Addr} {c : Nat} {ls : List LB} (x : SM)
    (hC : ∀ w', Has B w' Ts → Below B w w' → Kd.C kL w' A ls.length ls) (hc : ls.length ≤ c) (hl : ls.length ≤ 9223372036854775807) :
    Calls Try.prog 9 #[ptr p, .slice A ls.length c, .agg #[.int .i64 x.f0, .int .i64 x.f1]] w fun e w' => e = .returned (.int .i64 (addE L ls x)) ∧ ∃ b hd, Has B w' (mapT p ((addL L ls x b hd).map fun s => s.e) :: (tm (addL L ls x b hd) ++ Ts)) ∧ Below B w w' := by
  obtain ⟨x0, x1⟩ := x
  have hrise := rise_map.1 (map_rise h (List.mem_cons_self ..))
  have hu26 := Try.underlying26
  have hu72 := Try.underlying72
  have HA1 : Aside0 (Has B (w.alloc (.cells #[.int .i64 x0, .int .i64 x1] 26)) (mapT p (L.map fun s => s.e) :: xT w.heap.size ⟨x0, x1⟩ :: (tm L ++ Ts))) := ⟨(h.box #[.int .i64 x0, .int .i64 x1] 26).swap⟩
  have HB1 : Aside0 (Below B w (w.alloc (.cells #[.int .i64 x0, .int .i64 x1] 26))) := ⟨(Below.refl B w).alloc h.size _⟩
  have HC := Aside0.mk hC
  have HOK := Aside0.mk hok
  have HR := Aside0.mk hrise
  have HN := Aside0.mk (snone_calls HA1.out (List.mem_cons_self ..))
  have HM := Aside0.mk (may_c (HC.out _ (has_drop (As := tm L) HA1.out.tail.tail) HB1.out) hc hl)
  have HCC := Aside0.mk hc
  clear h hok hC hrise hc hl
  dsimp only
  generalize hbx : w.heap.size = bx at HA1
  go_enter Try.func9, Try.ntmps9
  go_wp2_with fail
  refine HN.out.mono ?_
  rintro e w1 ⟨rfl, rfl⟩
  clear HN hbx
  generalize w.alloc (.cells #[.int .i64 x0, .int .i64 x1] 26) = w1 at HA1 HB1 HM ⊢
  go_wp2_with fail
  refine HM.out.mono ?_
  rintro e w2 ⟨rfl, hb2⟩
  have HA2 := Aside0.mk (HA1.out.below hb2)
  have HB2 := Aside0.mk (HB1.out.trans (hb2.mono HA1.out.size))
  clear HA1 HB1 HM hb2
  cases hmay : Pure.mayB ls with
  | false =>
    have HMY := Aside0.mk hmay
    clear hmay
    go_wp2_with fail
    go_ret
    refine ⟨by unfold addE; rw [if_pos HMY.out]; rfl, 0, (none, 0, 0), ?_, HB2.out⟩
    unfold addL
    rw [if_pos HMY.out]
    exact HA2.out.swap.tail
  | true =>
    have HMY := Aside0.mk hmay
    have HP := Aside0.mk (print_c (HC.out _ (has_drop (As := tm L) HA2.out.tail.tail) HB2.out) HCC.out hmay)
    clear hmay
    go_wp2_with fail
    refine HP.out.mono ?_
    rintro e w3 ⟨rfl, hb3⟩
    have HA3 := Aside0.mk (HA2.out.below hb3)
    have HB3 := Aside0.mk (HB2.out.trans (hb3.mono HA2.out.size))
    clear HA2 HB2 HP hb3
    have hts := text_size HMY.out
    obtain ⟨mb, cmap, lk1, lk2⟩ := map_look HA3.out (List.mem_cons_self ..) (s := textL ls) (by omega)
    have hfm := find_map (textL ls).data.toList L
    rw [hfm] at lk1 lk2
    clear hfm hts
    obtain ⟨bc, -, -, -⟩ := HA3.out.box_cell (b := bx) (cs := #[.int .i64 x0, .int .i64 x1]) (t := 26) (by simp)
    have x0c : w3.cell? ⟨bx, 0, none⟩ = some (.int .i64 x0) := bc 0
    have x1c : w3.cell? ⟨bx, 1, none⟩ = some (.int .i64 x1) := bc 1
    clear bc
    cases hfd : findF keyS' L (textL ls).data.toList with
    | some s =>
      rw [hfd] at lk1 lk2
      obtain ⟨lk, -⟩ := lk1 s.e rfl
      clear lk1 lk2
      have HFD := Aside0.mk hfd
      clear hfd
      unfold valE at lk
      obtain ⟨L1, L2, e1, e2⟩ := pushed_cut HR.out HFD.out ⟨x0, x1⟩
      have y0 : ∀ o, (w3.alloc o).cell? ⟨bx, 0, none⟩ = some (.int .i64 x0) := fun o => c_al o x0c
      have y1 : ∀ o, (w3.alloc o).cell? ⟨bx, 1, none⟩ = some (.int .i64 x1) := fun o => c_al o x1c
      have hA4 := HA3.out.alloc (.cells #[ptr s.e.b, .slice s.e.hd.1 s.e.hd.2.1 s.e.hd.2.2] 72)
      have HB4 : Aside0 (Below B w3 (w3.alloc (.cells #[ptr s.e.b, .slice s.e.hd.1 s.e.hd.2.1 s.e.hd.2.2] 72))) := ⟨(Below.refl B w3).alloc HA3.out.size _⟩
      rw [show tm L = tm L1 ++ (ringT s.e.b s.xs :: rowL (.slice s.e.hd.1 s.e.hd.2.1 s.e.hd.2.2) s.ls :: tm L2) from by rw [e1, tm_app, tm_cons]] at hA4
      have hA5 : Has B (w3.alloc (.cells #[ptr s.e.b, .slice s.e.hd.1 s.e.hd.2.1 s.e.hd.2.2] 72)) ((mapT p (L.map fun s => s.e) :: xT bx ⟨x0, x1⟩ :: tm L1) ++ ringT s.e.b s.xs :: (rowL (.slice s.e.hd.1 s.e.hd.2.1 s.e.hd.2.2) s.ls :: tm L2 ++ Ts)) := by
        rw [List.append_assoc] at hA4
        exact hA4
      have HPU := Aside0.mk (rpush_calls (has_mid hA5) ⟨x0, x1⟩)
      dsimp only at HPU
      have E2 := Aside0.mk e2
      clear hA4 hA5 e1 e2 HA3
      go_wp2_with fail
      refine HPU.out.mono ?_
      rintro e w5 ⟨rfl, hA6, hB6⟩
      have HA6 := Aside0.mk (has_back hA6)
      have HB6 := Aside0.mk ((HB3.out.trans HB4.out).trans hB6)
      clear hA6 hB6 HB3 HB4 HPU
      go_wp2_with fail
      go_ret
      refine ⟨by unfold addE; rw [if_neg (by rw [HMY.out]; decide), HFD.out]; rfl, 0, (none, 0, 0), ?_, HB6.out⟩
      unfold addL
      rw [if_neg (by rw [HMY.out]; decide), HFD.out]
      show Has B w5 (mapT p ((pushedS L (textL ls).data.toList ⟨x0, x1⟩).map fun s => s.e) :: (tm (pushedS L (textL ls).data.toList ⟨x0, x1⟩) ++ Ts))
      rw [pushed_e, E2.out, tm_app, tm_cons, List.append_assoc]
      exact HA6.out.swap.tail
    | none =>
      rw [hfd] at lk1 lk2
      have lk := lk2 rfl
      clear lk1 lk2
      have HFD := Aside0.mk hfd
      clear hfd
      have HA4 := Aside0.mk (HA3.out.alloc (.cells #[.pointer none, .slice none 0 0] 72))
      have HB4 : Aside0 (Below B w (w3.alloc (.cells #[.pointer none, .slice none 0 0] 72))) := ⟨HB3.out.trans ((Below.refl B w3).alloc HA3.out.size _)⟩
      have HNW := Aside0.mk (rnew_calls HA4.out)
      clear x0c x1c HA3 HB3
      go_wp2_with fail
      clear cmap
      refine HNW.out.mono ?_
      rintro e w5 ⟨b, rfl, hA5, hB5⟩
      have HA5 := Aside0.mk hA5
      have HB5 := Aside0.mk (HB4.out.trans hB5)
      clear hA5 hB5 HA4 HB4 HNW
      have HCL := Aside0.mk (clone_calls HA5.out (A := A) (c := c) (l := ls) (fun w' hb => HC.out w' (has_drop (As := tm L) (HA5.out.below hb).tail.tail.tail) (HB5.out.trans (hb.mono HA5.out.size))) (by have := (Pure.good_small HMY.out).1; omega))
      go_wp2_with fail
      refine HCL.out.mono ?_
      rintro e w6 ⟨v, rfl, hA6, hB6⟩
      obtain ⟨A6, c6, rfl, -, -⟩ := hA6.reads (List.mem_cons_self ..)
      have HA6 := Aside0.mk hA6
      have HB6 := Aside0.mk (HB5.out.trans hB6)
      clear hA6 hB6 HA5 HB5 HCL
      have hbu := oneB b A6 ls.length c6
      obtain ⟨bc, -, -, -⟩ := HA6.out.box_cell (b := bx) (cs := #[.int .i64 x0, .int .i64 x1]) (t := 26) (by simp)
      have x0c : w6.cell? ⟨bx, 0, none⟩ = some (.int .i64 x0) := bc 0
      have x1c : w6.cell? ⟨bx, 1, none⟩ = some (.int .i64 x1) := bc 1
      have y0 : ∀ o, (w6.alloc o).cell? ⟨bx, 0, none⟩ = some (.int .i64 x0) := fun o => c_al o x0c
      have y1 : ∀ o, (w6.alloc o).cell? ⟨bx, 1, none⟩ = some (.int .i64 x1) := fun o => c_al o x1c
      clear bc
      have hA7 := HA6.out.box #[ptr b, .slice A6 ls.length c6] 72
      have HB7 : Aside0 (Below B w (w6.alloc (.cells #[ptr b, .slice A6 ls.length c6] 72))) := ⟨HB6.out.trans ((Below.refl B w6).alloc HA6.out.size _)⟩
      have HPU := Aside0.mk (rpush_calls hA7.third ⟨x0, x1⟩)
      dsimp only at HPU
      clear hA7 HB6 HA6
      generalize hbo : w6.heap.size = bo at HPU
      go_wp2_with fail
      clear hbo x0c x1c y0 y1 hbu
      refine HPU.out.mono ?_
      rintro e w8 ⟨rfl, hA8, hB8⟩
      have HA8 := Aside0.mk hA8
      have HB8 := Aside0.mk (HB7.out.trans hB8)
      clear hA8 hB8 HB7 HPU
      by_cases hpe : pushE [] ⟨x0, x1⟩ = 0
      · have hpl : pushL [] ⟨x0, x1⟩ = [⟨x0, x1⟩] := by unfold pushL; rw [if_pos hpe]; rfl
        rw [hpl] at HA8
        have HPE := Aside0.mk hpe
        rw [hpe]
        clear hpe hpl
        have e0 : addE L ls ⟨x0, x1⟩ = if 8 ≤ L.length then 170 else 0 := by
          unfold addE
          rw [if_neg (by rw [HMY.out]; decide), HFD.out]
          exact if_neg (fun q => q HPE.out)
        by_cases h8 : 8 ≤ L.length
        · obtain ⟨mb8, cmap, hlen⟩ := map_len HA8.out (p := p) (es := L.map fun s => s.e) (by simp) 3
          rw [List.length_map] at hlen
          have h8' : (8 : Int) ≤ (L.length : Int) := by omega
          have d8 : decide ((L.length : Int) ≥ 8) = true := decide_eq_true h8'
          have H8 := Aside0.mk h8
          have E0 := Aside0.mk e0
          clear h8 e0
          go_wp2_with fail
          go_ret
          have ea : addE L ls ⟨x0, x1⟩ = 170 := E0.out.trans (if_pos H8.out)
          refine ⟨by rw [ea]; rfl, 0, (none, 0, 0), ?_, HB8.out⟩
          unfold addL
          rw [if_neg (by rw [HMY.out]; decide), HFD.out]
          show Has B w8 (mapT p ((if addE L ls ⟨x0, x1⟩ = 0 then _ else L).map fun s => s.e) :: (tm (if addE L ls ⟨x0, x1⟩ = 0 then _ else L) ++ Ts))
          rw [if_neg (by rw [ea]; decide)]
          exact HA8.out.tail.tail.tail.swap.tail
        · obtain ⟨mb8, cmap, hlen⟩ := map_len HA8.out (p := p) (es := L.map fun s => s.e) (by simp) 3
          rw [List.length_map] at hlen
          have h8' : ¬ (8 : Int) ≤ (L.length : Int) := by omega
          have d8 : decide ((L.length : Int) ≥ 8) = false := decide_eq_false h8'
          obtain ⟨bc, -, -, -⟩ := HA8.out.box_cell (b := bo) (cs := #[ptr b, .slice A6 ls.length c6]) (t := 72) (by simp)
          have o0 : w8.cell? ⟨bo, 0, none⟩ = some (ptr b) := bc 0
          have o1 : w8.cell? ⟨bo, 1, none⟩ = some (.slice A6 ls.length c6) := bc 1
          have hA9 : Has B w8.drew (mapT p (L.map fun s => s.e) :: (ringT b [⟨x0, x1⟩] :: boxT bo #[ptr b, .slice A6 ls.length c6] 72 :: rowL (.slice A6 ls.length c6) ls :: xT bx ⟨x0, x1⟩ :: (tm L ++ Ts))) := (has_mid (As := [_, _, _]) HA8.out).drew
          have hts := text_size HMY.out
          obtain ⟨mb9, w9, cm9, hput, hA10, hB10⟩ := map_put hA9 (s := textL ls) (by omega) (by rw [List.length_map]; omega) ⟨textL ls, b, (A6, ls.length, c6)⟩ rfl
          have e9 : mb9 = mb8 := by
            have := cm9.symm.trans cmap
            injection this with this
            injection this with this
            injection this
          subst e9
          unfold valE at hput
          dsimp only at hput
          have HA10 := Aside0.mk hA10
          have HB10 := Aside0.mk ((bl_drew HB8.out).trans hB10)
          have ea := Aside0.mk (e0.trans (if_neg h8))
          clear bc hA9 hA10 hB10 hts e0 h8 cm9 HA8 HB8
          go_wp2_with fail
          refine start_ (n := 7) (S := fun w' => w'.cell? ⟨p, 0, none⟩ = some (.map (some mb9)) ∧ w'.cell? ⟨bo, 0, none⟩ = some (ptr b) ∧ w'.cell? ⟨bo, 1, none⟩ = some (.slice A6 ls.length c6)) (ds := [6]) #[false, false, false, false, false, false, false] (by kernel_rfl) rfl rfl ⟨cmap, o0, o1⟩ (fun hHeld => ?_)
          refine pure_ (i := 0) (N := some 52) (v := ?_) (a' := ?_) #[true, false, false, false, false, false, false] rfl rfl (by kernel_rfl) (fun _ _ _ h => h) (Or.inl ⟨by rfl, ?_⟩) ?_ ?_
          rotate_left
          · intro w'
            go_simp
            with_reducible rfl
          rotate_left
          · simp only [Act.put, List.setIfInBounds_toArray, List.set_cons_zero, List.set_cons_succ, i64_w, i32_w]
            rfl
          refine pure_ (i := 1) (N := some 53) (v := ?_) (a' := ?_) #[true, true, false, false, false, false, false] rfl rfl (by kernel_rfl) (fun _ _ _ h => h) (Or.inl ⟨by rfl, ?_⟩) ?_ ?_
          rotate_left
          · intro w'
            go_simp
            with_reducible rfl
          rotate_left
          · simp only [Act.put, List.setIfInBounds_toArray, List.set_cons_zero, List.set_cons_succ, i64_w, i32_w]
            rfl
          refine pure_ (i := 2) (N := some 54) (v := ?_) (a' := ?_) #[true, true, true, false, false, false, false] rfl rfl (by kernel_rfl) (fun _ _ _ h => h) (Or.inl ⟨by rfl, ?_⟩) ?_ ?_
          rotate_left
          · intro w'
            go_simp
            with_reducible rfl
          rotate_left
          · simp only [Act.put, List.setIfInBounds_toArray, List.set_cons_zero, List.set_cons_succ, i64_w, i32_w]
            rfl
          refine pure_ (i := 4) (N := some 56) (v := ?_) (a' := ?_) #[true, true, true, false, true, false, false] rfl rfl (by kernel_rfl) (fun _ _ _ h => h) (Or.inl ⟨by rfl, ?_⟩) ?_ ?_
          rotate_left
          · intro w'
            go_simp
            with_reducible rfl
          rotate_left
          · simp only [Act.put, List.setIfInBounds_toArray, List.set_cons_zero, List.set_cons_succ, i64_w, i32_w]
            rfl
          refine take_ (i := 3) (N := some 55) (v := ?_) (a' := ?_) #[true, true, true, true, true, false, false] rfl rfl (by kernel_rfl) (fun _ _ _ h => h) (Or.inl ⟨by rfl, ?_⟩) hHeld ?_ ?_
          rotate_left
          · rintro w' ⟨s0, s1, s2⟩
            go_simp
            with_reducible rfl
          rotate_left
          · simp only [Act.put, List.setIfInBounds_toArray, List.set_cons_zero, List.set_cons_succ, i64_w, i32_w]
            rfl
          refine take_ (i := 5) (N := some 57) (v := ?_) (a' := ?_) #[true, true, true, true, true, true, false] rfl rfl (by kernel_rfl) (fun _ _ _ h => h) (Or.inl ⟨by rfl, ?_⟩) hHeld ?_ ?_
          rotate_left
          · rintro w' ⟨s0, s1, s2⟩
            go_simp
            with_reducible rfl
          rotate_left
          · simp only [Act.put, List.setIfInBounds_toArray, List.set_cons_zero, List.set_cons_succ, i64_w, i32_w]
            rfl
          refine last_ (i := 6) (N := none) #[true, true, true, true, true, true, true] rfl rfl (by kernel_rfl) (by decide) (fun K hK => ?_)
          refine skip_ (w1 := ?_) (by rfl) rfl ?_ ?_
          rotate_left
          · go_simp
            rfl
          refine hK.out _ _ ?_
          clear hK K
          refine done_ (by kernel_rfl) ?_

          go_wp2_with fail
          go_ret
          refine ⟨by rw [ea.out]; rfl, b, (A6, ls.length, c6), ?_, HB10.out⟩
          unfold addL
          rw [if_neg (by rw [HMY.out]; decide), HFD.out]
          show Has B w9 (mapT p ((if addE L ls ⟨x0, x1⟩ = 0 then setF keyS' L ⟨⟨textL ls, b, (A6, ls.length, c6)⟩, ls, [⟨x0, x1⟩]⟩ else L).map fun s => s.e) :: (tm (if addE L ls ⟨x0, x1⟩ = 0 then setF keyS' L ⟨⟨textL ls, b, (A6, ls.length, c6)⟩, ls, [⟨x0, x1⟩]⟩ else L) ++ Ts))
          rw [if_pos ea.out, set_map]
          refine (Has.perm ?_ (((tm_set (s := ⟨⟨textL ls, b, (A6, ls.length, c6)⟩, ls, [⟨x0, x1⟩]⟩) HFD.out).append_right Ts).cons _).symm)
          have q := has_mid (As := [_, _]) HA10.out
          have q2 := has_mid (As := [_, _, _]) q.tail
          exact q2.tail
      · have d1 : (pushE [] ⟨x0, x1⟩ != 0) = true := bne_iff_ne.2 hpe
        have HPE := Aside0.mk hpe
        clear hpe
        go_wp2_with fail
        go_ret
        have ea : addE L ls ⟨x0, x1⟩ = pushE [] ⟨x0, x1⟩ := by unfold addE; rw [if_neg (by rw [HMY.out]; decide), HFD.out]; exact if_pos HPE.out
        refine ⟨by rw [ea]; rfl, 0, (none, 0, 0), ?_, HB8.out⟩
        unfold addL
        rw [if_neg (by rw [HMY.out]; decide), HFD.out]
        show Has B w8 (mapT p ((if addE L ls ⟨x0, x1⟩ = 0 then _ else L).map fun s => s.e) :: (tm (if addE L ls ⟨x0, x1⟩ = 0 then _ else L) ++ Ts))
        rw [if_neg (by rw [ea]; exact HPE.out)]
        exact HA8.out.tail.tail.tail.swap.tail
end Go.Proofs.Ytlhlaadnifkdhaa.Sr
namespace Go.Proofs.Ytlhlaadnifkdhaa.Sr
open Go.RowKit Go.Proofs.YtlhlaadnifkdhaaW.PrintWords Go.Proofs.YtlhlaadnifkdhaaW.PrintLast Go.Proofs.YtlhlaadnifkdhaaW.PrintMore Go.Proofs.Ytlhlaadnifkdhaa.Q Go.Proofs.Ytlhlaadnifkdhaa.Own Go.Proofs.Ytlhlaadnifkdhaa.Nmd
set_option linter.unusedVariables false
set_option linter.unusedSimpArgs false

/-- A series while the store expires: those still to come are as they were. -/
def nowS (lf : List UInt8 → Bool) (at_ : Int) (s : SS) : SS := ⟨s.e, s.ls, if lf (keyS' s) = true then s.xs else expL s.xs at_⟩
def nowL (lf : List UInt8 → Bool) (at_ : Int) (L : List SS) : List SS := L.map (nowS lf at_)
def stays (lf : List UInt8 → Bool) (s : SS) : Bool := lf (keyS' s) || !s.xs.isEmpty
/-- The entries that the map has. -/
def esL (lf : List UInt8 → Bool) (at_ : Int) (L : List SS) : List SE := ((nowL lf at_ L).filter (stays lf)).map fun s => s.e
def goneL (lf : List UInt8 → Bool) (at_ : Int) (L : List SS) : Nat := (L.map fun s => if lf (keyS' s) = true then 0 else s.xs.length - (expL s.xs at_).length).sum
section
variable {L1 L2 : List SS} {s : SS} {lf lf' : List UInt8 → Bool} {at_ : Int}
theorem other1 (hu : (L1 ++ s :: L2).Pairwise fun a b => keyS' a ≠ keyS' b) (h : ∀ n, lf' n = (lf n && n != keyS' s)) : (∀ t ∈ L1, lf' (keyS' t) = lf (keyS' t)) ∧ ∀ t ∈ L2, lf' (keyS' t) = lf (keyS' t) := by
  obtain ⟨-, h2, h3⟩ := List.pairwise_append.1 hu
  obtain ⟨h4, -⟩ := List.pairwise_cons.1 h2
  refine ⟨fun t ht => ?_, fun t ht => ?_⟩
  · rw [h, bne_iff_ne.2 (h3 t ht s (List.mem_cons_self ..)), Bool.and_true]
  · rw [h, bne_iff_ne.2 (fun q => h4 t ht q.symm), Bool.and_true]
theorem now_same {L : List SS} (h : ∀ t ∈ L, lf' (keyS' t) = lf (keyS' t)) : nowL lf' at_ L = nowL lf at_ L := by
  refine List.map_congr_left fun t ht => ?_
  unfold nowS
  rw [h t ht]
theorem stay_same {L : List SS} (h : ∀ t ∈ L, lf' (keyS' t) = lf (keyS' t)) : (nowL lf at_ L).filter (stays lf') = (nowL lf at_ L).filter (stays lf) := by
  refine List.filter_congr fun t ht => ?_
  obtain ⟨u, hu, rfl⟩ := List.mem_map.1 ht
  unfold stays
  rw [show lf' (keyS' (nowS lf at_ u)) = lf (keyS' (nowS lf at_ u)) from h u hu]
theorem now_cut (hu : (L1 ++ s :: L2).Pairwise fun a b => keyS' a ≠ keyS' b) (h : ∀ n, lf' n = (lf n && n != keyS' s)) (hs : lf (keyS' s) = true) :
    nowL lf at_ (L1 ++ s :: L2) = nowL lf at_ L1 ++ s :: nowL lf at_ L2 ∧ nowL lf' at_ (L1 ++ s :: L2) = nowL lf at_ L1 ++ ⟨s.e, s.ls, expL s.xs at_⟩ :: nowL lf at_ L2 := by
  obtain ⟨o1, o2⟩ := other1 hu h
  have e1 : nowS lf at_ s = s := by unfold nowS; rw [if_pos hs]
  have e2 : nowS lf' at_ s = ⟨s.e, s.ls, expL s.xs at_⟩ := by unfold nowS; rw [if_neg (by rw [h]; simp)]
  constructor
  · unfold nowL
    rw [List.map_append, List.map_cons, e1]
  · rw [← now_same (at_ := at_) o1, ← now_same (at_ := at_) o2]
    unfold nowL
    rw [List.map_append, List.map_cons, e2]
theorem es_keep (hu : (L1 ++ s :: L2).Pairwise fun a b => keyS' a ≠ keyS' b) (h : ∀ n, lf' n = (lf n && n != keyS' s)) (hs : lf (keyS' s) = true) (hx : expL s.xs at_ ≠ []) : esL lf' at_ (L1 ++ s :: L2) = esL lf at_ (L1 ++ s :: L2) := by
  obtain ⟨o1, o2⟩ := other1 hu h
  obtain ⟨e1, e2⟩ := now_cut (at_ := at_) hu h hs
  unfold esL
  rw [e1, e2, List.filter_append, List.filter_append, stay_same o1, List.filter_cons_of_pos (by unfold stays; cases q : expL s.xs at_ with | nil => exact absurd q hx | cons _ _ => simp), List.filter_cons_of_pos (by unfold stays; rw [hs]; rfl), stay_same o2]
  simp
theorem es_cut (hu : (L1 ++ s :: L2).Pairwise fun a b => keyS' a ≠ keyS' b) (h : ∀ n, lf' n = (lf n && n != keyS' s)) (hs : lf (keyS' s) = true) (hx : expL s.xs at_ = []) : esL lf' at_ (L1 ++ s :: L2) = cutF keyE (esL lf at_ (L1 ++ s :: L2)) (keyS' s) := by
  obtain ⟨o1, o2⟩ := other1 hu h
  obtain ⟨e1, e2⟩ := now_cut (at_ := at_) hu h hs
  obtain ⟨-, h2, h3⟩ := List.pairwise_append.1 hu
  obtain ⟨h4, -⟩ := List.pairwise_cons.1 h2
  have keep : ∀ (L : List SS), (∀ t ∈ L, keyS' t ≠ keyS' s) → cutF keyE (((nowL lf at_ L).filter (stays lf)).map fun s => s.e) (keyS' s) = ((nowL lf at_ L).filter (stays lf)).map fun s => s.e := by
    intro L hL
    unfold cutF
    rw [List.filter_eq_self]
    intro a ha
    obtain ⟨t, ht, rfl⟩ := List.mem_map.1 ha
    obtain ⟨u, hu, rfl⟩ := List.mem_map.1 (List.mem_filter.1 ht).1
    exact bne_iff_ne.2 (hL u hu)
  have k1 := keep L1 fun t ht => h3 t ht s (List.mem_cons_self ..)
  have k2 := keep L2 fun t ht q => h4 t ht q.symm
  unfold cutF at k1 k2 ⊢
  unfold esL
  rw [e1, e2, List.filter_append, List.filter_append, stay_same o1, List.filter_cons_of_neg (by unfold stays; rw [h]; simp [hx, keyS']), List.filter_cons_of_pos (by unfold stays; rw [hs]; rfl), stay_same o2, List.map_append, List.map_append, List.map_cons, List.filter_append, k1, List.filter_cons_of_neg (by simp [keyS']), k2]
theorem gone_cut (hu : (L1 ++ s :: L2).Pairwise fun a b => keyS' a ≠ keyS' b) (h : ∀ n, lf' n = (lf n && n != keyS' s)) (hs : lf (keyS' s) = true) : goneL lf' at_ (L1 ++ s :: L2) = goneL lf at_ (L1 ++ s :: L2) + (s.xs.length - (expL s.xs at_).length) := by
  obtain ⟨o1, o2⟩ := other1 hu h
  have same : ∀ L : List SS, (∀ t ∈ L, lf' (keyS' t) = lf (keyS' t)) → goneL lf' at_ L = goneL lf at_ L := fun L hL => by
    unfold goneL
    congr 1
    exact List.map_congr_left fun t ht => by rw [hL t ht]
  have a1 := same L1 o1
  have a2 := same L2 o2
  unfold goneL at a1 a2 ⊢
  rw [List.map_append, List.map_append, List.map_cons, List.map_cons, List.sum_append, List.sum_append, List.sum_cons, List.sum_cons, a1, a2, if_pos hs, if_neg (by rw [h]; simp)]
  omega
end
theorem gone_le (lf : List UInt8 → Bool) (at_ : Int) : ∀ {L : List SS}, (∀ s ∈ L, s.xs.length ≤ 32) → goneL lf at_ L ≤ 32 * L.length
  | [], _ => Nat.le_refl _
  | s :: L, h => by
    have ih := gone_le lf at_ (L := L) fun t ht => h t (List.mem_cons_of_mem _ ht)
    have h1 := h s (List.mem_cons_self ..)
    unfold goneL at ih ⊢
    rw [List.map_cons, List.sum_cons, List.length_cons]
    split <;> omega
end Go.Proofs.Ytlhlaadnifkdhaa.Sr
namespace Go.Proofs.Ytlhlaadnifkdhaa.Sr
open Go.RowKit Go.Proofs.YtlhlaadnifkdhaaW.PrintWords Go.Proofs.YtlhlaadnifkdhaaW.PrintLast Go.Proofs.YtlhlaadnifkdhaaW.PrintMore Go.Proofs.Ytlhlaadnifkdhaa.Q Go.Proofs.Ytlhlaadnifkdhaa.Own Go.Proofs.Ytlhlaadnifkdhaa.Nmd
set_option linter.unusedVariables false
set_option linter.unusedSimpArgs false
attribute [local go_sem ↓] Go.wp_at_zero Go.wp_at_succ

/-- A store of series, its map under way. -/
def loopT (p mb r n : Nat) (es : List SE) (left : Lit → Bool) (cnt : Nat) : Th where
  on w F := F p ∧ F mb ∧ F r ∧ mb ≠ p ∧ r ≠ p ∧ w.heap[p]? = some (.cells #[.map (some mb)] 58 (0, 0)) ∧ (∃ D, w.ranges Try.prog 9 RV mb r n D left cnt ∧ Tells keyE valE D es) ∧ Rise keyE es
  loc := by
    rintro w w' F ⟨h0, h1, h2, h3, h4, h5, ⟨D, ⟨es, clock, since, seen, c0, hb, a1, a2, a3, hr, rest⟩, h6⟩, h7⟩ hm
    exact ⟨h0, h1, h2, h3, h4, (hm p h0).trans h5, ⟨D, ⟨es, clock, since, seen, c0, (hm mb h1).trans hb, a1, a2, a3, (hm r h2).trans hr, rest⟩, h6⟩, h7⟩
section
variable {B : Nat} {w : World} {p mb r n cnt : Nat} {es : List SE} {left : Lit → Bool} {Ts : List Th}
theorem loop_start (h : Has B w (mapT p es :: Ts)) : ∃ mb n D, w.cell? ⟨p, 0, none⟩ = some (.map (some mb)) ∧ w.ownsMap Try.prog 9 RV mb n D ∧ Tells keyE valE D es ∧ ∀ w', w'.ranges Try.prog 9 RV mb w.heap.size n D (Go.Maps.has D) (Go.Maps.size D) → w.grownBy w' none → w'.heap.size = w.heap.size + 1 →
    Has B w' (loopT p mb w.heap.size n es (Go.Maps.has D) (Go.Maps.size D) :: Ts) ∧ Below B w w' := by
  obtain ⟨F, ⟨hF, mb, D, h1, h2, h3, h4, h5, h6⟩, hFb, put⟩ := h.head
  refine ⟨mb, _, D, by rw [blk_cell h3]; rfl, h4, h5, fun w' hr hg hs => ?_⟩
  have hfar : ∀ k, F k → w'.heap[k]? = w.heap[k]? := fun k hk => hg.block k (hFb k hk).2 (fun e => by cases e)
  have hp := (hFb p hF).2
  exact put w' (fun k => F k ∨ k = w.heap.size) (loopT p mb w.heap.size _ es (Go.Maps.has D) (Go.Maps.size D)) ((KeepF.refl F w).grown hg fun k e => by cases e)
    ⟨.inl hF, .inl h1, .inr rfl, h2, by omega, (hfar p hF).trans h3, ⟨D, hr, h5⟩, h6⟩ (fun k hk => by
      rcases hk with hk | rfl
      · exact ⟨.inl hk, by have := (hFb k hk).2; omega⟩
      · exact ⟨.inr (Nat.le_refl _), by omega⟩)
theorem loop_cell (h : Has B w Ts) (hm : loopT p mb r n es left cnt ∈ Ts) : w.cell? ⟨p, 0, none⟩ = some (.map (some mb)) ∧ (∃ D, w.ranges Try.prog 9 RV mb r n D left cnt) ∧ Rise keyE es := by
  obtain ⟨F, ⟨h0, h1, h2, h3, h4, h5, ⟨D, h6, h7⟩, h8⟩, -⟩ := h.mem hm
  exact ⟨by rw [blk_cell h5]; rfl, ⟨D, h6⟩, h8⟩
theorem loop_step (h : Has B w (loopT p mb r n es left cnt :: Ts)) : ∃ D, w.ranges Try.prog 9 RV mb r n D left cnt ∧ Tells keyE valE D es ∧ ∀ w' left' cnt', w'.ranges Try.prog 9 RV mb r n D left' cnt' → w.grownBy w' (some r) →
    Has B w' (loopT p mb r n es left' cnt' :: Ts) ∧ Below B w w' := by
  obtain ⟨F, ⟨h0, h1, h2, h3, h4, h5, ⟨D, h6, h7⟩, h8⟩, hFb, put⟩ := h.head
  refine ⟨D, h6, h7, fun w' left' cnt' hr hg => ?_⟩
  have hp : w'.heap[p]? = w.heap[p]? := hg.block p (hFb p h0).2 (fun e => by injection e with e; exact h4 e.symm)
  exact put w' F (loopT p mb r n es left' cnt') ((KeepF.refl F w).grown hg fun k e => by injection e with e; subst e; exact .inl h2)
    ⟨h0, h1, h2, h3, h4, hp.trans h5, ⟨D, hr, h7⟩, h8⟩ (fun k hk => ⟨.inl hk, Nat.lt_of_lt_of_le (hFb k hk).2 hg.size⟩)
theorem loop_del (h : Has B w (loopT p mb r n es left cnt :: Ts)) (m : List UInt8) : ∃ D, w.ranges Try.prog 9 RV mb r n D left cnt ∧ ∀ w' left' cnt', w'.ranges Try.prog 9 RV mb r n (D.del (.string m)) left' cnt' → w.mapTurned w' mb →
    Has B w' (loopT p mb r n (cutF keyE es m) left' cnt' :: Ts) ∧ Below B w w' := by
  obtain ⟨F, ⟨h0, h1, h2, h3, h4, h5, ⟨D, h6, h7⟩, h8⟩, hFb, put⟩ := h.head
  refine ⟨D, h6, fun w' left' cnt' hr ht => ?_⟩
  have hg := ht.grown
  have hp : w'.heap[p]? = w.heap[p]? := hg.block p (hFb p h0).2 (fun e => by injection e with e; exact h3 e.symm)
  exact put w' F (loopT p mb r n (cutF keyE es m) left' cnt') ((KeepF.refl F w).grown hg fun k e => by injection e with e; subst e; exact .inl h1)
    ⟨h0, h1, h2, h3, h4, hp.trans h5, ⟨_, hr, tells_del h7 (h6.owns.tidy lawK) h8 m⟩, cut_rise h8 _⟩ (fun k hk => ⟨.inl hk, Nat.lt_of_lt_of_le (hFb k hk).2 hg.size⟩)
theorem loop_end (h : Has B w (loopT p mb r n es left cnt :: Ts)) : Has B w (mapT p es :: Ts) := by
  obtain ⟨F, ⟨h0, h1, h2, h3, h4, h5, ⟨D, h6, h7⟩, h8⟩, hFb, put⟩ := h.head
  exact (put w F (mapT p es) (KeepF.refl F w) ⟨h0, mb, D, h1, h3, h5, by rw [← h7.size]; exact own_tight h6.owns, h7, h8⟩ (fun k hk => ⟨.inl hk, (hFb k hk).2⟩)).1
end
end Go.Proofs.Ytlhlaadnifkdhaa.Sr
namespace Go.Proofs.Ytlhlaadnifkdhaa.Sr
open Go.RowKit Go.Proofs.YtlhlaadnifkdhaaW.PrintWords Go.Proofs.YtlhlaadnifkdhaaW.PrintLast Go.Proofs.YtlhlaadnifkdhaaW.PrintMore Go.Proofs.Ytlhlaadnifkdhaa.Q Go.Proofs.Ytlhlaadnifkdhaa.Own Go.Proofs.Ytlhlaadnifkdhaa.Nmd
set_option linter.unusedVariables false
set_option linter.unusedSimpArgs false
attribute [local go_sem ↓] Go.wp_at_zero Go.wp_at_succ

theorem rlen_ring {B : Nat} {w : World} {b : Nat} {xs : List SM} {Ts : List Th} (h : Has B w (ringT b xs :: Ts)) : Calls Try.prog 32 #[ptr b] w fun e w' => e = .returned (.int .i64 (xs.length : Int)) ∧ w = w' := by
  obtain ⟨cs, f, hA, hr⟩ := ring_open h
  exact rlen_calls hA (List.mem_cons_self ..) hr
/-- What a store tells, behind an expiry. -/
def expS (L : List SS) (at_ : Int) : List SS := (L.map fun s => (⟨s.e, s.ls, expL s.xs at_⟩ : SS)).filter fun s => !s.xs.isEmpty
def expN (L : List SS) (at_ : Int) : Nat := (L.map fun s => s.xs.length - (expL s.xs at_).length).sum
def lfOf (left : Lit → Bool) (n : List UInt8) : Bool := left (.string n)
theorem all_start {L : List SS} {lf : List UInt8 → Bool} (h : ∀ s ∈ L, lf (keyS' s) = true) (at_ : Int) : nowL lf at_ L = L ∧ esL lf at_ L = L.map (fun s => s.e) ∧ goneL lf at_ L = 0 := by
  have e1 : nowL lf at_ L = L := by
    refine (List.map_congr_left fun s hs => ?_).trans (List.map_id _)
    unfold nowS
    rw [if_pos (h s hs)]
    rfl
  refine ⟨e1, ?_, ?_⟩
  · unfold esL
    rw [e1, List.filter_eq_self.2 fun s hs => by unfold stays; rw [h s hs]; rfl]
  · have : ∀ M : List SS, (∀ s ∈ M, lf (keyS' s) = true) → goneL lf at_ M = 0 := by
      intro M
      induction M with
      | nil => intro _; rfl
      | cons s M ih =>
        intro hM
        have := ih fun t ht => hM t (List.mem_cons_of_mem _ ht)
        unfold goneL at this ⊢
        rw [List.map_cons, List.sum_cons, this, if_pos (hM s (List.mem_cons_self ..))]
    exact this L h
theorem all_end {L : List SS} {lf : List UInt8 → Bool} (h : ∀ n, lf n = false) (at_ : Int) : nowL lf at_ L = L.map (fun s => (⟨s.e, s.ls, expL s.xs at_⟩ : SS)) ∧ esL lf at_ L = (expS L at_).map (fun s => s.e) ∧ goneL lf at_ L = expN L at_ := by
  have e1 : nowL lf at_ L = L.map (fun s => (⟨s.e, s.ls, expL s.xs at_⟩ : SS)) := by
    refine List.map_congr_left fun s hs => ?_
    unfold nowS
    rw [if_neg (by rw [h]; decide)]
  refine ⟨e1, ?_, ?_⟩
  · unfold esL expS
    rw [e1]
    congr 1
    refine List.filter_congr fun s _ => ?_
    unfold stays
    rw [h]
    rfl
  · unfold goneL expN
    congr 1
    exact List.map_congr_left fun s _ => if_neg (by rw [h]; decide)
theorem has_filter {B : Nat} {w : World} {L : List SS} {T : Th} {Ts : List Th} (q : SS → Bool) (h : Has B w (T :: (tm L ++ Ts))) : Has B w (T :: (tm (L.filter q) ++ Ts)) := by
  have p1 := tm_perm (List.filter_append_perm q L)
  have h1 := h.perm ((p1.symm.append_right Ts).cons T)
  rw [tm_app] at h1
  have h2 : Has B w ((tm (L.filter fun x => !q x)) ++ (T :: (tm (L.filter q) ++ Ts))) := h1.perm (by
    have a := (List.perm_append_comm (l₁ := tm (L.filter q)) (l₂ := tm (L.filter fun x => !q x))).append_right Ts
    have b := a.cons T
    rw [List.append_assoc (tm (L.filter fun x => !q x))] at b
    exact b.trans List.perm_middle.symm)
  exact has_drop h2
theorem keyS_inv {key : Value} {kl : Lit} (h : keyOf Try.prog 9 key = some kl) : ∃ x : ByteArray, key = .string x ∧ kl = .string x.data.toList ∧ x.size ≤ 9223372036854775807 := by
  have hk := Try.underlying9
  cases key <;> simp [keyOf, hk, mapKey] at h
  rename_i x
  by_cases q : x.size ≤ maxLen
  · simp [q] at h
    exact ⟨x, rfl, h.symm, q⟩
  · simp [q] at h
theorem es_has {L1 L2 : List SS} {s : SS} {lf : List UInt8 → Bool} {at_ : Int} (hu : (L1 ++ s :: L2).Pairwise fun a b => keyS' a ≠ keyS' b) (hs : lf (keyS' s) = true) : s.e ∈ esL lf at_ (L1 ++ s :: L2) := by
  obtain ⟨e1, -⟩ := now_cut (at_ := at_) (lf' := fun n => lf n && n != keyS' s) hu (fun n => rfl) hs
  unfold esL
  rw [e1]
  exact List.mem_map.2 ⟨s, List.mem_filter.2 ⟨by simp, by unfold stays; rw [hs]; rfl⟩, rfl⟩
set_option maxHeartbeats 4000000 in
set_option maxRecDepth 100000 in
theorem sexp_calls {B : Nat} {w : World} {p : Nat} {L : List SS} {Ts : List Th} (h : Has B w (mapT p (L.map fun s => s.e) :: (tm L ++ Ts))) (hok : SerOk L) (at_ : Int) :
    Calls Try.prog 10 #[ptr p, .int .i64 at_] w fun e w' => e = .returned (.int .i64 (expN L at_ : Int)) ∧ Has B w' (mapT p ((expS L at_).map fun s => s.e) :: (tm (expS L at_) ++ Ts)) ∧ Below B w w' := by
  have hu72 := Try.underlying72
  have hrise := rise_map.1 (map_rise h (List.mem_cons_self ..))
  have HU := Aside0.mk (rise_unlike hrise)
  have HN := Aside0.mk (snone_calls h (List.mem_cons_self ..))
  obtain ⟨mb, n, D, c0, hown, htell, hgo⟩ := loop_start h
  have HOK := Aside0.mk hok
  have HG := Aside0.mk hgo
  have HT := Aside0.mk htell
  clear h hok hgo htell hrise
  go_enter Try.func10, Try.ntmps10
  go_wp2_with fail
  refine HN.out.mono ?_
  rintro e w1 ⟨rfl, rfl⟩
  clear HN
  go_wp2_with (first
    | (at_range; refine wpList_range_own _ rfl _ 56 rfl 9 72 lawK Try.underlying56 RV mb n D rfl hown ?_; intro w0 hrg0 hg0 hs0)
    | go_in)
  go_frame
  go_loopw [5] (fun g wr => ∃ (left : Lit → Bool) (cnt : Nat), g = .int .i64 (goneL (lfOf left) at_ L : Int) ∧ Aside0 (∀ m, lfOf left m = true → ∃ s ∈ L, keyS' s = m) ∧ Aside0 (Has B wr (loopT p mb w.heap.size n (esL (lfOf left) at_ L) left cnt :: (tm (nowL (lfOf left) at_ L) ++ Ts)) ∧ Below B w wr)) (fun _ wr => wr.rangeLeft mb w.heap.size)
  case atStart =>
    have hl : ∀ s ∈ L, lfOf (Go.Maps.has D) (keyS' s) = true := fun s hs => by
      unfold lfOf
      rw [HT.out.has, find_map, find_of HU.out hs]
      rfl
    obtain ⟨e1, e2, e3⟩ := all_start hl at_
    refine ⟨Go.Maps.has D, Go.Maps.size D, by rw [e3]; rfl, ⟨fun m hm => ?_⟩, ⟨?_⟩⟩
    · unfold lfOf at hm
      rw [HT.out.has, find_map] at hm
      cases hf : findF keyS' L m with
      | none => rw [hf] at hm; cases hm
      | some s => exact ⟨s, find_mem hf⟩
    · rw [e1, e2]
      exact HG.out _ hrg0 hg0 hs0
  case round =>
    clear c0 hown HT HG hrg0 hg0 hs0 D
    obtain ⟨left, cnt, rfl, HL, HB⟩ := hrel
    obtain ⟨D1, hrg, ht1, hgo1⟩ := loop_step HB.out.1
    obtain ⟨-, -, hri⟩ := loop_cell HB.out.1 (List.mem_cons_self ..)
    go_wp2_with (first
      | (at_next; refine wpList_next_ranges _ rfl _ rfl 9 lawK RV Value.string (fun v => v) (fun key kl hk => (keyS_inv hk).imp fun x hx => hx.1) (fun v y hv => ⟨v, rfl⟩) mb w.heap.size n D1 left cnt rfl hrg ?_ ?_)
      | go_in)
    · intro h0 hl0
      go_wp2_with fail
      go_ret
      obtain ⟨e1, e2, e3⟩ := all_end (L := L) (lf := lfOf left) (fun m => hl0 _) at_
      have hE := loop_end HB.out.1
      rw [e1, e2] at hE
      exact ⟨by rw [← e3]; rfl, has_filter _ hE, HB.out.2⟩
    · intro x c kl y ps w1 cnt1 hk hlk hy hat hrg1 hlt hg1 hs1 hen
      obtain ⟨x', hx1, rfl, hxs⟩ := keyS_inv hk
      injection hx1 with hx1
      subst hx1
      obtain ⟨s, hs, hks⟩ := HL.out _ hlk
      obtain ⟨L1, L2, he⟩ := List.append_of_mem hs
      have hu := HU.out
      rw [he] at hu
      have hls : lfOf left (keyS' s) = true := by rw [hks]; exact hlk
      have hmem := es_has (at_ := at_) hu hls
      rw [← he] at hmem
      have hhit := ht1.hit _ _ (find_of (rise_unlike hri) hmem) (.held c)
      have hc : c = valE s.e := by
        have q := hat (.held c)
        rw [show keyE s.e = x.data.toList from hks, q] at hhit
        unfold RV at hy
        injection hy with hy
        rw [← (Prod.mk.inj hy).1] at hhit
        injection hhit
      subst hc
      have hlf : ∀ m, lfOf (fun z => left z && !z.sameKey (.string x.data.toList)) m = (lfOf left m && m != keyS' s) := fun m => by rw [hks]; rfl
      obtain ⟨e1, e2⟩ := now_cut (at_ := at_) hu hlf hls
      have eg := gone_cut (at_ := at_) hu hlf hls
      rw [← he] at e1 e2 eg
      have hle := gone_le (lfOf (fun z => left z && !z.sameKey (.string x.data.toList))) at_ HOK.out.full
      have hl8 := HOK.out.le
      have ew : wrap64 ((goneL (lfOf left) at_ L : Int) + ((s.xs.length - (expL s.xs at_).length : Nat) : Int)) = (goneL (lfOf (fun z => left z && !z.sameKey (.string x.data.toList))) at_ L : Int) := (w64 (by omega) (by omega)).trans (by omega)
      have EK : Aside0 (expL s.xs at_ ≠ [] → esL (lfOf (fun z => left z && !z.sameKey (.string x.data.toList))) at_ L = esL (lfOf left) at_ L) := ⟨fun q => by rw [he]; exact es_keep hu hlf hls q⟩
      have EC : Aside0 (expL s.xs at_ = [] → esL (lfOf (fun z => left z && !z.sameKey (.string x.data.toList))) at_ L = cutF keyE (esL (lfOf left) at_ L) x.data.toList) := ⟨fun q => by have z := es_cut (at_ := at_) hu hlf hls q; rw [← he, hks] at z; exact z⟩
      have HL2 : Aside0 (∀ m, lfOf (fun z => left z && !z.sameKey (.string x.data.toList)) m = true → ∃ s ∈ L, keyS' s = m) := ⟨fun m hm => HL.out m (by rw [hlf] at hm; exact (Bool.and_eq_true_iff.1 hm).1)⟩
      obtain ⟨hA1, hB1⟩ := hgo1 w1 _ cnt1 hrg1 hg1
      have hA2 := hA1.box #[ptr s.e.b, .slice s.e.hd.1 s.e.hd.2.1 s.e.hd.2.2] 72
      have HB2 : Aside0 (Below B w (w1.alloc (.cells #[ptr s.e.b, .slice s.e.hd.1 s.e.hd.2.1 s.e.hd.2.2] 72))) := ⟨(HB.out.2.trans hB1).trans ((Below.refl B w1).alloc hA1.size _)⟩
      rw [e1, tm_app, tm_cons, List.append_assoc] at hA2
      have HXP := Aside0.mk (rexp_calls (has_mid (As := _ :: _ :: tm (nowL (lfOf left) at_ L1)) hA2) at_)
      have E2 := Aside0.mk e2
      have HKX := Aside0.mk hk
      have HMS := Aside0.mk (show wr.rangeLeft mb w.heap.size = cnt from hrg.left_eq)
      generalize hbo : w1.heap.size = bo at HXP
      unfold valE at hen
      clear hA1 hB1 hA2 hrg1 hhit hy hat hmem hls hu he hs hks hlk hlf e1 e2 eg hle hl8 hri ht1 hrg hgo1 hk hs1 hg1
      go_wp2_with fail
      clear hbo hen
      refine HXP.out.mono ?_
      rintro e w3 ⟨rfl, hA3, hB3⟩
      have hA3 := has_back hA3
      have HB3 := Aside0.mk (HB2.out.trans hB3)
      obtain ⟨bc, -, -, -⟩ := hA3.box_cell (b := bo) (cs := #[ptr s.e.b, .slice s.e.hd.1 s.e.hd.2.1 s.e.hd.2.2]) (t := 72) (by simp)
      have o0 : w3.cell? ⟨bo, 0, none⟩ = some (ptr s.e.b) := bc 0
      have HLE := Aside0.mk (rlen_ring (has_mid (As := _ :: _ :: tm (nowL (lfOf left) at_ L1)) hA3))
      have HA3 : Aside0 (Has B w3 (loopT p mb w.heap.size n (esL (lfOf left) at_ L) (fun z => left z && !z.sameKey (.string x.data.toList)) cnt1 :: (tm (nowL (lfOf (fun z => left z && !z.sameKey (.string x.data.toList))) at_ L) ++ Ts))) := ⟨by
        rw [E2.out, tm_app, tm_cons, List.append_assoc]
        exact hA3.tail⟩
      clear hA3 hB3 HXP HB2 bc
      go_wp2_with fail
      refine HLE.out.mono ?_
      rintro e w4 ⟨rfl, rfl⟩
      clear HLE
      obtain ⟨cl, -, -⟩ := loop_cell HA3.out (List.mem_cons_self ..)
      generalize hlf : (fun z => left z && !z.sameKey (.string x.data.toList)) = left1 at ew EK EC HL2 HA3
      by_cases hz : expL s.xs at_ = []
      · have d1 : (((expL s.xs at_).length : Int) == 0) = true := by rw [hz]; rfl
        have d2 : ((expL s.xs at_).length : Int) = 0 := by rw [hz]; rfl
        have ec := EC.out hz
        have EC := Aside0.mk ec
        clear hz EK ec
        obtain ⟨D2, hrg2, hgo2⟩ := loop_del HA3.out x.data.toList
        go_wp2_with (first
          | (at_delete; refine wpList_delete_ranges _ rfl _ _ 56 9 rfl 72 lawK Try.underlying56 RV mb w.heap.size n D2 _ _ rfl hrg2 (.string x) (.string x.data.toList) rfl HKX.out ?_; intro w5 cnt5 hrg5 hle5 hturn; have HRG := Aside0.mk hrg5; clear hrg5; go_frame)
          | go_in)
        have hrg5 := HRG.out
        rw [show (fun z => left1 z && !z.sameKey (.string x.data.toList)) = left1 from by rw [← hlf]; exact Go.Maps.strike_twice left (.string x.data.toList)] at hrg5
        obtain ⟨hA5, hB5⟩ := hgo2 w5 left1 cnt5 hrg5 hturn
        rw [← EC.out] at hA5
        go_roundw
        case rel => exact ⟨left1, cnt5, rfl, HL2, ⟨hA5, HB3.out.trans hB5⟩⟩
        case measure =>
          rw [hrg5.left_eq, HMS.out]
          omega
      · have hp : (expL s.xs at_).length ≠ 0 := fun q => hz (List.eq_nil_of_length_eq_zero q)
        have d1 : (((expL s.xs at_).length : Int) == 0) = false := beq_eq_false_iff_ne.2 (by omega)
        have d2 : ¬ ((expL s.xs at_).length : Int) = 0 := by omega
        have ek := EK.out hz
        rw [← ek] at HA3
        clear hz EC ek
        go_wp2_with fail
        go_roundw
        case rel => exact ⟨left1, cnt1, by rw [← ew], HL2, ⟨HA3.out, HB3.out⟩⟩
        case measure =>
          obtain ⟨-, ⟨D2, hrg2⟩, -⟩ := loop_cell HA3.out (List.mem_cons_self ..)
          rw [hrg2.left_eq, HMS.out]
          omega
end Go.Proofs.Ytlhlaadnifkdhaa.Sr
namespace Go.Proofs.Ytlhlaadnifkdhaa.Sr
open Go.RowKit Go.Proofs.YtlhlaadnifkdhaaW.PrintWords Go.Proofs.YtlhlaadnifkdhaaW.PrintLast Go.Proofs.YtlhlaadnifkdhaaW.PrintMore Go.Proofs.Ytlhlaadnifkdhaa.Q Go.Proofs.Ytlhlaadnifkdhaa.Own Go.Proofs.Ytlhlaadnifkdhaa.Nmd
set_option linter.unusedVariables false
set_option linter.unusedSimpArgs false

/-! Some things as one -/
theorem all_loc {w w' : World} : ∀ {Gs : List Th} {F : Nat → Prop}, All 0 w F Gs → (∀ k, F k → w'.heap[k]? = w.heap[k]?) → All 0 w' F Gs
  | [], _, _, _ => trivial
  | T :: Gs, F, ⟨G, h1, h2, h3⟩, hm => ⟨G, T.loc h1 fun k hk => hm k (h2 k hk).1, fun k hk => ⟨(h2 k hk).1, Nat.zero_le _, by
      have e := hm k (h2 k hk).1
      rw [Array.getElem?_eq_getElem (h2 k hk).2.2] at e
      exact (Array.getElem?_eq_some_iff.1 e).1⟩, all_loc h3 fun k hk => hm k hk.1⟩
theorem all_low {B : Nat} {w : World} : ∀ {Gs : List Th} {F : Nat → Prop}, All B w F Gs → All 0 w F Gs
  | [], _, _ => trivial
  | T :: Gs, F, ⟨G, h1, h2, h3⟩ => ⟨G, h1, fun k hk => ⟨(h2 k hk).1, Nat.zero_le _, (h2 k hk).2.2⟩, all_low h3⟩
theorem all_high {B : Nat} {w : World} : ∀ {Gs : List Th} {F : Nat → Prop}, All 0 w F Gs → (∀ k, F k → B ≤ k) → All B w F Gs
  | [], _, _, _ => trivial
  | T :: Gs, F, ⟨G, h1, h2, h3⟩, hb => ⟨G, h1, fun k hk => ⟨(h2 k hk).1, hb k (h2 k hk).1, (h2 k hk).2.2⟩, all_high h3 fun k hk => hb k hk.1⟩
theorem all_cut {B : Nat} {w : World} {Ts : List Th} : ∀ {Gs : List Th} {S : Nat → Prop}, All B w S (Gs ++ Ts) → ∃ F, All B w F Gs ∧ (∀ k, F k → S k ∧ B ≤ k ∧ k < w.heap.size) ∧ All B w (fun k => S k ∧ ¬ F k) Ts
  | [], S, h => ⟨fun _ => False, trivial, fun _ f => f.elim, h.grow fun k hk _ => ⟨hk, fun f => f⟩⟩
  | T :: Gs, S, ⟨F1, h1, h2, h3⟩ => by
    obtain ⟨F2, a, b, c⟩ := all_cut h3
    exact ⟨fun k => F1 k ∨ F2 k, ⟨F1, h1, fun k hk => ⟨.inl hk, (h2 k hk).2⟩, a.grow fun k hk _ => ⟨.inr hk, (b k hk).1.2⟩⟩, fun k hk => hk.elim (h2 k) (fun q => ⟨(b k q).1.1, (b k q).2⟩), c.grow fun k hk _ => ⟨hk.1.1, fun q => q.elim hk.1.2 hk.2⟩⟩
theorem all_join {B : Nat} {w : World} {Ts : List Th} : ∀ {Gs : List Th} {F S : Nat → Prop}, All B w F Gs → (∀ k, F k → S k) → All B w (fun k => S k ∧ ¬ F k) Ts → All B w S (Gs ++ Ts)
  | [], F, S, _, _, h => h.grow fun k hk _ => hk.1
  | T :: Gs, F, S, ⟨F1, h1, h2, h3⟩, hs, h => ⟨F1, h1, fun k hk => ⟨hs k (h2 k hk).1, (h2 k hk).2⟩, all_join h3 (fun k hk => ⟨hs k hk.1, hk.2⟩) (h.grow fun k hk _ => ⟨⟨hk.1, fun q => hk.2 (h2 k q).1⟩, fun q => hk.2 q.1⟩)⟩
def groupT (Gs : List Th) : Th where
  on w F := All 0 w F Gs
  loc := fun h hm => all_loc h hm
theorem has_group {B : Nat} {w : World} {Gs Ts : List Th} (h : Has B w (Gs ++ Ts)) : Has B w (groupT Gs :: Ts) := by
  obtain ⟨h0, h1⟩ := h
  obtain ⟨F, a, b, c⟩ := all_cut h1
  exact ⟨h0, F, all_low a, fun k hk => ⟨trivial, (b k hk).2⟩, c⟩
theorem has_ungroup {B : Nat} {w : World} {Gs Ts : List Th} (h : Has B w (groupT Gs :: Ts)) : Has B w (Gs ++ Ts) := by
  obtain ⟨h0, F, a, b, c⟩ := h
  exact ⟨h0, all_join (all_high a fun k hk => (b k hk).2.1) (fun k _ => trivial) c⟩

/-! What a store tells -/
abbrev PV := List LB × List SM
def keyT (ls : List LB) : List UInt8 := (textL ls).data.toList
def keyP (v : PV) : List UInt8 := keyT v.1
def view (s : SS) : PV := (s.ls, s.xs)
def viewL (L : List SS) : List PV := L.map view
def addV (V : List PV) (ls : List LB) (x : SM) : Int × List PV :=
  if Pure.mayB ls = false then (70, V) else match findF keyP V (keyT ls) with
    | some v => (pushE v.2 x, V.map fun v => if keyP v = keyT ls then (v.1, pushL v.2 x) else v)
    | none => if pushE [] x ≠ 0 then (pushE [] x, V) else if 8 ≤ V.length then (170, V) else (0, setF keyP V (ls, [x]))
def expV (V : List PV) (at_ : Int) : List PV := (V.map fun v => (v.1, expL v.2 at_)).filter fun v => !v.2.isEmpty
def expVN (V : List PV) (at_ : Int) : Nat := (V.map fun v => v.2.length - (expL v.2 at_).length).sum
section
variable {L : List SS}
theorem key_view (hn : ∀ s ∈ L, s.e.name = textL s.ls) {s : SS} (hs : s ∈ L) : keyP (view s) = keyS' s := by
  unfold keyP keyT keyS' keyE view
  rw [hn s hs]
theorem find_view : ∀ {L : List SS} (hn : ∀ s ∈ L, s.e.name = textL s.ls) (n : List UInt8), findF keyP (viewL L) n = (findF keyS' L n).map view
  | [], _, _ => rfl
  | y :: L, hn, n => by
    have ih := find_view (L := L) (fun s hs => hn s (List.mem_cons_of_mem _ hs)) n
    have hk := key_view hn (List.mem_cons_self ..)
    unfold viewL findF at ih ⊢
    rw [List.map_cons, List.find?_cons, List.find?_cons, hk]
    cases (keyS' y == n) with
    | true => rfl
    | false => exact ih
theorem cut_view : ∀ {L : List SS} (hn : ∀ s ∈ L, s.e.name = textL s.ls) (n : List UInt8), cutF keyP (viewL L) n = viewL (cutF keyS' L n)
  | [], _, _ => rfl
  | y :: L, hn, n => by
    have ih := cut_view (L := L) (fun s hs => hn s (List.mem_cons_of_mem _ hs)) n
    have hk := key_view hn (List.mem_cons_self ..)
    unfold viewL cutF at ih ⊢
    rw [List.map_cons, List.filter_cons, List.filter_cons, hk]
    cases (keyS' y != n) with
    | true => exact congrArg (view y :: ·) ih
    | false => exact ih
theorem ins_view : ∀ {L : List SS} (hn : ∀ s ∈ L, s.e.name = textL s.ls) {x : SS} (hx : x.e.name = textL x.ls), insF keyP (viewL L) (view x) = viewL (insF keyS' L x)
  | [], _, _, _ => rfl
  | y :: L, hn, x, hx => by
    have ih := ins_view (L := L) (fun s hs => hn s (List.mem_cons_of_mem _ hs)) hx
    have hk := key_view hn (List.mem_cons_self ..)
    have hkx : keyP (view x) = keyS' x := by unfold keyP keyT keyS' keyE view; rw [hx]
    unfold viewL at ih ⊢
    rw [List.map_cons]
    unfold insF
    rw [hk, hkx]
    split
    · rfl
    · rw [List.map_cons, ih]
theorem set_view (hn : ∀ s ∈ L, s.e.name = textL s.ls) {x : SS} (hx : x.e.name = textL x.ls) : setF keyP (viewL L) (view x) = viewL (setF keyS' L x) := by
  have hkx : keyP (view x) = keyS' x := by unfold keyP keyT keyS' keyE view; rw [hx]
  unfold setF
  rw [hkx, cut_view hn, ins_view (fun s hs => hn s (cut_mem.1 hs).1) hx]
theorem pushed_view (hn : ∀ s ∈ L, s.e.name = textL s.ls) (n : List UInt8) (x : SM) : (viewL L).map (fun v => if keyP v = n then ((v.1, pushL v.2 x) : PV) else v) = viewL (pushedS L n x) := by
  unfold viewL pushedS
  rw [List.map_map, List.map_map]
  refine List.map_congr_left fun s hs => ?_
  show (if keyP (view s) = n then ((s.ls, pushL s.xs x) : PV) else view s) = view (if keyS' s = n then ⟨s.e, s.ls, pushL s.xs x⟩ else s)
  rw [key_view hn hs]
  split <;> rfl
theorem addE_view (hn : ∀ s ∈ L, s.e.name = textL s.ls) (ls : List LB) (x : SM) : addE L ls x = (addV (viewL L) ls x).1 := by
  unfold addE addV
  by_cases hm : Pure.mayB ls = false
  · rw [if_pos hm, if_pos hm]
  · rw [if_neg hm, if_neg hm, find_view hn]
    show (match findF keyS' L (keyT ls) with | some s => _ | none => _) = _
    cases findF keyS' L (keyT ls) with
    | some s => rfl
    | none =>
      show (if _ then _ else _) = (if pushE [] x ≠ 0 then _ else _ : Int × List PV).1
      split
      · rfl
      · rw [show (viewL L).length = L.length from List.length_map ..]
        split <;> rfl
theorem addL_view (hn : ∀ s ∈ L, s.e.name = textL s.ls) (ls : List LB) (x : SM) (b : Nat) (hd : Option Addr × Nat × Nat) : viewL (addL L ls x b hd) = (addV (viewL L) ls x).2 := by
  have hE := addE_view hn ls x
  unfold addL
  unfold addV at hE ⊢
  by_cases hm : Pure.mayB ls = false
  · rw [if_pos hm, if_pos hm]
  · rw [if_neg hm] at hE
    rw [if_neg hm, if_neg hm]
    rw [find_view hn] at hE ⊢
    show viewL (match findF keyS' L (keyT ls) with | some s => _ | none => _) = _
    cases hq : findF keyS' L (keyT ls) with
    | some s => exact (pushed_view hn _ x).symm
    | none =>
      rw [hq] at hE
      have hE : addE L ls x = (if pushE [] x ≠ 0 then (pushE [] x, viewL L) else if 8 ≤ (viewL L).length then ((170 : Int), viewL L) else (0, setF keyP (viewL L) (ls, [x])) : Int × List PV).1 := hE
      show viewL (if addE L ls x = 0 then _ else L) = (if pushE [] x ≠ 0 then (pushE [] x, viewL L) else if 8 ≤ (viewL L).length then ((170 : Int), viewL L) else (0, setF keyP (viewL L) (ls, [x])) : Int × List PV).2
      rw [hE]
      by_cases h1 : pushE [] x ≠ 0
      · rw [if_pos h1, if_neg h1]
      · rw [if_neg h1]
        by_cases h2 : 8 ≤ (viewL L).length
        · rw [if_pos h2, if_neg (show ¬ (170 : Int) = 0 by decide)]
        · rw [if_neg h2, if_pos rfl]
          exact (set_view hn (x := ⟨⟨textL ls, b, hd⟩, ls, [x]⟩) rfl).symm
theorem exp_view (at_ : Int) : viewL (expS L at_) = expV (viewL L) at_ ∧ expN L at_ = expVN (viewL L) at_ := by
  constructor
  · unfold expS expV viewL
    rw [List.map_map, List.filter_map, List.filter_map, List.map_map]
    rfl
  · unfold expN expVN viewL
    rw [List.map_map]
    rfl
end
theorem push_len {xs : List SM} {x : SM} (h : xs.length ≤ 32) : (pushL xs x).length ≤ 32 := by
  unfold pushL
  split
  · rename_i h0
    unfold pushE at h0
    rw [List.length_append]
    split at h0
    · cases h0
    · split at h0
      · cases h0
      · split at h0
        · cases h0
        · show xs.length + 1 ≤ 32
          omega
  · exact h
theorem exp_len (xs : List SM) (at_ : Int) : (expL xs at_).length ≤ xs.length := (List.dropWhile_suffix _).length_le
theorem set_mem {L : List SS} {s t : SS} (h : t ∈ setF keyS' L s) : t = s ∨ t ∈ L := by
  rcases List.mem_cons.1 ((ins_perm _ s).mem_iff.1 h) with q | q
  · exact .inl q
  · exact .inr (cut_mem.1 q).1
theorem add_ok {L : List SS} (h : SerOk L) (ls : List LB) (x : SM) (b : Nat) (hd : Option Addr × Nat × Nat) : SerOk (addL L ls x b hd) := by
  unfold addL
  by_cases hm : Pure.mayB ls = false
  · rw [if_pos hm]
    exact h
  rw [if_neg hm]
  cases hf : findF keyS' L (textL ls).data.toList with
  | some s =>
    have key : ∀ t ∈ pushedS L (textL ls).data.toList x, ∃ s ∈ L, t.e = s.e ∧ t.ls = s.ls ∧ t.xs.length ≤ 32 := fun t ht => by
      obtain ⟨s, hs, rfl⟩ := List.mem_map.1 ht
      refine ⟨s, hs, ?_⟩
      split
      · exact ⟨rfl, rfl, push_len (h.full s hs)⟩
      · exact ⟨rfl, rfl, h.full s hs⟩
    refine ⟨fun t ht => ?_, fun t ht => ?_, by unfold pushedS; rw [List.length_map]; exact h.le, fun t ht => ?_⟩
    · obtain ⟨s, hs, -, e, -⟩ := key t ht
      rw [e]
      exact h.may s hs
    · obtain ⟨s, hs, e1, e2, -⟩ := key t ht
      rw [e1, e2]
      exact h.name s hs
    · obtain ⟨s, hs, -, -, e⟩ := key t ht
      exact e
  | none =>
    show SerOk (if addE L ls x = 0 then setF keyS' L ⟨⟨textL ls, b, hd⟩, ls, [x]⟩ else L)
    split
    · rename_i h0
      have h8 : L.length < 8 := by
        unfold addE at h0
        rw [if_neg hm, hf] at h0
        have h0 : (if pushE [] x ≠ 0 then pushE [] x else if 8 ≤ L.length then (170 : Int) else 0) = 0 := h0
        by_cases q : pushE [] x ≠ 0
        · rw [if_pos q] at h0
          exact absurd h0 q
        · rw [if_neg q] at h0
          by_cases q8 : 8 ≤ L.length
          · rw [if_pos q8] at h0
            cases h0
          · omega
      refine ⟨fun t ht => ?_, fun t ht => ?_, ?_, fun t ht => ?_⟩
      · rcases set_mem ht with rfl | q
        · simpa using hm
        · exact h.may t q
      · rcases set_mem ht with rfl | q
        · rfl
        · exact h.name t q
      · unfold setF
        rw [(ins_perm _ _).length_eq, List.length_cons]
        have : (cutF keyS' L (keyS' ⟨⟨textL ls, b, hd⟩, ls, [x]⟩)).length ≤ L.length := List.length_filter_le _ _
        omega
      · rcases set_mem ht with rfl | q
        · show 1 ≤ 32
          omega
        · exact h.full t q
    · exact h
theorem exp_ok {L : List SS} (h : SerOk L) (at_ : Int) : SerOk (expS L at_) := by
  have key : ∀ t ∈ expS L at_, ∃ s ∈ L, t.e = s.e ∧ t.ls = s.ls ∧ t.xs.length ≤ 32 := fun t ht => by
    obtain ⟨s, hs, rfl⟩ := List.mem_map.1 (List.mem_filter.1 ht).1
    exact ⟨s, hs, rfl, rfl, Nat.le_trans (exp_len _ _) (h.full s hs)⟩
  refine ⟨fun t ht => ?_, fun t ht => ?_, ?_, fun t ht => ?_⟩
  · obtain ⟨s, hs, -, e, -⟩ := key t ht
    rw [e]
    exact h.may s hs
  · obtain ⟨s, hs, e1, e2, -⟩ := key t ht
    rw [e1, e2]
    exact h.name s hs
  · unfold expS
    refine Nat.le_trans (List.length_filter_le _ _) ?_
    rw [List.length_map]
    exact h.le
  · obtain ⟨s, hs, -, -, e⟩ := key t ht
    exact e

/-! The store as one thing -/
def storeT (p : Nat) (V : List PV) : Th where
  on w F := ∃ L, viewL L = V ∧ SerOk L ∧ (groupT (mapT p (L.map fun s => s.e) :: tm L)).on w F
  loc := by
    rintro w w' F ⟨L, h1, h2, h3⟩ hm
    exact ⟨L, h1, h2, (groupT (mapT p (L.map fun s => s.e) :: tm L)).loc h3 hm⟩
theorem store_open {B : Nat} {w : World} {p : Nat} {V : List PV} {Ts : List Th} (h : Has B w (storeT p V :: Ts)) : ∃ L, viewL L = V ∧ SerOk L ∧ Has B w (mapT p (L.map fun s => s.e) :: (tm L ++ Ts)) := by
  obtain ⟨h0, F, ⟨L, h1, h2, h3⟩, h4⟩ := h
  have q := has_ungroup (Gs := mapT p (L.map fun s => s.e) :: tm L) (Ts := Ts) ⟨h0, F, h3, h4⟩
  exact ⟨L, h1, h2, q⟩
theorem store_shut {B : Nat} {w : World} {p : Nat} {L : List SS} {Ts : List Th} (h : Has B w (mapT p (L.map fun s => s.e) :: (tm L ++ Ts))) (hok : SerOk L) : Has B w (storeT p (viewL L) :: Ts) := by
  obtain ⟨h0, F, h3, h4⟩ := has_group (Gs := mapT p (L.map fun s => s.e) :: tm L) (Ts := Ts) h
  exact ⟨h0, F, ⟨L, rfl, hok, h3⟩, h4⟩
theorem ser_ok0 : SerOk [] := ⟨fun _ h => absurd h List.not_mem_nil, fun _ h => absurd h List.not_mem_nil, Nat.zero_le _, fun _ h => absurd h List.not_mem_nil⟩
section
variable {B : Nat} {w : World} {p : Nat} {V : List PV} {Ts : List Th}
theorem st_new (h : Has B w Ts) : Calls Try.prog 8 #[] w fun e w' => ∃ p, e = .returned (ptr p) ∧ Has B w' (storeT p [] :: Ts) ∧ Below B w w' := by
  refine (snew_calls h).mono ?_
  rintro e w' ⟨p, rfl, h1, h2⟩
  exact ⟨p, rfl, store_shut (L := []) h1 ser_ok0, h2⟩
theorem st_len (h : Has B w (storeT p V :: Ts)) : Calls Try.prog 11 #[ptr p] w fun e w' => e = .returned (.int .i64 (V.length : Int)) ∧ w = w' := by
  obtain ⟨L, rfl, hok, hA⟩ := store_open h
  refine (slen_calls hA (List.mem_cons_self ..)).mono ?_
  rintro e w' ⟨rfl, rfl⟩
  exact ⟨by unfold viewL; rw [List.length_map, List.length_map], rfl⟩
theorem st_add (h : Has B w (storeT p V :: Ts)) {A : Option Addr} {c : Nat} {ls : List LB} (x : SM) (hC : ∀ w', Has B w' Ts → Below B w w' → Kd.C kL w' A ls.length ls) (hc : ls.length ≤ c) (hl : ls.length ≤ 9223372036854775807) :
    Calls Try.prog 9 #[ptr p, .slice A ls.length c, .agg #[.int .i64 x.f0, .int .i64 x.f1]] w fun e w' => e = .returned (.int .i64 (addV V ls x).1) ∧ Has B w' (storeT p (addV V ls x).2 :: Ts) ∧ Below B w w' := by
  obtain ⟨L, rfl, hok, hA⟩ := store_open h
  refine (sadd_calls hA hok x hC hc hl).mono ?_
  rintro e w' ⟨rfl, b, hd, h1, h2⟩
  have h3 := store_shut h1 (add_ok hok ls x b hd)
  rw [addL_view hok.name] at h3
  exact ⟨by rw [addE_view hok.name], h3, h2⟩
theorem st_exp (h : Has B w (storeT p V :: Ts)) (at_ : Int) : Calls Try.prog 10 #[ptr p, .int .i64 at_] w fun e w' => e = .returned (.int .i64 (expVN V at_ : Int)) ∧ Has B w' (storeT p (expV V at_) :: Ts) ∧ Below B w w' := by
  obtain ⟨L, rfl, hok, hA⟩ := store_open h
  refine (sexp_calls hA hok at_).mono ?_
  rintro e w' ⟨rfl, h1, h2⟩
  have h3 := store_shut h1 (exp_ok hok at_)
  rw [(exp_view at_).1] at h3
  exact ⟨by rw [(exp_view at_).2], h3, h2⟩
end
end Go.Proofs.Ytlhlaadnifkdhaa.Sr
namespace Go.Proofs.Ytlhlaadnifkdhaa.Sr
open Go.RowKit Go.Proofs.YtlhlaadnifkdhaaW.PrintWords Go.Proofs.YtlhlaadnifkdhaaW.PrintLast Go.Proofs.YtlhlaadnifkdhaaW.PrintMore Go.Proofs.Ytlhlaadnifkdhaa.Q Go.Proofs.Ytlhlaadnifkdhaa.Own Go.Proofs.Ytlhlaadnifkdhaa.Nmd
set_option linter.unusedVariables false
set_option linter.unusedSimpArgs false

def cellsL (x : LB) : List Value := [.string x.f0, .string x.f1]
theorem reps_L (w : World) (base : Nat) (ok : Nat → Prop) (l : List LB) : Reps (kL.M w base ok) 2 l (l.flatMap cellsL) := by
  have h : ∀ (n : Nat) (l : List LB), l.length = n → Reps (kL.M w base ok) 2 l (l.flatMap cellsL) := by
    intro n
    induction n with
    | zero =>
      intro l hl
      rw [List.length_eq_zero_iff.1 hl]
      exact Reps.none _ _
    | succ n ih =>
      intro l hl
      have hne : l ≠ [] := by rintro rfl; simp at hl
      have he := List.dropLast_concat_getLast hne
      rw [← he, List.flatMap_append]
      have e1 : [l.getLast hne].flatMap cellsL = cellsL (l.getLast hne) := by simp
      rw [e1]
      exact Reps.snoc (ih _ (by rw [List.length_dropLast]; omega)) (k31_mkM w base ok _) rfl
  exact h _ l rfl
/-- A row of labels that is written out. -/
theorem lit_L {B : Nat} {w : World} {Ts : List Th} (h : Has B w Ts) (l : List LB) (hl : l.length ≤ 9223372036854775807) : Has B (w.alloc (.cells (l.flatMap cellsL).toArray 31)) (rowL (.slice (some ⟨w.heap.size, 0, none⟩) l.length l.length) l :: Ts) :=
  h.row ((Below.refl _ w).alloc (Nat.le_refl _) _) ⟨fun _ _ => trivial, OwnRow.lit (ps := l) w w.heap.size (inner := l.flatMap cellsL) (reps_L _ _ _ l) (Nat.le_refl _) hl⟩
theorem lit_readL {B : Nat} {w : World} {Ts : List Th} {A : Option Addr} {n c : Nat} {l : List LB} (h : Has B w Ts) (hm : rowL (.slice A n c) l ∈ Ts) : Kd.C kL w A l.length l := (row_reads h hm).2.2
/-! SeriesRoom -/
end Go.Proofs.Ytlhlaadnifkdhaa.Sr
