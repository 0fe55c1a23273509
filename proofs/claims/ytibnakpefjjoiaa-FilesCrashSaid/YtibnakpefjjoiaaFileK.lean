/- A store of files: read, made, told: walked. No law is proved here. -/
import Derived.Test.YtibnakpefjjoiaaFileJ
namespace Go.Proofs.Ytibnakpefjjoiaa.Fs
open Go.RowKit Go.Proofs.YtibnakpefjjoiaaW.PrintWords Go.Proofs.YtibnakpefjjoiaaW.PrintLast Go.Proofs.YtibnakpefjjoiaaW.PrintMore Go.Proofs.Ytibnakpefjjoiaa.Q Go.Proofs.Ytibnakpefjjoiaa.Own
set_option linter.unusedVariables false
set_option linter.unusedSimpArgs false
attribute [local go_sem ↓] Go.wp_at_zero Go.wp_at_succ
attribute [local go_sem] Opn.str_leq Opn.str_gtr Opn.str_geq max2_int min2_int max_two min_two max_three min_three max_four min_four

/-- What a reading tells: a row of the caller's own, and why not. -/
def ReadPost (B : Nat) (w : World) (p : Nat) (st : Stt) (s : ByteArray) (Ts : List Th) (e : Ending) (w' : World) : Prop := ∃ v, e = .returned (.tuple #[v, .int .i64 (toldE st s)]) ∧ Has B w' (stoT p st :: rowB v (toldX st s).f1 :: Ts) ∧ Below B w w'
set_option maxHeartbeats 2000000 in
set_option maxRecDepth 100000 in
theorem read_calls {B : Nat} {w : World} {p : Nat} {st : Stt} {Ts : List Th} (h : Has B w (stoT p st :: Ts)) (hr : Rise st.L) (hg : OkS st) {s : ByteArray} (hs : s.size ≤ 9223372036854775807) :
    Calls Try.prog 13 #[ptr p, .string s] w (ReadPost B w p st s Ts) := by
  have h1 : Has B (w.alloc (.cells #[.slice none 0 0] 23)) (stoT p st :: bT w.heap.size (.slice none 0 0) :: Ts) := (h.box #[.slice none 0 0] 23).swap
  have HB1 : Aside0 (Below B w (w.alloc (.cells #[.slice none 0 0] 23))) := ⟨(Below.refl B w).alloc h.size _⟩
  have HW : Aside0 (Calls Try.prog 36 #[ptr p, .string s, .func (.func 38) #[] #[ptr w.heap.size]] (w.alloc (.cells #[.slice none 0 0] 23)) (fun e w' => ∃ v, MethPost B (w.alloc (.cells #[.slice none 0 0] 23)) p (toldE st s, st) (bT w.heap.size v :: rowB v (toldX st s).f1 :: Ts) e w')) := ⟨by
    unfold toldE toldX
    have nil : ∀ {e : Ending} {w' : World} {r : Int}, StPost B (w.alloc (.cells #[.slice none 0 0] 23)) p st.left st.acts st.L (bT w.heap.size (.slice none 0 0) :: Ts) r e w' → ∃ v, MethPost B (w.alloc (.cells #[.slice none 0 0] 23)) p (r, st) (bT w.heap.size v :: rowB v zF.f1 :: Ts) e w' := fun ⟨a1, a2, a3⟩ => ⟨.slice none 0 0, a1, (a2.row (Below.refl _ _) (Kd.R_nil kB 5 _ _ _)).third.back3.swap.third.swap.third.swap |> fun q => by
      have q2 := a2.row (Below.refl _ _) (Kd.R_nil kB 5 _ _ _)
      exact q2.swap.third.swap.back3.third.swap.third.swap.third |> fun _ => q2.perm ((List.Perm.swap _ _ _).trans (List.Perm.cons _ (List.Perm.swap _ _ _))), a3⟩
    by_cases hl : st.left = 0
    · rw [if_pos hl, if_pos hl]
      exact (with_refused h1 s hl _).mono fun e w' hp => nil hp
    · rw [if_neg hl, if_neg hl]
      cases hx : findF st.L s.data.toList with
      | none => exact (with_missing h1 hs hx hl _).mono fun e w' hp => nil hp
      | some x =>
        have hm : x.f1.length ≤ 100000000 := hg.few x (find_mem hx).1
        have hw := with_read (Ts' := fun v => bT w.heap.size v :: rowB v x.f1 :: Ts) h1 hs hx hl (by have := hg.n; omega) (fun A c b w1 h => clo_read hm h)
        rw [with_same hr hx] at hw
        exact hw⟩
  clear h h1 hg hs hr
  unfold ReadPost
  generalize toldE st s = r at HW ⊢
  generalize (toldX st s).f1 = ys at HW ⊢
  go_enter Try.func13, Try.ntmps13
  go_wp2_with fail
  refine HW.out.mono ?_
  rintro e w2 ⟨v, rfl, hA, hB⟩
  dsimp only at hA
  generalize w.heap.size = b1 at hA ⊢
  obtain ⟨A, c, rfl, -, -⟩ := hA.reads (d := kB) (e := 5) (v := v) (xs := ys) (by simp)
  obtain ⟨qa, qf, -, -⟩ := Has.box_cell hA (b := b1) (cs := #[.slice A ys.length c]) (t := 23) (by simp)
  have q0 : w2.cell? ⟨b1, 0, none⟩ = some (.slice A ys.length c) := qa 0
  have f0 := qf 0
  obtain ⟨hA2, hB2⟩ := hA.swap.box_set 0 (.slice A ys.length c)
  obtain ⟨qb, -, -, -⟩ := Has.box_cell hA2 (b := b1) (cs := #[.slice A ys.length c]) (t := 23) (by simp)
  have q1 : (w2.setCell ⟨b1, 0, none⟩ (.slice A ys.length c)).cell? ⟨b1, 0, none⟩ = some (.slice A ys.length c) := qb 0
  have HA := Aside0.mk hA2.tail
  have HB := Aside0.mk ((HB1.out.trans hB).trans hB2)
  clear hA hB hA2 hB2 qa qb qf HW
  go_wp2_with fail
  refine bodyPost_ret (v := .tuple #[.slice A ys.length c, .int .i64 r]) (by simp [results, Try.results13, go_sem, q1]) rfl ?_
  exact ⟨_, rfl, HA.out, HB.out⟩
def maxI (a b : Int) : Int := if a < b then b else a
set_option maxRecDepth 100000 in
theorem dead_calls {B : Nat} {w : World} {p : Nat} {st : Stt} {Ts : List Th} (h : Has B w (stoT p st :: Ts)) :
    Calls Try.prog 19 #[ptr p] w fun e w' => e = .returned (.bool (st.left == 0)) ∧ w = w' := by
  have HN := Aside0.mk (none_calls h)
  obtain ⟨mb, c0, c1, c2, cf, hne, hlt⟩ := store_cells h
  clear h
  go_enter Try.func19, Try.ntmps19
  go_wp2_with fail
  refine HN.out.mono ?_
  rintro e w1 ⟨rfl, rfl⟩
  go_wp2_with fail
  go_ret
  exact ⟨rfl, rfl⟩
set_option maxRecDepth 100000 in
theorem acts_calls {B : Nat} {w : World} {p : Nat} {st : Stt} {Ts : List Th} (h : Has B w (stoT p st :: Ts)) :
    Calls Try.prog 15 #[ptr p] w fun e w' => e = .returned (.int .i64 st.acts) ∧ w = w' := by
  have HN := Aside0.mk (none_calls h)
  obtain ⟨mb, c0, c1, c2, cf, hne, hlt⟩ := store_cells h
  clear h
  go_enter Try.func15, Try.ntmps15
  go_wp2_with fail
  refine HN.out.mono ?_
  rintro e w1 ⟨rfl, rfl⟩
  go_wp2_with fail
  go_ret
  exact ⟨rfl, rfl⟩
set_option maxHeartbeats 1000000 in
set_option maxRecDepth 100000 in
theorem power_calls {B : Nat} {w : World} {p : Nat} {st : Stt} {Ts : List Th} (h : Has B w (stoT p st :: Ts)) (n : Int) :
    Calls Try.prog 17 #[ptr p, .int .i64 n] w fun e w' => e = .returned (.tuple #[]) ∧ Has B w' (stoT p ⟨maxI n (-1), st.acts, st.L⟩ :: Ts) ∧ Below B w w' := by
  have HN := Aside0.mk (none_calls h)
  obtain ⟨mb, c0, c1, c2, cf, hne, hlt⟩ := store_cells h
  generalize hy : maxI n (-1) = y
  have e6 : (if n < -1 then (-1 : Int) else n) = y := hy
  have e7 : max n (-1) = y := by rw [← e6]; omega
  obtain ⟨⟨hA, hB⟩, -⟩ := store_set h y
  have HA := Aside0.mk hA
  have HB := Aside0.mk hB
  have f1 := cf 1
  clear h hA hB cf hy
  go_enter Try.func17, Try.ntmps17
  go_wp2_with fail
  refine HN.out.mono ?_
  rintro e w1 ⟨rfl, rfl⟩
  go_wp2_with fail
  go_end0
  exact ⟨rfl, HA.out, HB.out⟩
theorem files_new {B : Nat} {w : World} {Ts : List Th} (h : Has B w Ts) : Has B ((w.alloc (.map #[] 0)).alloc (.cells #[.map (some w.heap.size), .int .i64 (-1), .int .i64 0] 62)) (stoT (w.heap.size + 1) ⟨-1, 0, []⟩ :: Ts) ∧ Below B w ((w.alloc (.map #[] 0)).alloc (.cells #[.map (some w.heap.size), .int .i64 (-1), .int .i64 0] 62)) := by
  have hb : Below w.heap.size w ((w.alloc (.map #[] 0)).alloc (.cells #[.map (some w.heap.size), .int .i64 (-1), .int .i64 0] 62)) := ((Below.refl _ w).alloc (Nat.le_refl _) _).alloc (by simp) _
  refine ⟨h.new hb (F := fun k => k = w.heap.size ∨ k = w.heap.size + 1) ⟨.inr rfl, w.heap.size, .map [], .inl rfl, by omega, ?_, ?_, files_start _ _, List.Pairwise.nil, fun q e => by cases e⟩ (fun k hk => by
    rw [World.size_alloc, World.size_alloc]
    omega), hb.mono h.size⟩
  · have := blk_new (w.alloc (.map #[] 0)) (.cells #[.map (some w.heap.size), .int .i64 (-1), .int .i64 0] 62)
    rw [World.size_alloc] at this
    exact this
  · exact (World.ownsMap_made w Try.prog 9 RV).alloc _
set_option maxHeartbeats 1000000 in
set_option maxRecDepth 100000 in
theorem new_calls {B : Nat} {w : World} {Ts : List Th} (h : Has B w Ts) :
    Calls Try.prog 9 #[] w fun e w' => ∃ p, e = .returned (ptr p) ∧ Has B w' (stoT p ⟨-1, 0, []⟩ :: Ts) ∧ Below B w w' := by
  have HF := Aside0.mk (files_new h)
  have hmk : (Instr.makeMap 60 none).run Try.prog w = .ok (.map (some w.heap.size)) (w.alloc (.map #[] 0)) := rfl
  clear h
  go_enter Try.func9, Try.ntmps9
  go_wp2_with fail
  go_ret
  exact ⟨_, rfl, HF.out.1, HF.out.2⟩
end Go.Proofs.Ytibnakpefjjoiaa.Fs
