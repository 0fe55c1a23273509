/- Add: walked. No law is proved here. -/
import Derived.Test.YtlhlaadnifkdhaaSerD
namespace Go.Proofs.Ytlhlaadnifkdhaa.Sr
open Go.RowKit Go.Proofs.YtlhlaadnifkdhaaW.PrintWords Go.Proofs.YtlhlaadnifkdhaaW.PrintLast Go.Proofs.YtlhlaadnifkdhaaW.PrintMore Go.Proofs.Ytlhlaadnifkdhaa.Q Go.Proofs.Ytlhlaadnifkdhaa.Own Go.Proofs.Ytlhlaadnifkdhaa.Nmd
set_option linter.unusedVariables false
set_option linter.unusedSimpArgs false
attribute [local go_sem ↓] Go.wp_at_zero Go.wp_at_succ

/-- What Add leaves; a new series has its ring, its labels' place. -/
def addL (L : List SS) (ls : List LB) (x : SM) (b : Nat) (hd : Option Addr × Nat × Nat) : List SS :=
  if Pure.mayB ls = false then L else match findF keyS' L (textL ls).data.toList with
    | some _ => pushedS L (textL ls).data.toList x
    | none => if addE L ls x = 0 then setF keyS' L ⟨⟨textL ls, b, hd⟩, ls, [x]⟩ else L
theorem pushed_cut {L : List SS} (h : Rise keyS' L) {n : List UInt8} {s : SS} (hf : findF keyS' L n = some s) (x : SM) :
    ∃ L1 L2, L = L1 ++ s :: L2 ∧ pushedS L n x = L1 ++ ⟨s.e, s.ls, pushL s.xs x⟩ :: L2 := by
  obtain ⟨hm, hk⟩ := find_mem hf
  obtain ⟨L1, L2, rfl⟩ := List.append_of_mem hm
  refine ⟨L1, L2, rfl, ?_⟩
  have hu := rise_unlike h
  obtain ⟨-, h2, h3⟩ := List.pairwise_append.1 hu
  obtain ⟨h4, -⟩ := List.pairwise_cons.1 h2
  unfold pushedS
  rw [List.map_append, List.map_cons, if_pos hk]
  congr 1
  · refine (List.map_congr_left fun y hy => ?_).trans (List.map_id _)
    rw [if_neg (fun q => h3 y hy s (List.mem_cons_self ..) (q.trans hk.symm))]
    rfl
  · congr 1
    refine (List.map_congr_left fun y hy => ?_).trans (List.map_id _)
    rw [if_neg (fun q => h4 y hy (hk.trans q.symm))]
    rfl
theorem tm_perm {L M : List SS} (h : L.Perm M) : (tm L).Perm (tm M) := h.flatMap_right _
theorem cut_none {L : List SS} {n : List UInt8} (h : findF keyS' L n = none) : cutF keyS' L n = L := by
  unfold cutF
  rw [List.filter_eq_self]
  intro a ha
  exact bne_iff_ne.2 (find_none.1 h a ha)
theorem tm_set {L : List SS} {s : SS} (h : findF keyS' L (keyS' s) = none) : (tm (setF keyS' L s)).Perm (ringT s.e.b s.xs :: rowL (.slice s.e.hd.1 s.e.hd.2.1 s.e.hd.2.2) s.ls :: tm L) := by
  unfold setF
  rw [cut_none h]
  exact tm_perm (ins_perm L s)
theorem has_drop {B : Nat} {w : World} : ∀ {As Bs : List Th}, Has B w (As ++ Bs) → Has B w Bs
  | [], _, h => h
  | _ :: As, _, h => has_drop (As := As) h.tail
theorem oneB (b : Nat) (A : Option Addr) (n c : Nat) : Try.prog.built 72 [(0, ptr b), (1, .slice A n c)] = some #[ptr b, .slice A n c] := by kernel_rfl
set_option maxHeartbeats 4000000 in
set_option maxRecDepth 100000 in
theorem sadd_calls {B : Nat} {w : World} {p : Nat} {L : List SS} {Ts : List Th} (h : Has B w (mapT p (L.map fun s => s.e) :: (tm L ++ Ts))) (hok : SerOk L) {A : Option Addr} {c : Nat} {ls : List LB} (x : SM)
    (hC : ∀ w', Has B w' Ts → Below B w w' → Kd.C kL w' A ls.length ls) (hc : ls.length ≤ c) (hl : ls.length ≤ 9223372036854775807) :
    Calls Try.prog 9 #[ptr p, .slice A ls.length c, .agg #[.int .i64 x.f0, .int .i64 x.f1]] w fun e w' => e = .returned (.int .i64 (addE L ls x)) ∧ ∃ b hd, Has B w' (mapT p ((addL L ls x b hd).map fun s => s.e) :: (tm (addL L ls x b hd) ++ Ts)) ∧ Below B w w' := by
  obtain ⟨x0, x1⟩ := x
  have hrise := rise_map.1 (map_rise h (List.mem_cons_self ..))
  have hu26 := Try.underlying26
  have hu72 := Try.underlying72
  have HA1 : Aside0 (Has B (w.alloc (.cells #[.int .i64 x0, .int .i64 x1] 26)) (mapT p (L.map fun s => s.e) :: xT w.heap.size ⟨x0, x1⟩ :: (tm L ++ Ts))) := ⟨(h.box #[.int .i64 x0, .int .i64 x1] 26).swap⟩
  have HB1 : Aside0 (Below B w (w.alloc (.cells #[.int .i64 x0, .int .i64 x1] 26))) := ⟨(Below.refl B w).alloc h.size _⟩
  have HC := Aside0.mk hC
  have HOK := Aside0.mk hok
  have HR := Aside0.mk hrise
  have HN := Aside0.mk (snone_calls HA1.out (List.mem_cons_self ..))
  have HM := Aside0.mk (may_c (HC.out _ (has_drop (As := tm L) HA1.out.tail.tail) HB1.out) hc hl)
  have HCC := Aside0.mk hc
  clear h hok hC hrise hc hl
  dsimp only
  generalize hbx : w.heap.size = bx at HA1
  go_enter Try.func9, Try.ntmps9
  go_wp2_with fail
  refine HN.out.mono ?_
  rintro e w1 ⟨rfl, rfl⟩
  clear HN hbx
  generalize w.alloc (.cells #[.int .i64 x0, .int .i64 x1] 26) = w1 at HA1 HB1 HM ⊢
  go_wp2_with fail
  refine HM.out.mono ?_
  rintro e w2 ⟨rfl, hb2⟩
  have HA2 := Aside0.mk (HA1.out.below hb2)
  have HB2 := Aside0.mk (HB1.out.trans (hb2.mono HA1.out.size))
  clear HA1 HB1 HM hb2
  cases hmay : Pure.mayB ls with
  | false =>
    have HMY := Aside0.mk hmay
    clear hmay
    go_wp2_with fail
    go_ret
    refine ⟨by unfold addE; rw [if_pos HMY.out]; rfl, 0, (none, 0, 0), ?_, HB2.out⟩
    unfold addL
    rw [if_pos HMY.out]
    exact HA2.out.swap.tail
  | true =>
    have HMY := Aside0.mk hmay
    have HP := Aside0.mk (print_c (HC.out _ (has_drop (As := tm L) HA2.out.tail.tail) HB2.out) HCC.out hmay)
    clear hmay
    go_wp2_with fail
    refine HP.out.mono ?_
    rintro e w3 ⟨rfl, hb3⟩
    have HA3 := Aside0.mk (HA2.out.below hb3)
    have HB3 := Aside0.mk (HB2.out.trans (hb3.mono HA2.out.size))
    clear HA2 HB2 HP hb3
    have hts := text_size HMY.out
    obtain ⟨mb, cmap, lk1, lk2⟩ := map_look HA3.out (List.mem_cons_self ..) (s := textL ls) (by omega)
    have hfm := find_map (textL ls).data.toList L
    rw [hfm] at lk1 lk2
    clear hfm hts
    obtain ⟨bc, -, -, -⟩ := HA3.out.box_cell (b := bx) (cs := #[.int .i64 x0, .int .i64 x1]) (t := 26) (by simp)
    have x0c : w3.cell? ⟨bx, 0, none⟩ = some (.int .i64 x0) := bc 0
    have x1c : w3.cell? ⟨bx, 1, none⟩ = some (.int .i64 x1) := bc 1
    clear bc
    cases hfd : findF keyS' L (textL ls).data.toList with
    | some s =>
      rw [hfd] at lk1 lk2
      obtain ⟨lk, -⟩ := lk1 s.e rfl
      clear lk1 lk2
      have HFD := Aside0.mk hfd
      clear hfd
      unfold valE at lk
      obtain ⟨L1, L2, e1, e2⟩ := pushed_cut HR.out HFD.out ⟨x0, x1⟩
      have y0 : ∀ o, (w3.alloc o).cell? ⟨bx, 0, none⟩ = some (.int .i64 x0) := fun o => c_al o x0c
      have y1 : ∀ o, (w3.alloc o).cell? ⟨bx, 1, none⟩ = some (.int .i64 x1) := fun o => c_al o x1c
      have hA4 := HA3.out.alloc (.cells #[ptr s.e.b, .slice s.e.hd.1 s.e.hd.2.1 s.e.hd.2.2] 72)
      have HB4 : Aside0 (Below B w3 (w3.alloc (.cells #[ptr s.e.b, .slice s.e.hd.1 s.e.hd.2.1 s.e.hd.2.2] 72))) := ⟨(Below.refl B w3).alloc HA3.out.size _⟩
      rw [show tm L = tm L1 ++ (ringT s.e.b s.xs :: rowL (.slice s.e.hd.1 s.e.hd.2.1 s.e.hd.2.2) s.ls :: tm L2) from by rw [e1, tm_app, tm_cons]] at hA4
      have hA5 : Has B (w3.alloc (.cells #[ptr s.e.b, .slice s.e.hd.1 s.e.hd.2.1 s.e.hd.2.2] 72)) ((mapT p (L.map fun s => s.e) :: xT bx ⟨x0, x1⟩ :: tm L1) ++ ringT s.e.b s.xs :: (rowL (.slice s.e.hd.1 s.e.hd.2.1 s.e.hd.2.2) s.ls :: tm L2 ++ Ts)) := by
        rw [List.append_assoc] at hA4
        exact hA4
      have HPU := Aside0.mk (rpush_calls (has_mid hA5) ⟨x0, x1⟩)
      dsimp only at HPU
      have E2 := Aside0.mk e2
      clear hA4 hA5 e1 e2 HA3
      go_wp2_with fail
      refine HPU.out.mono ?_
      rintro e w5 ⟨rfl, hA6, hB6⟩
      have HA6 := Aside0.mk (has_back hA6)
      have HB6 := Aside0.mk ((HB3.out.trans HB4.out).trans hB6)
      clear hA6 hB6 HB3 HB4 HPU
      go_wp2_with fail
      go_ret
      refine ⟨by unfold addE; rw [if_neg (by rw [HMY.out]; decide), HFD.out]; rfl, 0, (none, 0, 0), ?_, HB6.out⟩
      unfold addL
      rw [if_neg (by rw [HMY.out]; decide), HFD.out]
      show Has B w5 (mapT p ((pushedS L (textL ls).data.toList ⟨x0, x1⟩).map fun s => s.e) :: (tm (pushedS L (textL ls).data.toList ⟨x0, x1⟩) ++ Ts))
      rw [pushed_e, E2.out, tm_app, tm_cons, List.append_assoc]
      exact HA6.out.swap.tail
    | none =>
      rw [hfd] at lk1 lk2
      have lk := lk2 rfl
      clear lk1 lk2
      have HFD := Aside0.mk hfd
      clear hfd
      have HA4 := Aside0.mk (HA3.out.alloc (.cells #[.pointer none, .slice none 0 0] 72))
      have HB4 : Aside0 (Below B w (w3.alloc (.cells #[.pointer none, .slice none 0 0] 72))) := ⟨HB3.out.trans ((Below.refl B w3).alloc HA3.out.size _)⟩
      have HNW := Aside0.mk (rnew_calls HA4.out)
      clear x0c x1c HA3 HB3
      go_wp2_with fail
      clear cmap
      refine HNW.out.mono ?_
      rintro e w5 ⟨b, rfl, hA5, hB5⟩
      have HA5 := Aside0.mk hA5
      have HB5 := Aside0.mk (HB4.out.trans hB5)
      clear hA5 hB5 HA4 HB4 HNW
      have HCL := Aside0.mk (clone_calls HA5.out (A := A) (c := c) (l := ls) (fun w' hb => HC.out w' (has_drop (As := tm L) (HA5.out.below hb).tail.tail.tail) (HB5.out.trans (hb.mono HA5.out.size))) (by have := (Pure.good_small HMY.out).1; omega))
      go_wp2_with fail
      refine HCL.out.mono ?_
      rintro e w6 ⟨v, rfl, hA6, hB6⟩
      obtain ⟨A6, c6, rfl, -, -⟩ := hA6.reads (List.mem_cons_self ..)
      have HA6 := Aside0.mk hA6
      have HB6 := Aside0.mk (HB5.out.trans hB6)
      clear hA6 hB6 HA5 HB5 HCL
      have hbu := oneB b A6 ls.length c6
      obtain ⟨bc, -, -, -⟩ := HA6.out.box_cell (b := bx) (cs := #[.int .i64 x0, .int .i64 x1]) (t := 26) (by simp)
      have x0c : w6.cell? ⟨bx, 0, none⟩ = some (.int .i64 x0) := bc 0
      have x1c : w6.cell? ⟨bx, 1, none⟩ = some (.int .i64 x1) := bc 1
      have y0 : ∀ o, (w6.alloc o).cell? ⟨bx, 0, none⟩ = some (.int .i64 x0) := fun o => c_al o x0c
      have y1 : ∀ o, (w6.alloc o).cell? ⟨bx, 1, none⟩ = some (.int .i64 x1) := fun o => c_al o x1c
      clear bc
      have hA7 := HA6.out.box #[ptr b, .slice A6 ls.length c6] 72
      have HB7 : Aside0 (Below B w (w6.alloc (.cells #[ptr b, .slice A6 ls.length c6] 72))) := ⟨HB6.out.trans ((Below.refl B w6).alloc HA6.out.size _)⟩
      have HPU := Aside0.mk (rpush_calls hA7.third ⟨x0, x1⟩)
      dsimp only at HPU
      clear hA7 HB6 HA6
      generalize hbo : w6.heap.size = bo at HPU
      go_wp2_with fail
      clear hbo x0c x1c y0 y1 hbu
      refine HPU.out.mono ?_
      rintro e w8 ⟨rfl, hA8, hB8⟩
      have HA8 := Aside0.mk hA8
      have HB8 := Aside0.mk (HB7.out.trans hB8)
      clear hA8 hB8 HB7 HPU
      by_cases hpe : pushE [] ⟨x0, x1⟩ = 0
      · have hpl : pushL [] ⟨x0, x1⟩ = [⟨x0, x1⟩] := by unfold pushL; rw [if_pos hpe]; rfl
        rw [hpl] at HA8
        have HPE := Aside0.mk hpe
        rw [hpe]
        clear hpe hpl
        have e0 : addE L ls ⟨x0, x1⟩ = if 8 ≤ L.length then 170 else 0 := by
          unfold addE
          rw [if_neg (by rw [HMY.out]; decide), HFD.out]
          exact if_neg (fun q => q HPE.out)
        by_cases h8 : 8 ≤ L.length
        · obtain ⟨mb8, cmap, hlen⟩ := map_len HA8.out (p := p) (es := L.map fun s => s.e) (by simp) 3
          rw [List.length_map] at hlen
          have h8' : (8 : Int) ≤ (L.length : Int) := by omega
          have d8 : decide ((L.length : Int) ≥ 8) = true := decide_eq_true h8'
          have H8 := Aside0.mk h8
          have E0 := Aside0.mk e0
          clear h8 e0
          go_wp2_with fail
          go_ret
          have ea : addE L ls ⟨x0, x1⟩ = 170 := E0.out.trans (if_pos H8.out)
          refine ⟨by rw [ea]; rfl, 0, (none, 0, 0), ?_, HB8.out⟩
          unfold addL
          rw [if_neg (by rw [HMY.out]; decide), HFD.out]
          show Has B w8 (mapT p ((if addE L ls ⟨x0, x1⟩ = 0 then _ else L).map fun s => s.e) :: (tm (if addE L ls ⟨x0, x1⟩ = 0 then _ else L) ++ Ts))
          rw [if_neg (by rw [ea]; decide)]
          exact HA8.out.tail.tail.tail.swap.tail
        · obtain ⟨mb8, cmap, hlen⟩ := map_len HA8.out (p := p) (es := L.map fun s => s.e) (by simp) 3
          rw [List.length_map] at hlen
          have h8' : ¬ (8 : Int) ≤ (L.length : Int) := by omega
          have d8 : decide ((L.length : Int) ≥ 8) = false := decide_eq_false h8'
          obtain ⟨bc, -, -, -⟩ := HA8.out.box_cell (b := bo) (cs := #[ptr b, .slice A6 ls.length c6]) (t := 72) (by simp)
          have o0 : w8.cell? ⟨bo, 0, none⟩ = some (ptr b) := bc 0
          have o1 : w8.cell? ⟨bo, 1, none⟩ = some (.slice A6 ls.length c6) := bc 1
          have hA9 : Has B w8.drew (mapT p (L.map fun s => s.e) :: (ringT b [⟨x0, x1⟩] :: boxT bo #[ptr b, .slice A6 ls.length c6] 72 :: rowL (.slice A6 ls.length c6) ls :: xT bx ⟨x0, x1⟩ :: (tm L ++ Ts))) := (has_mid (As := [_, _, _]) HA8.out).drew
          have hts := text_size HMY.out
          obtain ⟨mb9, w9, cm9, hput, hA10, hB10⟩ := map_put hA9 (s := textL ls) (by omega) (by rw [List.length_map]; omega) ⟨textL ls, b, (A6, ls.length, c6)⟩ rfl
          have e9 : mb9 = mb8 := by
            have := cm9.symm.trans cmap
            injection this with this
            injection this with this
            injection this
          subst e9
          unfold valE at hput
          dsimp only at hput
          have HA10 := Aside0.mk hA10
          have HB10 := Aside0.mk ((bl_drew HB8.out).trans hB10)
          have ea := Aside0.mk (e0.trans (if_neg h8))
          clear bc hA9 hA10 hB10 hts e0 h8 cm9 HA8 HB8
          go_wp2_with fail
          refine start_ (n := 7) (S := fun w' => w'.cell? ⟨p, 0, none⟩ = some (.map (some mb9)) ∧ w'.cell? ⟨bo, 0, none⟩ = some (ptr b) ∧ w'.cell? ⟨bo, 1, none⟩ = some (.slice A6 ls.length c6)) (ds := [6]) #[false, false, false, false, false, false, false] (by kernel_rfl) rfl rfl ⟨cmap, o0, o1⟩ (fun hHeld => ?_)
          refine pure_ (i := 0) (N := some 52) (v := ?_) (a' := ?_) #[true, false, false, false, false, false, false] rfl rfl (by kernel_rfl) (fun _ _ _ h => h) (Or.inl ⟨by rfl, ?_⟩) ?_ ?_
          rotate_left
          · intro w'
            go_simp
            with_reducible rfl
          rotate_left
          · simp only [Act.put, List.setIfInBounds_toArray, List.set_cons_zero, List.set_cons_succ, i64_w, i32_w]
            rfl
          refine pure_ (i := 1) (N := some 53) (v := ?_) (a' := ?_) #[true, true, false, false, false, false, false] rfl rfl (by kernel_rfl) (fun _ _ _ h => h) (Or.inl ⟨by rfl, ?_⟩) ?_ ?_
          rotate_left
          · intro w'
            go_simp
            with_reducible rfl
          rotate_left
          · simp only [Act.put, List.setIfInBounds_toArray, List.set_cons_zero, List.set_cons_succ, i64_w, i32_w]
            rfl
          refine pure_ (i := 2) (N := some 54) (v := ?_) (a' := ?_) #[true, true, true, false, false, false, false] rfl rfl (by kernel_rfl) (fun _ _ _ h => h) (Or.inl ⟨by rfl, ?_⟩) ?_ ?_
          rotate_left
          · intro w'
            go_simp
            with_reducible rfl
          rotate_left
          · simp only [Act.put, List.setIfInBounds_toArray, List.set_cons_zero, List.set_cons_succ, i64_w, i32_w]
            rfl
          refine pure_ (i := 4) (N := some 56) (v := ?_) (a' := ?_) #[true, true, true, false, true, false, false] rfl rfl (by kernel_rfl) (fun _ _ _ h => h) (Or.inl ⟨by rfl, ?_⟩) ?_ ?_
          rotate_left
          · intro w'
            go_simp
            with_reducible rfl
          rotate_left
          · simp only [Act.put, List.setIfInBounds_toArray, List.set_cons_zero, List.set_cons_succ, i64_w, i32_w]
            rfl
          refine take_ (i := 3) (N := some 55) (v := ?_) (a' := ?_) #[true, true, true, true, true, false, false] rfl rfl (by kernel_rfl) (fun _ _ _ h => h) (Or.inl ⟨by rfl, ?_⟩) hHeld ?_ ?_
          rotate_left
          · rintro w' ⟨s0, s1, s2⟩
            go_simp
            with_reducible rfl
          rotate_left
          · simp only [Act.put, List.setIfInBounds_toArray, List.set_cons_zero, List.set_cons_succ, i64_w, i32_w]
            rfl
          refine take_ (i := 5) (N := some 57) (v := ?_) (a' := ?_) #[true, true, true, true, true, true, false] rfl rfl (by kernel_rfl) (fun _ _ _ h => h) (Or.inl ⟨by rfl, ?_⟩) hHeld ?_ ?_
          rotate_left
          · rintro w' ⟨s0, s1, s2⟩
            go_simp
            with_reducible rfl
          rotate_left
          · simp only [Act.put, List.setIfInBounds_toArray, List.set_cons_zero, List.set_cons_succ, i64_w, i32_w]
            rfl
          refine last_ (i := 6) (N := none) #[true, true, true, true, true, true, true] rfl rfl (by kernel_rfl) (by decide) (fun K hK => ?_)
          refine skip_ (w1 := ?_) (by rfl) rfl ?_ ?_
          rotate_left
          · go_simp
            rfl
          refine hK.out _ _ ?_
          clear hK K
          refine done_ (by kernel_rfl) ?_

          go_wp2_with fail
          go_ret
          refine ⟨by rw [ea.out]; rfl, b, (A6, ls.length, c6), ?_, HB10.out⟩
          unfold addL
          rw [if_neg (by rw [HMY.out]; decide), HFD.out]
          show Has B w9 (mapT p ((if addE L ls ⟨x0, x1⟩ = 0 then setF keyS' L ⟨⟨textL ls, b, (A6, ls.length, c6)⟩, ls, [⟨x0, x1⟩]⟩ else L).map fun s => s.e) :: (tm (if addE L ls ⟨x0, x1⟩ = 0 then setF keyS' L ⟨⟨textL ls, b, (A6, ls.length, c6)⟩, ls, [⟨x0, x1⟩]⟩ else L) ++ Ts))
          rw [if_pos ea.out, set_map]
          refine (Has.perm ?_ (((tm_set (s := ⟨⟨textL ls, b, (A6, ls.length, c6)⟩, ls, [⟨x0, x1⟩]⟩) HFD.out).append_right Ts).cons _).symm)
          have q := has_mid (As := [_, _]) HA10.out
          have q2 := has_mid (As := [_, _, _]) q.tail
          exact q2.tail
      · have d1 : (pushE [] ⟨x0, x1⟩ != 0) = true := bne_iff_ne.2 hpe
        have HPE := Aside0.mk hpe
        clear hpe
        go_wp2_with fail
        go_ret
        have ea : addE L ls ⟨x0, x1⟩ = pushE [] ⟨x0, x1⟩ := by unfold addE; rw [if_neg (by rw [HMY.out]; decide), HFD.out]; exact if_pos HPE.out
        refine ⟨by rw [ea]; rfl, 0, (none, 0, 0), ?_, HB8.out⟩
        unfold addL
        rw [if_neg (by rw [HMY.out]; decide), HFD.out]
        show Has B w8 (mapT p ((if addE L ls ⟨x0, x1⟩ = 0 then _ else L).map fun s => s.e) :: (tm (if addE L ls ⟨x0, x1⟩ = 0 then _ else L) ++ Ts))
        rw [if_neg (by rw [ea]; exact HPE.out)]
        exact HA8.out.tail.tail.tail.swap.tail
end Go.Proofs.Ytlhlaadnifkdhaa.Sr
