/- Functions of the program as plain Lean functions, each with the proof that its call comes to just these answers: written by a program of this session (wip/tools/printg.py over the kit's print) for this claim. -/
import Derived.Test.YticemdlnnmndoaaQ0
import Derived.Test.YticemdlnnmndoaaQ18
namespace Go.Proofs.Yticemdlnnmndoaa.Q
open Go.RowKit Go.Proofs.YticemdlnnmndoaaW.PrintWords Go.Proofs.YticemdlnnmndoaaW.PrintLast Go.Proofs.YticemdlnnmndoaaW.PrintMore
attribute [local go_sem] Opn.str_leq Opn.str_gtr Opn.str_geq max2_int min2_int max_two min_two max_three min_three max_four min_four   -- for this text's walks alone
set_option linter.unusedVariables false
set_option linter.unusedSimpArgs false

/-! ### match_Print: function 19 -/
theorem infoS : (Try.prog.info? 9).map (fun i => (i.zero, i.size, i.bytes)) = some (some (.string ⟨#[]⟩), 1, 16) := by kernel_rfl
def sgn (q : Int) : ByteArray := if q = 1 then ⟨#[33, 61]⟩ else if q = 2 then ⟨#[94, 61]⟩ else ⟨#[61]⟩
def finP (xs : List ByteArray) : Option ByteArray := (strings_Join.f xs ⟨#[44]⟩).bind fun j => match_joined.f [⟨#[123]⟩, j, ⟨#[125]⟩]
def runP : List S30 → List ByteArray → Option ByteArray
  | [], xs => finP xs
  | y :: l, xs => (labels_Quote.f y.f2).bind fun q => (match_joined.f [y.f0, sgn y.f1, q]).bind fun p => if xs.length < 8796093022208 then runP l (xs ++ [p]) else none
def match_Print.f (l0 : List S30) : Option ByteArray := runP l0 []
theorem rd_drop30P (l : List S30) (k : Nat) (h : k < l.length) : l.drop k = rd_T30 l (k : Int) :: l.drop (k + 1) := by
  rw [List.drop_eq_getElem_cons h]
  simp [rd_T30, List.getElem?_eq_getElem h]
theorem runP_step {l : List S30} {x : Int} {xs : List ByteArray} (h0 : 0 ≤ x) (h1 : x < l.length) : runP (l.drop x.toNat) xs = (labels_Quote.f (rd_T30 l x).f2).bind fun q => (match_joined.f [(rd_T30 l x).f0, sgn (rd_T30 l x).f1, q]).bind fun p => if xs.length < 8796093022208 then runP (l.drop (x + 1).toNat) (xs ++ [p]) else none := by
  rw [rd_drop30P l x.toNat (by omega), runP, Int.toNat_of_nonneg h0, show (x + 1).toNat = x.toNat + 1 by omega]
theorem look_sgn {q : Int} (h : Ops.lookB q = true) : ∃ k, Ops.lookV q = .agg #[.string (sgn q), .func (.func k) #[] #[]] := by
  unfold Ops.lookB at h
  simp only [Bool.or_eq_true, beq_iff_eq] at h
  rcases h with rfl | rfl | rfl
  · exact ⟨_, rfl⟩
  · exact ⟨_, rfl⟩
  · exact ⟨_, rfl⟩
theorem sgn_false {q : Int} (h : Ops.lookB q = false) : sgn q = ⟨#[61]⟩ := by
  unfold Ops.lookB at h
  simp only [Bool.or_eq_false_iff, beq_eq_false_iff_ne, ne_eq] at h
  unfold sgn
  rw [if_neg h.2.1, if_neg h.2.2]
theorem C_lit3 {w : World} {g : Nat} {a b c : ByteArray} (h : w.heap[g]? = some (.cells #[.string a, .string b, .string c] 9 (0, 0))) : Kd.C Kd.string w (some ⟨g, 0, none⟩) 3 [a, b, c] := by
  refine ⟨rfl, by omega, fun _ => ⟨_, rfl, ?_⟩⟩
  intro j p hj
  have hc := blk_cell h
  match j, hj with
  | 0, hj => cases hj; exact ⟨[.string a], rfl, rfl, fun i u hu => by match i, hu with | 0, hu => cases hu; exact (hc 0).trans rfl⟩
  | 1, hj => cases hj; exact ⟨[.string b], rfl, rfl, fun i u hu => by match i, hu with | 0, hu => cases hu; exact (hc 1).trans rfl⟩
  | 2, hj => cases hj; exact ⟨[.string c], rfl, rfl, fun i u hu => by match i, hu with | 0, hu => cases hu; exact (hc 2).trans rfl⟩
def match_Print.B9 : List Nat := [0, 0, 2, 0, 8, 0, 32, 96, 254, 510, 1022, 2047, 4095]
theorem match_Print.tab9 : rtab .any (opsOf Try.f19 9) = rtab .any (opsOf Try.f19 9) := rfl
theorem match_Print.bits9 : waitsOk (rtab .any (opsOf Try.f19 9)).2 match_Print.B9 = true := by kernel_rfl
set_option maxHeartbeats 4000000 in
theorem match_Print.calls (A0 : Option Addr) (c0 : Nat) (l0 : List (S30)) (r : ByteArray) (w : World) (hr0 : Kd.C k30 w A0 l0.length l0) (hc0 : l0.length ≤ c0) (h : match_Print.f l0 = some r) :
    Calls Try.prog 19 #[.slice A0 l0.length c0] w fun e w' => e = .returned (.string r) ∧ Below w.heap.size w w' := by
  have hR : runP l0 [] = some r := h
  clear h
  have hm0 := Kd.C_max hr0
  have HR := Aside0.mk hR
  have HR0 := Aside0.mk hr0
  have HC0 := Aside0.mk hc0
  clear hR hr0 hc0
  go_enter Try.func19, Try.ntmps19
  go_wp2_with fail
  refine (Ops.ops_calls w).mono ?_
  rintro e w1 ⟨b, rfl, hbs, hbm, hb1⟩
  have HS := Aside0.mk hb1
  have HM := Aside0.mk hbm
  have HLT := Aside0.mk (Array.getElem?_eq_some_iff.1 hbm).1
  have HR1 := Aside0.mk (Kd.C_below HR0.out hb1)
  clear hbs hbm hb1 HR0
  have HB := Aside0.mk (Below.refl w1.heap.size w1)
  go_wp2
  go_loopw [4, 12] (fun v4 i wr => ∃ (xs : List ByteArray) (x : Int), 0 ≤ x ∧ x ≤ l0.length ∧ i = .int .i64 x ∧ Aside0 (runP (l0.drop x.toNat) xs = some r) ∧ Aside0 (Kd.R Kd.string 9 wr w1.heap.size (fun _ => True) v4 xs) ∧ Aside0 (Below w1.heap.size w1 wr)) (fun _ i _ => l0.length - (intOf i).toNat)
  case atStart => exact ⟨[], 0, by omega, by omega, rfl, ⟨HR.out⟩, ⟨Kd.R_nil _ _ _ _ _⟩, ⟨by repeat (first | (with_reducible first | exact HB.out | apply below_alloc | apply pw_below_drewN | apply below_drew1 | (refine below_set ?_ GE1.out) | (refine below_set ?_ GE2.out)) | exact HB.out)⟩⟩
  case round =>
    clear HB
    obtain ⟨xs, x, hx0, hx1, rfl, HL, HO, HB⟩ := hrel
    by_cases hlt : x < l0.length
    · have H := HL.out
      rw [runP_step hx0 hlt] at H
      obtain ⟨q, hq, H⟩ := Option.bind_eq_some_iff.mp H
      obtain ⟨p, hp, H⟩ := Option.bind_eq_some_iff.mp H
      have hlen : xs.length < 8796093022208 := by
        by_cases hl : xs.length < 8796093022208
        · exact hl
        · rw [if_neg hl] at H; cases H
      rw [if_pos hlen] at H
      have A6 := Aside0.mk hq
      have A7 := Aside0.mk hp
      have LM := Aside0.mk hlen
      have H' := Aside0.mk H
      clear hq hp hlen H HL
      obtain ⟨ad, e0, hc00, hc01, hc02⟩ := at_T30 HR1.out x hx0 hlt
      cases e0
      replace hc00 := (HB.out.cell (World.block_lt_of_cell? w1 _ hc00)).trans hc00
      replace hc01 := (HB.out.cell (World.block_lt_of_cell? w1 _ hc01)).trans hc01
      replace hc02 := (HB.out.cell (World.block_lt_of_cell? w1 _ hc02)).trans hc02
      have d0 : decide (0 ≤ x) = true := decide_eq_true hx0
      have d1 : decide (x < (l0.length : Int)) = true := decide_eq_true hlt
      cases hi : Ops.lookB (rd_T30 l0 x).f1 with
      | false =>
        have HI := Aside0.mk hi
        have HV := Aside0.mk (Ops.look_false hi)
        have HG := Aside0.mk (sgn_false hi)
        clear hi
        rw [HG.out] at A7
        go_wp2_with (first | ((with_reducible refine gate_dst (N := 20) rfl ?_); refine Ops.ev_look rfl _ _ rfl b _ rfl rfl (((show Below w1.heap.size w1 _ from (by repeat (first | (with_reducible first | exact HB.out | apply below_alloc | apply pw_below_drewN | apply below_drew1 | (refine below_set ?_ GE1.out) | (refine below_set ?_ GE2.out)) | exact HB.out))).block b HLT.out).trans HM.out) _ _ _ HV.out HI.out ?_) | ((with_reducible refine gate_dst (N := 26) rfl ?_); refine Ops.ev_look1 rfl _ _ rfl b rfl rfl (((show Below w1.heap.size w1 _ from (by repeat (first | (with_reducible first | exact HB.out | apply below_alloc | apply pw_below_drewN | apply below_drew1 | (refine below_set ?_ GE1.out) | (refine below_set ?_ GE2.out)) | exact HB.out))).block b HLT.out).trans HM.out) ?_) | go_in)
        repeat (go_quiet (first | ((with_reducible refine gate_dst (N := 20) rfl ?_); refine Ops.ev_look rfl _ _ rfl b _ rfl rfl (((show Below w1.heap.size w1 _ from (by repeat (first | (with_reducible first | exact HB.out | apply below_alloc | apply pw_below_drewN | apply below_drew1 | (refine below_set ?_ GE1.out) | (refine below_set ?_ GE2.out)) | exact HB.out))).block b HLT.out).trans HM.out) _ _ _ HV.out HI.out ?_) | ((with_reducible refine gate_dst (N := 26) rfl ?_); refine Ops.ev_look1 rfl _ _ rfl b rfl rfl (((show Below w1.heap.size w1 _ from (by repeat (first | (with_reducible first | exact HB.out | apply below_alloc | apply pw_below_drewN | apply below_drew1 | (refine below_set ?_ GE1.out) | (refine below_set ?_ GE2.out)) | exact HB.out))).block b HLT.out).trans HM.out) ?_)); try go_wp2_with (first | ((with_reducible refine gate_dst (N := 20) rfl ?_); refine Ops.ev_look rfl _ _ rfl b _ rfl rfl (((show Below w1.heap.size w1 _ from (by repeat (first | (with_reducible first | exact HB.out | apply below_alloc | apply pw_below_drewN | apply below_drew1 | (refine below_set ?_ GE1.out) | (refine below_set ?_ GE2.out)) | exact HB.out))).block b HLT.out).trans HM.out) _ _ _ HV.out HI.out ?_) | ((with_reducible refine gate_dst (N := 26) rfl ?_); refine Ops.ev_look1 rfl _ _ rfl b rfl rfl (((show Below w1.heap.size w1 _ from (by repeat (first | (with_reducible first | exact HB.out | apply below_alloc | apply pw_below_drewN | apply below_drew1 | (refine below_set ?_ GE1.out) | (refine below_set ?_ GE2.out)) | exact HB.out))).block b HLT.out).trans HM.out) ?_) | go_in))
        have n0_ : Aside0 (Kd.R Kd.string 9 ((wr.alloc (Obj.cells #[Value.string (rd_T30 l0 x).f0, Value.int IntKind.u8 (rd_T30 l0 x).f1, Value.string (rd_T30 l0 x).f2] 30 (0, 0))).alloc (Obj.cells #[Value.string ⟨#[61]⟩, Value.func (Fn.func 45) #[] #[]] 57 (0, 0))) w1.heap.size (fun _ => True) u4 xs) := ⟨by (with_reducible repeat (first | apply Kd.R_alloc | apply Kd.R_drewN | apply Kd.R_drew)); exact HO.out⟩
        have n1_ : Aside0 ((((wr.alloc (Obj.cells #[Value.string (rd_T30 l0 x).f0, Value.int IntKind.u8 (rd_T30 l0 x).f1, Value.string (rd_T30 l0 x).f2] 30 (0, 0))).alloc (Obj.cells #[Value.string ⟨#[61]⟩, Value.func (Fn.func 45) #[] #[]] 57 (0, 0)))).heap[wr.heap.size]? = some (.cells #[.string (rd_T30 l0 x).f0, .int .u8 (rd_T30 l0 x).f1, .string (rd_T30 l0 x).f2] 30 (0, 0))) := ⟨blk_alloc (blk_new wr _) _⟩
        have n2_ : Aside0 ((((wr.alloc (Obj.cells #[Value.string (rd_T30 l0 x).f0, Value.int IntKind.u8 (rd_T30 l0 x).f1, Value.string (rd_T30 l0 x).f2] 30 (0, 0))).alloc (Obj.cells #[Value.string ⟨#[61]⟩, Value.func (Fn.func 45) #[] #[]] 57 (0, 0)))).heap[(wr.heap.size + 1)]? = some (.cells #[.string ⟨#[61]⟩, (.func (.func 45) #[] #[])] 57 (0, 0))) := ⟨by have hz := blk_new (wr.alloc (Obj.cells #[.string (rd_T30 l0 x).f0, .int .u8 (rd_T30 l0 x).f1, .string (rd_T30 l0 x).f2] 30 (0, 0))) (.cells #[.string ⟨#[61]⟩, (.func (.func 45) #[] #[])] 57 (0, 0)); rw [show (wr.alloc (Obj.cells #[.string (rd_T30 l0 x).f0, .int .u8 (rd_T30 l0 x).f1, .string (rd_T30 l0 x).f2] 30 (0, 0))).heap.size = wr.heap.size + 1 by simp] at hz; exact hz⟩
        have n3_ : Aside0 (Below w1.heap.size w1 (((wr.alloc (Obj.cells #[Value.string (rd_T30 l0 x).f0, Value.int IntKind.u8 (rd_T30 l0 x).f1, Value.string (rd_T30 l0 x).f2] 30 (0, 0))).alloc (Obj.cells #[Value.string ⟨#[61]⟩, Value.func (Fn.func 45) #[] #[]] 57 (0, 0))))) := ⟨(by repeat (first | (with_reducible first | exact HB.out | apply below_alloc | apply pw_below_drewN | apply below_drew1 | (refine below_set ?_ GE1.out) | (refine below_set ?_ GE2.out)) | exact HB.out))⟩
        clear HO HB hc00 hc01 hc02
        generalize (((wr.alloc (Obj.cells #[Value.string (rd_T30 l0 x).f0, Value.int IntKind.u8 (rd_T30 l0 x).f1, Value.string (rd_T30 l0 x).f2] 30 (0, 0))).alloc (Obj.cells #[Value.string ⟨#[61]⟩, Value.func (Fn.func 45) #[] #[]] 57 (0, 0)))) = w11 at n0_ n1_ n2_ n3_ ⊢
        have HO := Aside0.mk (Kd.R_drew n0_.out)
        have BK1 := Aside0.mk (blk_drew n1_.out)
        have BK2 := Aside0.mk (blk_drew n2_.out)
        have HB := Aside0.mk (below_drew1 n3_.out)
        clear n0_ n1_ n2_ n3_
        refine start_ (n := 13) (S := (fun w' => w'.cell? ⟨wr.heap.size, 0, none⟩ = some (.string (rd_T30 l0 x).f0) ∧ w'.cell? ⟨wr.heap.size, 2, none⟩ = some (.string (rd_T30 l0 x).f2) ∧ w'.cell? ⟨(wr.heap.size + 1), 0, none⟩ = some (.string ⟨#[61]⟩))) (ds := []) #[false, false, false, false, false, false, false, false, false, false, false, false, false] (by kernel_rfl) rfl rfl ⟨(blk_cell BK1.out 0).trans rfl, (blk_cell BK1.out 2).trans rfl, (blk_cell BK2.out 0).trans rfl⟩ (fun hHeld => ?_); refine with_tabW match_Print.tab9 match_Print.bits9 (fun HT_ HW_ => ?_)
        generalize w11.drew = w12 at HO BK1 BK2 HB hHeld ⊢
        refine pure_ (i := 0) (N := some 27) (v := ?_) (a' := ?_) #[true, false, false, false, false, false, false, false, false, false, false, false, false] rfl rfl (any_of HT_.out (by kernel_rfl)) (fun _ _ _ h => h) (Or.inl ⟨by rfl, ?_⟩) ?_ ?_
        rotate_left
        · intro w'
          go_simp
          with_reducible rfl
        rotate_left
        · simp only [Act.put, List.setIfInBounds_toArray, List.set_cons_zero, List.set_cons_succ, i64_w, i32_w]
          rfl
        refine pure_ (i := 1) (N := some 28) (v := ?_) (a' := ?_) #[true, true, false, false, false, false, false, false, false, false, false, false, false] rfl rfl (any_of HT_.out (by kernel_rfl)) (fun _ _ _ h => h) (Or.inl ⟨by rfl, ?_⟩) ?_ ?_
        rotate_left
        · intro w'
          go_simp
          with_reducible rfl
        rotate_left
        · simp only [Act.put, List.setIfInBounds_toArray, List.set_cons_zero, List.set_cons_succ, i64_w, i32_w]
          rfl
        refine pure_ (i := 3) (N := some 30) (v := ?_) (a' := ?_) #[true, true, false, true, false, false, false, false, false, false, false, false, false] rfl rfl (any_of HT_.out (by kernel_rfl)) (fun _ _ _ h => h) (Or.inl ⟨by rfl, ?_⟩) ?_ ?_
        rotate_left
        · intro w'
          go_simp
          with_reducible rfl
        rotate_left
        · simp only [Act.put, List.setIfInBounds_toArray, List.set_cons_zero, List.set_cons_succ, i64_w, i32_w]
          rfl
        refine pure_ (i := 5) (N := some 32) (v := ?_) (a' := ?_) #[true, true, false, true, false, true, false, false, false, false, false, false, false] rfl rfl (any_of HT_.out (by kernel_rfl)) (fun _ _ _ h => h) (Or.inl ⟨by rfl, ?_⟩) ?_ ?_
        rotate_left
        · intro w'
          go_simp
          with_reducible rfl
        rotate_left
        · simp only [Act.put, List.setIfInBounds_toArray, List.set_cons_zero, List.set_cons_succ, i64_w, i32_w]
          rfl
        refine take_ (i := 2) (N := some 29) (v := ?_) (a' := ?_) #[true, true, true, true, false, true, false, false, false, false, false, false, false] rfl rfl (take_ofW HT_.out HW_.out (by kernel_rfl)) (fun _ _ _ h => h) (Or.inl ⟨by rfl, ?_⟩) hHeld ?_ ?_
        rotate_left
        · rintro w' ⟨s0, s1, s2⟩
          go_simp
          with_reducible rfl
        rotate_left
        · simp only [Act.put, List.setIfInBounds_toArray, List.set_cons_zero, List.set_cons_succ, i64_w, i32_w]
          rfl
        refine take_ (i := 4) (N := some 31) (v := ?_) (a' := ?_) #[true, true, true, true, true, true, false, false, false, false, false, false, false] rfl rfl (take_ofW HT_.out HW_.out (by kernel_rfl)) (fun _ _ _ h => h) (Or.inl ⟨by rfl, ?_⟩) hHeld ?_ ?_
        rotate_left
        · rintro w' ⟨s0, s1, s2⟩
          go_simp
          with_reducible rfl
        rotate_left
        · simp only [Act.put, List.setIfInBounds_toArray, List.set_cons_zero, List.set_cons_succ, i64_w, i32_w]
          rfl
        refine take_ (i := 6) (N := some 33) (v := ?_) (a' := ?_) #[true, true, true, true, true, true, true, false, false, false, false, false, false] rfl rfl (take_ofW HT_.out HW_.out (by kernel_rfl)) (fun _ _ _ h => h) (Or.inl ⟨by rfl, ?_⟩) hHeld ?_ ?_
        rotate_left
        · rintro w' ⟨s0, s1, s2⟩
          go_simp
          with_reducible rfl
        rotate_left
        · simp only [Act.put, List.setIfInBounds_toArray, List.set_cons_zero, List.set_cons_succ, i64_w, i32_w]
          rfl
        refine one_ (i := 7) (N := some 34) #[true, true, true, true, true, true, true, true, false, false, false, false, false] rfl rfl (one_of HT_.out (by kernel_rfl)) (by decide) (fun K hK => ?_)
        refine goes_ Try.func34 (by kernel_rfl) rfl #[.string (rd_T30 l0 x).f2] (by rfl) rfl rfl (by (try simp only [List.map_toArray, List.map_cons, List.map_nil]); first | done | rfl) ?_
        refine (labels_Quote.calls (rd_T30 l0 x).f2 q _ A6.out).mono ?_
        rintro e w17 ⟨rfl, hb⟩
        refine ⟨_, rfl, ?_⟩
        have n0_ := Aside0.mk (Kd.R_below HO.out hb)
        have n1_ := Aside0.mk (blk_below BK1.out hb)
        have n2_ := Aside0.mk (blk_below BK2.out hb)
        have n3_ := Aside0.mk (below_step HB.out hb)
        clear HO BK1 BK2 HB hb
        have HO := n0_
        have BK1 := n1_
        have BK2 := n2_
        have HB := n3_
        clear n0_ n1_ n2_ n3_
        refine hK.out _ _ ⟨(blk_cell BK1.out 0).trans rfl, (blk_cell BK1.out 2).trans rfl, (blk_cell BK2.out 0).trans rfl⟩ (fun hHeld => ?_)
        clear hK K
        refine norm_ (a' := ?_) ?_ ?_
        rotate_left
        · show Act.put _ (some 34) _ = _
          simp only [Act.put, List.setIfInBounds_toArray, List.set_cons_zero, List.set_cons_succ, i64_w, i32_w]
          rfl
        refine one_ (i := 8) (N := some 35) #[true, true, true, true, true, true, true, true, true, false, false, false, false] rfl rfl (one_of HT_.out (by kernel_rfl)) (by decide) (fun K hK => ?_)
        refine value_ (w1 := ?_) (v := ?_) (by rfl) rfl ?_ ?_
        rotate_left 2
        · go_simp
          constructor
          · rfl
          · rfl
        have G3 := Aside0.mk (blk_new w17 (.cells #[.string (rd_T30 l0 x).f0, .string ⟨#[61]⟩, .string q] 9 (0, 0)))
        have n0_ := Aside0.mk (Kd.R_alloc (o := .cells #[.string (rd_T30 l0 x).f0, .string ⟨#[61]⟩, .string q] 9 (0, 0)) HO.out)
        have n1_ := Aside0.mk (blk_alloc BK1.out (.cells #[.string (rd_T30 l0 x).f0, .string ⟨#[61]⟩, .string q] 9 (0, 0)))
        have n2_ := Aside0.mk (blk_alloc BK2.out (.cells #[.string (rd_T30 l0 x).f0, .string ⟨#[61]⟩, .string q] 9 (0, 0)))
        have n3_ := Aside0.mk (below_alloc HB.out (.cells #[.string (rd_T30 l0 x).f0, .string ⟨#[61]⟩, .string q] 9 (0, 0)))
        clear HO BK1 BK2 HB
        have HO := n0_
        have BK1 := n1_
        have BK2 := n2_
        have HB := n3_
        clear n0_ n1_ n2_ n3_
        refine hK.out _ _ ⟨(blk_cell BK1.out 0).trans rfl, (blk_cell BK1.out 2).trans rfl, (blk_cell BK2.out 0).trans rfl⟩ (fun hHeld => ?_)
        clear hK K
        refine norm_ (a' := ?_) ?_ ?_
        rotate_left
        · show Act.put _ (some 35) _ = _
          simp only [Act.put, List.setIfInBounds_toArray, List.set_cons_zero, List.set_cons_succ, i64_w, i32_w]
          rfl
        refine one_ (i := 9) (N := some 36) #[true, true, true, true, true, true, true, true, true, true, false, false, false] rfl rfl (one_of HT_.out (by kernel_rfl)) (by decide) (fun K hK => ?_)
        refine goes_ Try.func33 (by kernel_rfl) rfl #[.slice (some ⟨w17.heap.size, 0, none⟩) 3 3] (by rfl) rfl rfl (by (try simp only [List.map_toArray, List.map_cons, List.map_nil]); first | done | rfl) ?_
        refine (match_joined.calls (some ⟨w17.heap.size, 0, none⟩) 3 [(rd_T30 l0 x).f0, ⟨#[61]⟩, q] p _ (C_lit3 G3.out) (Nat.le_refl 3) A7.out).mono ?_
        rintro e w19 ⟨rfl, hb⟩
        refine ⟨_, rfl, ?_⟩
        have n0_ := Aside0.mk (Kd.R_below HO.out hb)
        have n1_ := Aside0.mk (blk_below BK1.out hb)
        have n2_ := Aside0.mk (blk_below BK2.out hb)
        have n3_ := Aside0.mk (below_step HB.out hb)
        clear G3
        clear HO BK1 BK2 HB hb
        have HO := n0_
        have BK1 := n1_
        have BK2 := n2_
        have HB := n3_
        clear n0_ n1_ n2_ n3_
        refine hK.out _ _ ⟨(blk_cell BK1.out 0).trans rfl, (blk_cell BK1.out 2).trans rfl, (blk_cell BK2.out 0).trans rfl⟩ (fun hHeld => ?_)
        clear hK K
        refine norm_ (a' := ?_) ?_ ?_
        rotate_left
        · show Act.put _ (some 36) _ = _
          simp only [Act.put, List.setIfInBounds_toArray, List.set_cons_zero, List.set_cons_succ, i64_w, i32_w]
          rfl
        refine one_ (i := 10) (N := some 37) #[true, true, true, true, true, true, true, true, true, true, true, false, false] rfl rfl (one_of HT_.out (by kernel_rfl)) (by decide) (fun K hK => ?_)
        refine value_ (w1 := ?_) (v := ?_) (by rfl) rfl ?_ ?_
        rotate_left 2
        · go_simp
          constructor
          · rfl
          · rfl
        refine hK.out _ _ ⟨(blk_cell (blk_alloc BK1.out _) 0).trans rfl, (blk_cell (blk_alloc BK1.out _) 2).trans rfl, (blk_cell (blk_alloc BK2.out _) 0).trans rfl⟩ (fun hHeld => ?_)
        clear hK K
        refine norm_ (a' := ?_) ?_ ?_
        rotate_left
        · show Act.put _ (some 37) _ = _
          simp only [Act.put, List.setIfInBounds_toArray, List.set_cons_zero, List.set_cons_succ, i64_w, i32_w]
          rfl
        refine one_ (i := 11) (N := some 38) #[true, true, true, true, true, true, true, true, true, true, true, true, false] rfl rfl (one_of HT_.out (by kernel_rfl)) (by decide) (fun K hK => ?_)
        refine Kd.R_append_step Kd.string (w0 := w1) w1.heap.size (by rfl) (.tmp 27) (.tmp 37) 59 9 (.string ⟨#[]⟩) 16 rfl Try.underlying59 infoS rfl (by decide) (by omega) u4 xs p [.string p] (fun _ => True) (fun _ => False) rfl rfl ?aP (fun _ hk => hk.elim) ?aF ?aO ?aB ?aS ?aL ?_
        (case aP => exact rfl)
        (case aB => exact HB.out)
        (case aF => exact (fun _ _ => trivial))
        (case aO => exact HO.out)
        (case aS => exact (below_size HB.out))
        (case aL => have := LM.out; omega)
        intro v179 w14 ho hb hg hat
        have n0_ := Aside0.mk (blk_grown BK1.out hg (Kd.R_ne HO.out BK1.out (by decide)))
        have n2_ := Aside0.mk (blk_grown BK2.out hg (Kd.R_ne HO.out BK2.out (by decide)))
        have n1_ := Aside0.mk hb
        have n3_ := Aside0.mk ho
        clear BK1 BK2 HB HO
        have BK1 := n0_
        have BK2 := n2_
        have HB := n1_
        have HO := n3_
        clear n0_ n1_ n2_ n3_
        clear ho hb hg hat
        refine hK.out _ _ ⟨(blk_cell BK1.out 0).trans rfl, (blk_cell BK1.out 2).trans rfl, (blk_cell BK2.out 0).trans rfl⟩ (fun hHeld => ?_)
        clear hK K
        refine norm_ (a' := ?_) ?_ ?_
        rotate_left
        · show Act.put _ (some 38) _ = _
          simp only [Act.put, List.setIfInBounds_toArray, List.set_cons_zero, List.set_cons_succ, i64_w, i32_w]
          rfl
        refine pure_ (i := 12) (N := some 4) (v := ?_) (a' := ?_) #[true, true, true, true, true, true, true, true, true, true, true, true, true] rfl rfl (any_of HT_.out (by kernel_rfl)) (fun _ _ _ h => h) (Or.inl ⟨by rfl, ?_⟩) ?_ ?_
        rotate_left
        · intro w'
          go_simp
          with_reducible rfl
        rotate_left
        · simp only [Act.put, List.setIfInBounds_toArray, List.set_cons_zero, List.set_cons_succ, i64_w, i32_w]
          rfl
        refine done_ (done_of HT_.out (by kernel_rfl)) ?_
        try go_wp2
        go_roundw
        case rel => exact ⟨xs ++ [p], x + 1, by omega, by omega, by go_num, H', HO, HB⟩
        case measure => simp [intOf]; omega
      | true =>
        have HI := Aside0.mk hi
        obtain ⟨kf, hV⟩ := look_sgn hi
        have HV := Aside0.mk hV
        clear hi hV
        obtain ⟨sg, hsg⟩ : ∃ s, s = sgn (rd_T30 l0 x).f1 := ⟨_, rfl⟩
        rw [← hsg] at A7 HV
        clear hsg
        go_wp2_with (first | ((with_reducible refine gate_dst (N := 20) rfl ?_); refine Ops.ev_look rfl _ _ rfl b _ rfl rfl (((show Below w1.heap.size w1 _ from (by repeat (first | (with_reducible first | exact HB.out | apply below_alloc | apply pw_below_drewN | apply below_drew1 | (refine below_set ?_ GE1.out) | (refine below_set ?_ GE2.out)) | exact HB.out))).block b HLT.out).trans HM.out) _ _ _ HV.out HI.out ?_) | go_in)
        repeat (go_quiet (first | ((with_reducible refine gate_dst (N := 20) rfl ?_); refine Ops.ev_look rfl _ _ rfl b _ rfl rfl (((show Below w1.heap.size w1 _ from (by repeat (first | (with_reducible first | exact HB.out | apply below_alloc | apply pw_below_drewN | apply below_drew1 | (refine below_set ?_ GE1.out) | (refine below_set ?_ GE2.out)) | exact HB.out))).block b HLT.out).trans HM.out) _ _ _ HV.out HI.out ?_)); try go_wp2_with (first | ((with_reducible refine gate_dst (N := 20) rfl ?_); refine Ops.ev_look rfl _ _ rfl b _ rfl rfl (((show Below w1.heap.size w1 _ from (by repeat (first | (with_reducible first | exact HB.out | apply below_alloc | apply pw_below_drewN | apply below_drew1 | (refine below_set ?_ GE1.out) | (refine below_set ?_ GE2.out)) | exact HB.out))).block b HLT.out).trans HM.out) _ _ _ HV.out HI.out ?_) | go_in))
        have n0_ : Aside0 (Kd.R Kd.string 9 ((wr.alloc (Obj.cells #[Value.string (rd_T30 l0 x).f0, Value.int IntKind.u8 (rd_T30 l0 x).f1, Value.string (rd_T30 l0 x).f2] 30 (0, 0))).alloc (Obj.cells #[Value.string sg, Value.func (Fn.func kf) #[] #[]] 57 (0, 0))) w1.heap.size (fun _ => True) u4 xs) := ⟨by (with_reducible repeat (first | apply Kd.R_alloc | apply Kd.R_drewN | apply Kd.R_drew)); exact HO.out⟩
        have n1_ : Aside0 ((((wr.alloc (Obj.cells #[Value.string (rd_T30 l0 x).f0, Value.int IntKind.u8 (rd_T30 l0 x).f1, Value.string (rd_T30 l0 x).f2] 30 (0, 0))).alloc (Obj.cells #[Value.string sg, Value.func (Fn.func kf) #[] #[]] 57 (0, 0)))).heap[wr.heap.size]? = some (.cells #[.string (rd_T30 l0 x).f0, .int .u8 (rd_T30 l0 x).f1, .string (rd_T30 l0 x).f2] 30 (0, 0))) := ⟨blk_alloc (blk_new wr _) _⟩
        have n2_ : Aside0 ((((wr.alloc (Obj.cells #[Value.string (rd_T30 l0 x).f0, Value.int IntKind.u8 (rd_T30 l0 x).f1, Value.string (rd_T30 l0 x).f2] 30 (0, 0))).alloc (Obj.cells #[Value.string sg, Value.func (Fn.func kf) #[] #[]] 57 (0, 0)))).heap[(wr.heap.size + 1)]? = some (.cells #[.string sg, (.func (.func kf) #[] #[])] 57 (0, 0))) := ⟨by have hz := blk_new (wr.alloc (Obj.cells #[.string (rd_T30 l0 x).f0, .int .u8 (rd_T30 l0 x).f1, .string (rd_T30 l0 x).f2] 30 (0, 0))) (.cells #[.string sg, (.func (.func kf) #[] #[])] 57 (0, 0)); rw [show (wr.alloc (Obj.cells #[.string (rd_T30 l0 x).f0, .int .u8 (rd_T30 l0 x).f1, .string (rd_T30 l0 x).f2] 30 (0, 0))).heap.size = wr.heap.size + 1 by simp] at hz; exact hz⟩
        have n3_ : Aside0 (Below w1.heap.size w1 (((wr.alloc (Obj.cells #[Value.string (rd_T30 l0 x).f0, Value.int IntKind.u8 (rd_T30 l0 x).f1, Value.string (rd_T30 l0 x).f2] 30 (0, 0))).alloc (Obj.cells #[Value.string sg, Value.func (Fn.func kf) #[] #[]] 57 (0, 0))))) := ⟨(by repeat (first | (with_reducible first | exact HB.out | apply below_alloc | apply pw_below_drewN | apply below_drew1 | (refine below_set ?_ GE1.out) | (refine below_set ?_ GE2.out)) | exact HB.out))⟩
        clear HO HB hc00 hc01 hc02
        generalize (((wr.alloc (Obj.cells #[Value.string (rd_T30 l0 x).f0, Value.int IntKind.u8 (rd_T30 l0 x).f1, Value.string (rd_T30 l0 x).f2] 30 (0, 0))).alloc (Obj.cells #[Value.string sg, Value.func (Fn.func kf) #[] #[]] 57 (0, 0)))) = w11 at n0_ n1_ n2_ n3_ ⊢
        have HO := Aside0.mk (Kd.R_drew n0_.out)
        have BK1 := Aside0.mk (blk_drew n1_.out)
        have BK2 := Aside0.mk (blk_drew n2_.out)
        have HB := Aside0.mk (below_drew1 n3_.out)
        clear n0_ n1_ n2_ n3_
        refine start_ (n := 13) (S := (fun w' => w'.cell? ⟨wr.heap.size, 0, none⟩ = some (.string (rd_T30 l0 x).f0) ∧ w'.cell? ⟨wr.heap.size, 2, none⟩ = some (.string (rd_T30 l0 x).f2) ∧ w'.cell? ⟨(wr.heap.size + 1), 0, none⟩ = some (.string sg))) (ds := []) #[false, false, false, false, false, false, false, false, false, false, false, false, false] (by kernel_rfl) rfl rfl ⟨(blk_cell BK1.out 0).trans rfl, (blk_cell BK1.out 2).trans rfl, (blk_cell BK2.out 0).trans rfl⟩ (fun hHeld => ?_); refine with_tabW match_Print.tab9 match_Print.bits9 (fun HT_ HW_ => ?_)
        generalize w11.drew = w12 at HO BK1 BK2 HB hHeld ⊢
        refine pure_ (i := 0) (N := some 27) (v := ?_) (a' := ?_) #[true, false, false, false, false, false, false, false, false, false, false, false, false] rfl rfl (any_of HT_.out (by kernel_rfl)) (fun _ _ _ h => h) (Or.inl ⟨by rfl, ?_⟩) ?_ ?_
        rotate_left
        · intro w'
          go_simp
          with_reducible rfl
        rotate_left
        · simp only [Act.put, List.setIfInBounds_toArray, List.set_cons_zero, List.set_cons_succ, i64_w, i32_w]
          rfl
        refine pure_ (i := 1) (N := some 28) (v := ?_) (a' := ?_) #[true, true, false, false, false, false, false, false, false, false, false, false, false] rfl rfl (any_of HT_.out (by kernel_rfl)) (fun _ _ _ h => h) (Or.inl ⟨by rfl, ?_⟩) ?_ ?_
        rotate_left
        · intro w'
          go_simp
          with_reducible rfl
        rotate_left
        · simp only [Act.put, List.setIfInBounds_toArray, List.set_cons_zero, List.set_cons_succ, i64_w, i32_w]
          rfl
        refine pure_ (i := 3) (N := some 30) (v := ?_) (a' := ?_) #[true, true, false, true, false, false, false, false, false, false, false, false, false] rfl rfl (any_of HT_.out (by kernel_rfl)) (fun _ _ _ h => h) (Or.inl ⟨by rfl, ?_⟩) ?_ ?_
        rotate_left
        · intro w'
          go_simp
          with_reducible rfl
        rotate_left
        · simp only [Act.put, List.setIfInBounds_toArray, List.set_cons_zero, List.set_cons_succ, i64_w, i32_w]
          rfl
        refine pure_ (i := 5) (N := some 32) (v := ?_) (a' := ?_) #[true, true, false, true, false, true, false, false, false, false, false, false, false] rfl rfl (any_of HT_.out (by kernel_rfl)) (fun _ _ _ h => h) (Or.inl ⟨by rfl, ?_⟩) ?_ ?_
        rotate_left
        · intro w'
          go_simp
          with_reducible rfl
        rotate_left
        · simp only [Act.put, List.setIfInBounds_toArray, List.set_cons_zero, List.set_cons_succ, i64_w, i32_w]
          rfl
        refine take_ (i := 2) (N := some 29) (v := ?_) (a' := ?_) #[true, true, true, true, false, true, false, false, false, false, false, false, false] rfl rfl (take_ofW HT_.out HW_.out (by kernel_rfl)) (fun _ _ _ h => h) (Or.inl ⟨by rfl, ?_⟩) hHeld ?_ ?_
        rotate_left
        · rintro w' ⟨s0, s1, s2⟩
          go_simp
          with_reducible rfl
        rotate_left
        · simp only [Act.put, List.setIfInBounds_toArray, List.set_cons_zero, List.set_cons_succ, i64_w, i32_w]
          rfl
        refine take_ (i := 4) (N := some 31) (v := ?_) (a' := ?_) #[true, true, true, true, true, true, false, false, false, false, false, false, false] rfl rfl (take_ofW HT_.out HW_.out (by kernel_rfl)) (fun _ _ _ h => h) (Or.inl ⟨by rfl, ?_⟩) hHeld ?_ ?_
        rotate_left
        · rintro w' ⟨s0, s1, s2⟩
          go_simp
          with_reducible rfl
        rotate_left
        · simp only [Act.put, List.setIfInBounds_toArray, List.set_cons_zero, List.set_cons_succ, i64_w, i32_w]
          rfl
        refine take_ (i := 6) (N := some 33) (v := ?_) (a' := ?_) #[true, true, true, true, true, true, true, false, false, false, false, false, false] rfl rfl (take_ofW HT_.out HW_.out (by kernel_rfl)) (fun _ _ _ h => h) (Or.inl ⟨by rfl, ?_⟩) hHeld ?_ ?_
        rotate_left
        · rintro w' ⟨s0, s1, s2⟩
          go_simp
          with_reducible rfl
        rotate_left
        · simp only [Act.put, List.setIfInBounds_toArray, List.set_cons_zero, List.set_cons_succ, i64_w, i32_w]
          rfl
        refine one_ (i := 7) (N := some 34) #[true, true, true, true, true, true, true, true, false, false, false, false, false] rfl rfl (one_of HT_.out (by kernel_rfl)) (by decide) (fun K hK => ?_)
        refine goes_ Try.func34 (by kernel_rfl) rfl #[.string (rd_T30 l0 x).f2] (by rfl) rfl rfl (by (try simp only [List.map_toArray, List.map_cons, List.map_nil]); first | done | rfl) ?_
        refine (labels_Quote.calls (rd_T30 l0 x).f2 q _ A6.out).mono ?_
        rintro e w17 ⟨rfl, hb⟩
        refine ⟨_, rfl, ?_⟩
        have n0_ := Aside0.mk (Kd.R_below HO.out hb)
        have n1_ := Aside0.mk (blk_below BK1.out hb)
        have n2_ := Aside0.mk (blk_below BK2.out hb)
        have n3_ := Aside0.mk (below_step HB.out hb)
        clear HO BK1 BK2 HB hb
        have HO := n0_
        have BK1 := n1_
        have BK2 := n2_
        have HB := n3_
        clear n0_ n1_ n2_ n3_
        refine hK.out _ _ ⟨(blk_cell BK1.out 0).trans rfl, (blk_cell BK1.out 2).trans rfl, (blk_cell BK2.out 0).trans rfl⟩ (fun hHeld => ?_)
        clear hK K
        refine norm_ (a' := ?_) ?_ ?_
        rotate_left
        · show Act.put _ (some 34) _ = _
          simp only [Act.put, List.setIfInBounds_toArray, List.set_cons_zero, List.set_cons_succ, i64_w, i32_w]
          rfl
        refine one_ (i := 8) (N := some 35) #[true, true, true, true, true, true, true, true, true, false, false, false, false] rfl rfl (one_of HT_.out (by kernel_rfl)) (by decide) (fun K hK => ?_)
        refine value_ (w1 := ?_) (v := ?_) (by rfl) rfl ?_ ?_
        rotate_left 2
        · go_simp
          constructor
          · rfl
          · rfl
        have G3 := Aside0.mk (blk_new w17 (.cells #[.string (rd_T30 l0 x).f0, .string sg, .string q] 9 (0, 0)))
        have n0_ := Aside0.mk (Kd.R_alloc (o := .cells #[.string (rd_T30 l0 x).f0, .string sg, .string q] 9 (0, 0)) HO.out)
        have n1_ := Aside0.mk (blk_alloc BK1.out (.cells #[.string (rd_T30 l0 x).f0, .string sg, .string q] 9 (0, 0)))
        have n2_ := Aside0.mk (blk_alloc BK2.out (.cells #[.string (rd_T30 l0 x).f0, .string sg, .string q] 9 (0, 0)))
        have n3_ := Aside0.mk (below_alloc HB.out (.cells #[.string (rd_T30 l0 x).f0, .string sg, .string q] 9 (0, 0)))
        clear HO BK1 BK2 HB
        have HO := n0_
        have BK1 := n1_
        have BK2 := n2_
        have HB := n3_
        clear n0_ n1_ n2_ n3_
        refine hK.out _ _ ⟨(blk_cell BK1.out 0).trans rfl, (blk_cell BK1.out 2).trans rfl, (blk_cell BK2.out 0).trans rfl⟩ (fun hHeld => ?_)
        clear hK K
        refine norm_ (a' := ?_) ?_ ?_
        rotate_left
        · show Act.put _ (some 35) _ = _
          simp only [Act.put, List.setIfInBounds_toArray, List.set_cons_zero, List.set_cons_succ, i64_w, i32_w]
          rfl
        refine one_ (i := 9) (N := some 36) #[true, true, true, true, true, true, true, true, true, true, false, false, false] rfl rfl (one_of HT_.out (by kernel_rfl)) (by decide) (fun K hK => ?_)
        refine goes_ Try.func33 (by kernel_rfl) rfl #[.slice (some ⟨w17.heap.size, 0, none⟩) 3 3] (by rfl) rfl rfl (by (try simp only [List.map_toArray, List.map_cons, List.map_nil]); first | done | rfl) ?_
        refine (match_joined.calls (some ⟨w17.heap.size, 0, none⟩) 3 [(rd_T30 l0 x).f0, sg, q] p _ (C_lit3 G3.out) (Nat.le_refl 3) A7.out).mono ?_
        rintro e w19 ⟨rfl, hb⟩
        refine ⟨_, rfl, ?_⟩
        have n0_ := Aside0.mk (Kd.R_below HO.out hb)
        have n1_ := Aside0.mk (blk_below BK1.out hb)
        have n2_ := Aside0.mk (blk_below BK2.out hb)
        have n3_ := Aside0.mk (below_step HB.out hb)
        clear G3
        clear HO BK1 BK2 HB hb
        have HO := n0_
        have BK1 := n1_
        have BK2 := n2_
        have HB := n3_
        clear n0_ n1_ n2_ n3_
        refine hK.out _ _ ⟨(blk_cell BK1.out 0).trans rfl, (blk_cell BK1.out 2).trans rfl, (blk_cell BK2.out 0).trans rfl⟩ (fun hHeld => ?_)
        clear hK K
        refine norm_ (a' := ?_) ?_ ?_
        rotate_left
        · show Act.put _ (some 36) _ = _
          simp only [Act.put, List.setIfInBounds_toArray, List.set_cons_zero, List.set_cons_succ, i64_w, i32_w]
          rfl
        refine one_ (i := 10) (N := some 37) #[true, true, true, true, true, true, true, true, true, true, true, false, false] rfl rfl (one_of HT_.out (by kernel_rfl)) (by decide) (fun K hK => ?_)
        refine value_ (w1 := ?_) (v := ?_) (by rfl) rfl ?_ ?_
        rotate_left 2
        · go_simp
          constructor
          · rfl
          · rfl
        refine hK.out _ _ ⟨(blk_cell (blk_alloc BK1.out _) 0).trans rfl, (blk_cell (blk_alloc BK1.out _) 2).trans rfl, (blk_cell (blk_alloc BK2.out _) 0).trans rfl⟩ (fun hHeld => ?_)
        clear hK K
        refine norm_ (a' := ?_) ?_ ?_
        rotate_left
        · show Act.put _ (some 37) _ = _
          simp only [Act.put, List.setIfInBounds_toArray, List.set_cons_zero, List.set_cons_succ, i64_w, i32_w]
          rfl
        refine one_ (i := 11) (N := some 38) #[true, true, true, true, true, true, true, true, true, true, true, true, false] rfl rfl (one_of HT_.out (by kernel_rfl)) (by decide) (fun K hK => ?_)
        refine Kd.R_append_step Kd.string (w0 := w1) w1.heap.size (by rfl) (.tmp 27) (.tmp 37) 59 9 (.string ⟨#[]⟩) 16 rfl Try.underlying59 infoS rfl (by decide) (by omega) u4 xs p [.string p] (fun _ => True) (fun _ => False) rfl rfl ?aP (fun _ hk => hk.elim) ?aF ?aO ?aB ?aS ?aL ?_
        (case aP => exact rfl)
        (case aB => exact HB.out)
        (case aF => exact (fun _ _ => trivial))
        (case aO => exact HO.out)
        (case aS => exact (below_size HB.out))
        (case aL => have := LM.out; omega)
        intro v179 w14 ho hb hg hat
        have n0_ := Aside0.mk (blk_grown BK1.out hg (Kd.R_ne HO.out BK1.out (by decide)))
        have n2_ := Aside0.mk (blk_grown BK2.out hg (Kd.R_ne HO.out BK2.out (by decide)))
        have n1_ := Aside0.mk hb
        have n3_ := Aside0.mk ho
        clear BK1 BK2 HB HO
        have BK1 := n0_
        have BK2 := n2_
        have HB := n1_
        have HO := n3_
        clear n0_ n1_ n2_ n3_
        clear ho hb hg hat
        refine hK.out _ _ ⟨(blk_cell BK1.out 0).trans rfl, (blk_cell BK1.out 2).trans rfl, (blk_cell BK2.out 0).trans rfl⟩ (fun hHeld => ?_)
        clear hK K
        refine norm_ (a' := ?_) ?_ ?_
        rotate_left
        · show Act.put _ (some 38) _ = _
          simp only [Act.put, List.setIfInBounds_toArray, List.set_cons_zero, List.set_cons_succ, i64_w, i32_w]
          rfl
        refine pure_ (i := 12) (N := some 4) (v := ?_) (a' := ?_) #[true, true, true, true, true, true, true, true, true, true, true, true, true] rfl rfl (any_of HT_.out (by kernel_rfl)) (fun _ _ _ h => h) (Or.inl ⟨by rfl, ?_⟩) ?_ ?_
        rotate_left
        · intro w'
          go_simp
          with_reducible rfl
        rotate_left
        · simp only [Act.put, List.setIfInBounds_toArray, List.set_cons_zero, List.set_cons_succ, i64_w, i32_w]
          rfl
        refine done_ (done_of HT_.out (by kernel_rfl)) ?_
        try go_wp2
        go_roundw
        case rel => exact ⟨xs ++ [p], x + 1, by omega, by omega, by go_num, H', HO, HB⟩
        case measure => simp [intOf]; omega
    · obtain rfl : x = l0.length := by omega
      have H := HL.out
      rw [Int.toNat_natCast, List.drop_length, runP] at H
      obtain ⟨j, hj, H⟩ := Option.bind_eq_some_iff.mp H
      have A6 := Aside0.mk hj
      have A7 := Aside0.mk H
      clear hj H HL
      obtain ⟨Ao, co, eo⟩ := Kd.R_slice HO.out
      subst eo
      go_wp2_with (first
        | (go_at_call 35; (refine (strings_Join.calls _ _ xs (⟨#[44]⟩ : ByteArray) j _ (Kd.R_reads' HO.out).2.2 (Kd.R_reads' HO.out).2.1 A6.out).mono ?_); rintro e w5 ⟨rfl, hb5⟩; have HB5 := Aside0.mk (below_step HB.out hb5); clear HB hb5; have HB := HB5; clear HB5)
        | (go_at_call 33; (refine (match_joined.calls (some ⟨_, 0, none⟩) 3 [⟨#[123]⟩, j, ⟨#[125]⟩] r _ (C_lit3 (blk_new _ _)) (Nat.le_refl 3) A7.out).mono ?_); rintro e w6 ⟨rfl, hb6⟩; have HB6 := Aside0.mk (below_step (below_alloc HB.out _) hb6); clear HB hb6; have HB := HB6; clear HB6)
        | go_in)
      go_ret
      exact ⟨rfl, (HS.out.trans ((show Below w1.heap.size w1 _ from (by repeat (first | (with_reducible first | exact HB.out | apply below_alloc | apply pw_below_drewN | apply below_drew1 | (refine below_set ?_ GE1.out) | (refine below_set ?_ GE2.out)) | exact HB.out))).mono HS.out.size))⟩

end Go.Proofs.Yticemdlnnmndoaa.Q
