/- Functions of the program as plain Lean functions, each with the proof that its call comes to just these answers: written by a program of this session (wip/tools/printg.py over the kit's print) for this claim. -/
import Derived.Test.YtlhlaadnifkdhaaQ0
import Derived.Test.YtlhlaadnifkdhaaQ24
namespace Go.Proofs.Ytlhlaadnifkdhaa.Q
open Go.RowKit Go.Proofs.YtlhlaadnifkdhaaW.PrintWords Go.Proofs.YtlhlaadnifkdhaaW.PrintLast Go.Proofs.YtlhlaadnifkdhaaW.PrintMore
attribute [local go_sem] Opn.str_leq Opn.str_gtr Opn.str_geq max2_int min2_int max_two min_two max_three min_three max_four min_four   -- for this text's walks alone
set_option linter.unusedVariables false
set_option linter.unusedSimpArgs false

/-! ### match_Does: function 25 -/
def valueL (n : ByteArray) : List S31 → ByteArray
  | [] => ⟨#[]⟩
  | x :: l => if x.f0.toList = n.toList then x.f1 else valueL n l
theorem rd_dropV (l : List S31) (k : Nat) (h : k < l.length) : l.drop k = rd_T31 l (k : Int) :: l.drop (k + 1) := by
  rw [List.drop_eq_getElem_cons h]
  simp [rd_T31, List.getElem?_eq_getElem h]
theorem w64V {x : Int} (h0 : -9223372036854775808 ≤ x) (h1 : x ≤ 9223372036854775807) : wrap64 x = x := by unfold wrap64; omega
theorem value_ev (l : List S31) (n : ByteArray) (hl : l.length ≤ 9223372036854775807) : ∀ (d : Nat) (x : Int), 0 ≤ x → x ≤ l.length → (l.length : Int) - x = d → ∃ k, labels_Value.l0 k n l (l.length : Int) x = some (valueL n (l.drop x.toNat)) := by
  intro d
  induction d with
  | zero =>
    intro x h0 h1 hd
    refine ⟨1, ?_⟩
    rw [List.drop_eq_nil_of_le (by omega), valueL, labels_Value.l0, if_neg (by omega)]
  | succ d ih =>
    intro x h0 h1 hd
    have hx : x < l.length := by omega
    rw [rd_dropV l x.toNat (by omega), Int.toNat_of_nonneg h0, valueL]
    by_cases hn : (rd_T31 l x).f0.toList = n.toList
    · rw [if_pos hn]
      exact ⟨1, by rw [labels_Value.l0, if_pos hx, if_pos h0, if_pos hx, if_pos hn]⟩
    · rw [if_neg hn]
      obtain ⟨k, hk⟩ := ih (x + 1) (by omega) (by omega) (by omega)
      refine ⟨k + 1, ?_⟩
      rw [labels_Value.l0, if_pos hx, if_pos h0, if_pos hx, if_neg hn, w64V (by omega) (by omega), hk, show (x + 1).toNat = x.toNat + 1 by omega]
theorem value_some (l : List S31) (n : ByteArray) (hl : l.length ≤ 9223372036854775807) : ∃ k, labels_Value.f k l n = some (valueL n l) := value_ev l n hl l.length 0 (by omega) (by omega) (by omega)
def pre (v w : ByteArray) : Bool := match strings_HasPrefix.f v w with | some b => b | none => false
theorem pre_some (v w : ByteArray) : strings_HasPrefix.f v w = some (pre v w) := by
  have h : ∃ b, strings_HasPrefix.f v w = some b := by
    unfold strings_HasPrefix.f stringslite_HasPrefix.f
    by_cases h : (v.size : Int) ≥ (w.size : Int)
    · exact ⟨_, by rw [if_pos h, if_pos (by omega), if_pos h]; rfl⟩
    · exact ⟨_, by rw [if_neg h]; rfl⟩
  obtain ⟨b, hb⟩ := h
  unfold pre
  rw [hb]
def asks (q : Int) (v w : ByteArray) : Bool := if q = 0 then v.toList == w.toList else if q = 1 then v.toList != w.toList else pre v w
def okD (l : List S31) (x : S40) : Bool := Ops.lookB x.f1 && asks x.f1 (valueL x.f0 l) x.f2
def doesL (m : List S40) (l : List S31) : Bool := m.all (okD l)
def match_Does.f (l0 : List S40) (l1 : List S31) : Option Bool := some (doesL l0 l1)
theorem ret_boolD {a b : Bool} (h : a = b) : Ending.returned (.bool a) = .returned (.bool b) := by rw [h]
theorem rd_drop30D (l : List S40) (k : Nat) (h : k < l.length) : l.drop k = rd_T40 l (k : Int) :: l.drop (k + 1) := by
  rw [List.drop_eq_getElem_cons h]
  simp [rd_T40, List.getElem?_eq_getElem h]
theorem all_dropD {p : S40 → Bool} {l : List S40} {x : Int} (h0 : 0 ≤ x) (h1 : x < l.length) : (l.drop x.toNat).all p = (p (rd_T40 l x) && (l.drop (x + 1).toNat).all p) := by
  rw [rd_drop30D l x.toNat (by omega), List.all_cons, Int.toNat_of_nonneg h0, show (x + 1).toNat = x.toNat + 1 by omega]
set_option maxHeartbeats 4000000 in
theorem match_Does.calls (A0 : Option Addr) (c0 : Nat) (l0 : List (S40)) (A1 : Option Addr) (c1 : Nat) (l1 : List (S31)) (r : Bool) (w : World) (hr0 : Kd.C k40 w A0 l0.length l0) (hc0 : l0.length ≤ c0) (hr1 : Kd.C k31 w A1 l1.length l1) (hc1 : l1.length ≤ c1) (h : match_Does.f l0 l1 = some r) :
    Calls Try.prog 25 #[.slice A0 l0.length c0, .slice A1 l1.length c1] w fun e w' => e = .returned (.bool r) ∧ Below w.heap.size w w' := by
  have hR : doesL l0 l1 = r := Option.some.inj h
  clear h
  have hm0 := Kd.C_max hr0
  have hm1 := Kd.C_max hr1
  have HR := Aside0.mk hR
  have HR0 := Aside0.mk hr0
  have HR9 := Aside0.mk hr1
  have HC0 := Aside0.mk hc0
  have HC1 := Aside0.mk hc1
  have hV0 := fun n => value_some l1 n hm1
  have HVS := Aside0.mk hV0
  clear hR hr0 hc0 hr1 hc1 hV0
  have hen1 := fun args w => enters_ Try.func64 (by kernel_rfl) rfl args w
  have hen2 := fun args w => enters_ Try.func65 (by kernel_rfl) rfl args w
  have hen3 := fun args w => enters_ Try.func66 (by kernel_rfl) rfl args w
  go_enter Try.func25, Try.ntmps25
  go_wp2_with fail
  refine (Ops.ops_calls w).mono ?_
  rintro e w1 ⟨b, rfl, hbs, hbm, hb1⟩
  have HS := Aside0.mk hb1
  have HM := Aside0.mk hbm
  have HLT := Aside0.mk (Array.getElem?_eq_some_iff.1 hbm).1
  have HR1 := Aside0.mk (Kd.C_below HR0.out hb1)
  have HR2 := Aside0.mk (Kd.C_below HR9.out hb1)
  clear hbs hbm hb1 HR0 HR9
  have HB := Aside0.mk (Below.refl w1.heap.size w1)
  go_wp2
  go_loopw [13] (fun i wr => ∃ x : Int, 0 ≤ x ∧ x ≤ l0.length ∧ i = .int .i64 x ∧ Aside0 (((l0.drop x.toNat).all (okD l1)) = r) ∧ Aside0 (Below w1.heap.size w1 wr)) (fun i _ => l0.length - (intOf i).toNat)
  case atStart => exact ⟨0, by omega, by omega, rfl, ⟨HR.out⟩, ⟨by repeat (first | (with_reducible first | exact HB.out | apply below_alloc | apply pw_below_drewN | apply below_drew1 | (refine below_set ?_ GE1.out) | (refine below_set ?_ GE2.out)) | exact HB.out)⟩⟩
  case round =>
    clear HB
    obtain ⟨x, hx0, hx1, rfl, HL, HB⟩ := hrel
    by_cases hlt : x < l0.length
    · have hd := all_dropD (p := okD l1) hx0 hlt
      have HD := Aside0.mk hd
      clear hd
      obtain ⟨kv, hkv⟩ := HVS.out (rd_T40 l0 x).f0
      have HKV := Aside0.mk hkv
      clear hkv
      obtain ⟨v, hv⟩ : ∃ v, v = valueL (rd_T40 l0 x).f0 l1 := ⟨_, rfl⟩
      rw [← hv] at HKV
      have HVV := Aside0.mk hv
      clear hv
      obtain ⟨ad, e0, hc00, hc01, hc02⟩ := at_T40 HR1.out x hx0 hlt
      cases e0
      replace hc00 := (HB.out.cell (World.block_lt_of_cell? w1 _ hc00)).trans hc00
      replace hc01 := (HB.out.cell (World.block_lt_of_cell? w1 _ hc01)).trans hc01
      replace hc02 := (HB.out.cell (World.block_lt_of_cell? w1 _ hc02)).trans hc02
      have d0 : decide (0 ≤ x) = true := decide_eq_true hx0
      have d1 : decide (x < (l0.length : Int)) = true := decide_eq_true hlt
      cases hi : Ops.lookB (rd_T40 l0 x).f1 with
      | false =>
        have HI := Aside0.mk hi
        have HV := Aside0.mk (Ops.look_false hi)
        clear hi
        go_wp2_with (first | ((with_reducible refine gate_dst (N := 21) rfl ?_); refine Ops.ev_look rfl _ _ rfl b _ rfl rfl (((show Below w1.heap.size w1 _ from (by repeat (first | (with_reducible first | exact HB.out | apply below_alloc | apply pw_below_drewN | apply below_drew1 | (refine below_set ?_ GE1.out) | (refine below_set ?_ GE2.out)) | exact HB.out))).block b HLT.out).trans HM.out) _ _ _ HV.out HI.out ?_) | go_in)
        repeat (go_quiet (first | ((with_reducible refine gate_dst (N := 21) rfl ?_); refine Ops.ev_look rfl _ _ rfl b _ rfl rfl (((show Below w1.heap.size w1 _ from (by repeat (first | (with_reducible first | exact HB.out | apply below_alloc | apply pw_below_drewN | apply below_drew1 | (refine below_set ?_ GE1.out) | (refine below_set ?_ GE2.out)) | exact HB.out))).block b HLT.out).trans HM.out) _ _ _ HV.out HI.out ?_)); try go_wp2_with (first | ((with_reducible refine gate_dst (N := 21) rfl ?_); refine Ops.ev_look rfl _ _ rfl b _ rfl rfl (((show Below w1.heap.size w1 _ from (by repeat (first | (with_reducible first | exact HB.out | apply below_alloc | apply pw_below_drewN | apply below_drew1 | (refine below_set ?_ GE1.out) | (refine below_set ?_ GE2.out)) | exact HB.out))).block b HLT.out).trans HM.out) _ _ _ HV.out HI.out ?_) | go_in))
        go_ret
        exact ⟨ret_boolD (by rw [← HL.out, HD.out]; unfold okD; rw [HI.out]; simp), (HS.out.trans ((show Below w1.heap.size w1 _ from (by repeat (first | (with_reducible first | exact HB.out | apply below_alloc | apply pw_below_drewN | apply below_drew1 | (refine below_set ?_ GE1.out) | (refine below_set ?_ GE2.out)) | exact HB.out))).mono HS.out.size))⟩
      | true =>
        have HI := Aside0.mk hi
        have hcs : (rd_T40 l0 x).f1 = 0 ∨ (rd_T40 l0 x).f1 = 1 ∨ (rd_T40 l0 x).f1 = 2 := by
          unfold Ops.lookB at hi
          simpa using hi
        clear hi
        rcases hcs with hq | hq | hq
        · have HQ := Aside0.mk hq
          have HV := Aside0.mk (show Ops.lookV (rd_T40 l0 x).f1 = Ops.opV 0 by rw [hq]; rfl)
          clear hq
          have HP := Aside0.mk (show match_ops_1.f v (rd_T40 l0 x).f2 = some ((v.toList == (rd_T40 l0 x).f2.toList)) from rfl)
          have HAK := Aside0.mk (show asks (rd_T40 l0 x).f1 v (rd_T40 l0 x).f2 = ((v.toList == (rd_T40 l0 x).f2.toList)) by rw [HQ.out]; rfl)
          cases ha : ((v.toList == (rd_T40 l0 x).f2.toList)) with
          | false =>
            rw [ha] at HP HAK
            clear ha
            go_wp2_with (first | ((with_reducible refine gate_dst (N := 21) rfl ?_); refine Ops.ev_look rfl _ _ rfl b _ rfl rfl (((show Below w1.heap.size w1 _ from (by repeat (first | (with_reducible first | exact HB.out | apply below_alloc | apply pw_below_drewN | apply below_drew1 | (refine below_set ?_ GE1.out) | (refine below_set ?_ GE2.out)) | exact HB.out))).block b HLT.out).trans HM.out) _ _ _ HV.out HI.out ?_) | go_in)
            repeat (go_quiet (first | ((with_reducible refine gate_dst (N := 21) rfl ?_); refine Ops.ev_look rfl _ _ rfl b _ rfl rfl (((show Below w1.heap.size w1 _ from (by repeat (first | (with_reducible first | exact HB.out | apply below_alloc | apply pw_below_drewN | apply below_drew1 | (refine below_set ?_ GE1.out) | (refine below_set ?_ GE2.out)) | exact HB.out))).block b HLT.out).trans HM.out) _ _ _ HV.out HI.out ?_)); try go_wp2_with (first | ((with_reducible refine gate_dst (N := 21) rfl ?_); refine Ops.ev_look rfl _ _ rfl b _ rfl rfl (((show Below w1.heap.size w1 _ from (by repeat (first | (with_reducible first | exact HB.out | apply below_alloc | apply pw_below_drewN | apply below_drew1 | (refine below_set ?_ GE1.out) | (refine below_set ?_ GE2.out)) | exact HB.out))).block b HLT.out).trans HM.out) _ _ _ HV.out HI.out ?_) | go_in))
            generalize hW : ((wr.alloc (Obj.cells #[Value.string (rd_T40 l0 x).f0, Value.int IntKind.u8 (rd_T40 l0 x).f1, Value.string (rd_T40 l0 x).f2] 40 (0, 0))).alloc (Obj.cells #[Value.string ⟨#[61]⟩, Value.func (Fn.func 64) #[] #[]] 95 (0, 0))) = W
            have q0 : W.cell? ⟨wr.heap.size, 0, none⟩ = some (.string (rd_T40 l0 x).f0) := by rw [← hW]; simp [go_sem]
            have q2 : W.cell? ⟨wr.heap.size, 2, none⟩ = some (.string (rd_T40 l0 x).f2) := by rw [← hW]; simp [go_sem]
            have q3 : W.cell? ⟨wr.heap.size + 1, 1, none⟩ = some (.func (.func 64) #[] #[]) := by rw [← hW]; simp [go_sem]
            have HBW := Aside0.mk (show Below w1.heap.size w1 W from by rw [← hW]; exact (by repeat (first | (with_reducible first | exact HB.out | apply below_alloc | apply pw_below_drewN | apply below_drew1 | (refine below_set ?_ GE1.out) | (refine below_set ?_ GE2.out)) | exact HB.out)))
            clear hW hc00 hc01 hc02
            go_region_held3 (fun w' => w'.cell? ⟨wr.heap.size, 0, none⟩ = some (.string (rd_T40 l0 x).f0) ∧ w'.cell? ⟨wr.heap.size, 2, none⟩ = some (.string (rd_T40 l0 x).f2) ∧ w'.cell? ⟨wr.heap.size + 1, 1, none⟩ = some (.func (.func 64) #[] #[]) ∧ Below w1.heap.size w1 w') (first | exact ⟨q0, q2, q3, below_drew1 HBW.out⟩ | exact ⟨(by assumption), (by assumption), (by assumption), (by assumption)⟩)
              (first
                | (go_at_call 47; obtain ⟨s0, s2, s3, sB⟩ := (by assumption : _ ∧ _ ∧ _ ∧ Below w1.heap.size w1 _); refine (labels_Value.calls kv A1 c1 l1 (rd_T40 l0 x).f0 v _ (Kd.C_below HR2.out sB) HC1.out HKV.out).mono ?_; rintro e w5 ⟨rfl, hb5⟩; have t0 := (hb5.cell (World.block_lt_of_cell? _ _ s0)).trans s0; have t2 := (hb5.cell (World.block_lt_of_cell? _ _ s2)).trans s2; have t3 := (hb5.cell (World.block_lt_of_cell? _ _ s3)).trans s3; have tB := sB.trans (hb5.mono sB.size); clear s0 s2 s3 sB hb5)
                | (go_at_call 64; obtain ⟨s0, s2, s3, sB⟩ := (by assumption : _ ∧ _ ∧ _ ∧ Below w1.heap.size w1 _); refine (match_ops_1.calls v (rd_T40 l0 x).f2 false _ HP.out).mono ?_; rintro e w5 ⟨rfl, ⟨nd, rfl⟩⟩; have t0 := s0; have t2 := s2; have t3 := s3; have tB := pw_below_drewN sB nd; clear s0 s2 s3 sB))
            obtain ⟨-, -, -, HBZ⟩ := (by assumption : _ ∧ _ ∧ _ ∧ Below w1.heap.size w1 _)
            have HB9 := Aside0.mk HBZ
            clear HBZ HB
            have HB := HB9
            clear HB9
            go_wp2
            go_ret
            exact ⟨ret_boolD (by rw [← HL.out, HD.out]; unfold okD; rw [HI.out, ← HVV.out, HAK.out]; simp), (HS.out.trans ((show Below w1.heap.size w1 _ from (by repeat (first | (with_reducible first | exact HB.out | apply below_alloc | apply pw_below_drewN | apply below_drew1 | (refine below_set ?_ GE1.out) | (refine below_set ?_ GE2.out)) | exact HB.out))).mono HS.out.size))⟩
          | true =>
            rw [ha] at HP HAK
            clear ha
            go_wp2_with (first | ((with_reducible refine gate_dst (N := 21) rfl ?_); refine Ops.ev_look rfl _ _ rfl b _ rfl rfl (((show Below w1.heap.size w1 _ from (by repeat (first | (with_reducible first | exact HB.out | apply below_alloc | apply pw_below_drewN | apply below_drew1 | (refine below_set ?_ GE1.out) | (refine below_set ?_ GE2.out)) | exact HB.out))).block b HLT.out).trans HM.out) _ _ _ HV.out HI.out ?_) | go_in)
            repeat (go_quiet (first | ((with_reducible refine gate_dst (N := 21) rfl ?_); refine Ops.ev_look rfl _ _ rfl b _ rfl rfl (((show Below w1.heap.size w1 _ from (by repeat (first | (with_reducible first | exact HB.out | apply below_alloc | apply pw_below_drewN | apply below_drew1 | (refine below_set ?_ GE1.out) | (refine below_set ?_ GE2.out)) | exact HB.out))).block b HLT.out).trans HM.out) _ _ _ HV.out HI.out ?_)); try go_wp2_with (first | ((with_reducible refine gate_dst (N := 21) rfl ?_); refine Ops.ev_look rfl _ _ rfl b _ rfl rfl (((show Below w1.heap.size w1 _ from (by repeat (first | (with_reducible first | exact HB.out | apply below_alloc | apply pw_below_drewN | apply below_drew1 | (refine below_set ?_ GE1.out) | (refine below_set ?_ GE2.out)) | exact HB.out))).block b HLT.out).trans HM.out) _ _ _ HV.out HI.out ?_) | go_in))
            generalize hW : ((wr.alloc (Obj.cells #[Value.string (rd_T40 l0 x).f0, Value.int IntKind.u8 (rd_T40 l0 x).f1, Value.string (rd_T40 l0 x).f2] 40 (0, 0))).alloc (Obj.cells #[Value.string ⟨#[61]⟩, Value.func (Fn.func 64) #[] #[]] 95 (0, 0))) = W
            have q0 : W.cell? ⟨wr.heap.size, 0, none⟩ = some (.string (rd_T40 l0 x).f0) := by rw [← hW]; simp [go_sem]
            have q2 : W.cell? ⟨wr.heap.size, 2, none⟩ = some (.string (rd_T40 l0 x).f2) := by rw [← hW]; simp [go_sem]
            have q3 : W.cell? ⟨wr.heap.size + 1, 1, none⟩ = some (.func (.func 64) #[] #[]) := by rw [← hW]; simp [go_sem]
            have HBW := Aside0.mk (show Below w1.heap.size w1 W from by rw [← hW]; exact (by repeat (first | (with_reducible first | exact HB.out | apply below_alloc | apply pw_below_drewN | apply below_drew1 | (refine below_set ?_ GE1.out) | (refine below_set ?_ GE2.out)) | exact HB.out)))
            clear hW hc00 hc01 hc02
            go_region_held3 (fun w' => w'.cell? ⟨wr.heap.size, 0, none⟩ = some (.string (rd_T40 l0 x).f0) ∧ w'.cell? ⟨wr.heap.size, 2, none⟩ = some (.string (rd_T40 l0 x).f2) ∧ w'.cell? ⟨wr.heap.size + 1, 1, none⟩ = some (.func (.func 64) #[] #[]) ∧ Below w1.heap.size w1 w') (first | exact ⟨q0, q2, q3, below_drew1 HBW.out⟩ | exact ⟨(by assumption), (by assumption), (by assumption), (by assumption)⟩)
              (first
                | (go_at_call 47; obtain ⟨s0, s2, s3, sB⟩ := (by assumption : _ ∧ _ ∧ _ ∧ Below w1.heap.size w1 _); refine (labels_Value.calls kv A1 c1 l1 (rd_T40 l0 x).f0 v _ (Kd.C_below HR2.out sB) HC1.out HKV.out).mono ?_; rintro e w5 ⟨rfl, hb5⟩; have t0 := (hb5.cell (World.block_lt_of_cell? _ _ s0)).trans s0; have t2 := (hb5.cell (World.block_lt_of_cell? _ _ s2)).trans s2; have t3 := (hb5.cell (World.block_lt_of_cell? _ _ s3)).trans s3; have tB := sB.trans (hb5.mono sB.size); clear s0 s2 s3 sB hb5)
                | (go_at_call 64; obtain ⟨s0, s2, s3, sB⟩ := (by assumption : _ ∧ _ ∧ _ ∧ Below w1.heap.size w1 _); refine (match_ops_1.calls v (rd_T40 l0 x).f2 true _ HP.out).mono ?_; rintro e w5 ⟨rfl, ⟨nd, rfl⟩⟩; have t0 := s0; have t2 := s2; have t3 := s3; have tB := pw_below_drewN sB nd; clear s0 s2 s3 sB))
            obtain ⟨-, -, -, HBZ⟩ := (by assumption : _ ∧ _ ∧ _ ∧ Below w1.heap.size w1 _)
            have HB9 := Aside0.mk HBZ
            clear HBZ HB
            have HB := HB9
            clear HB9
            go_wp2
            go_roundw
            case rel => exact ⟨x + 1, by omega, by omega, by go_num, ⟨by rw [← HL.out, HD.out]; unfold okD; rw [HI.out, ← HVV.out, HAK.out]; simp⟩, ⟨(by repeat (first | (with_reducible first | exact HB.out | apply below_alloc | apply pw_below_drewN | apply below_drew1 | (refine below_set ?_ GE1.out) | (refine below_set ?_ GE2.out)) | exact HB.out))⟩⟩
            case measure => simp [intOf]; omega
        · have HQ := Aside0.mk hq
          have HV := Aside0.mk (show Ops.lookV (rd_T40 l0 x).f1 = Ops.opV 1 by rw [hq]; rfl)
          clear hq
          have HP := Aside0.mk (show match_ops_2.f v (rd_T40 l0 x).f2 = some ((v.toList != (rd_T40 l0 x).f2.toList)) from rfl)
          have HAK := Aside0.mk (show asks (rd_T40 l0 x).f1 v (rd_T40 l0 x).f2 = ((v.toList != (rd_T40 l0 x).f2.toList)) by rw [HQ.out]; rfl)
          cases ha : ((v.toList != (rd_T40 l0 x).f2.toList)) with
          | false =>
            rw [ha] at HP HAK
            clear ha
            go_wp2_with (first | ((with_reducible refine gate_dst (N := 21) rfl ?_); refine Ops.ev_look rfl _ _ rfl b _ rfl rfl (((show Below w1.heap.size w1 _ from (by repeat (first | (with_reducible first | exact HB.out | apply below_alloc | apply pw_below_drewN | apply below_drew1 | (refine below_set ?_ GE1.out) | (refine below_set ?_ GE2.out)) | exact HB.out))).block b HLT.out).trans HM.out) _ _ _ HV.out HI.out ?_) | go_in)
            repeat (go_quiet (first | ((with_reducible refine gate_dst (N := 21) rfl ?_); refine Ops.ev_look rfl _ _ rfl b _ rfl rfl (((show Below w1.heap.size w1 _ from (by repeat (first | (with_reducible first | exact HB.out | apply below_alloc | apply pw_below_drewN | apply below_drew1 | (refine below_set ?_ GE1.out) | (refine below_set ?_ GE2.out)) | exact HB.out))).block b HLT.out).trans HM.out) _ _ _ HV.out HI.out ?_)); try go_wp2_with (first | ((with_reducible refine gate_dst (N := 21) rfl ?_); refine Ops.ev_look rfl _ _ rfl b _ rfl rfl (((show Below w1.heap.size w1 _ from (by repeat (first | (with_reducible first | exact HB.out | apply below_alloc | apply pw_below_drewN | apply below_drew1 | (refine below_set ?_ GE1.out) | (refine below_set ?_ GE2.out)) | exact HB.out))).block b HLT.out).trans HM.out) _ _ _ HV.out HI.out ?_) | go_in))
            generalize hW : ((wr.alloc (Obj.cells #[Value.string (rd_T40 l0 x).f0, Value.int IntKind.u8 (rd_T40 l0 x).f1, Value.string (rd_T40 l0 x).f2] 40 (0, 0))).alloc (Obj.cells #[Value.string ⟨#[33, 61]⟩, Value.func (Fn.func 65) #[] #[]] 95 (0, 0))) = W
            have q0 : W.cell? ⟨wr.heap.size, 0, none⟩ = some (.string (rd_T40 l0 x).f0) := by rw [← hW]; simp [go_sem]
            have q2 : W.cell? ⟨wr.heap.size, 2, none⟩ = some (.string (rd_T40 l0 x).f2) := by rw [← hW]; simp [go_sem]
            have q3 : W.cell? ⟨wr.heap.size + 1, 1, none⟩ = some (.func (.func 65) #[] #[]) := by rw [← hW]; simp [go_sem]
            have HBW := Aside0.mk (show Below w1.heap.size w1 W from by rw [← hW]; exact (by repeat (first | (with_reducible first | exact HB.out | apply below_alloc | apply pw_below_drewN | apply below_drew1 | (refine below_set ?_ GE1.out) | (refine below_set ?_ GE2.out)) | exact HB.out)))
            clear hW hc00 hc01 hc02
            go_region_held3 (fun w' => w'.cell? ⟨wr.heap.size, 0, none⟩ = some (.string (rd_T40 l0 x).f0) ∧ w'.cell? ⟨wr.heap.size, 2, none⟩ = some (.string (rd_T40 l0 x).f2) ∧ w'.cell? ⟨wr.heap.size + 1, 1, none⟩ = some (.func (.func 65) #[] #[]) ∧ Below w1.heap.size w1 w') (first | exact ⟨q0, q2, q3, below_drew1 HBW.out⟩ | exact ⟨(by assumption), (by assumption), (by assumption), (by assumption)⟩)
              (first
                | (go_at_call 47; obtain ⟨s0, s2, s3, sB⟩ := (by assumption : _ ∧ _ ∧ _ ∧ Below w1.heap.size w1 _); refine (labels_Value.calls kv A1 c1 l1 (rd_T40 l0 x).f0 v _ (Kd.C_below HR2.out sB) HC1.out HKV.out).mono ?_; rintro e w5 ⟨rfl, hb5⟩; have t0 := (hb5.cell (World.block_lt_of_cell? _ _ s0)).trans s0; have t2 := (hb5.cell (World.block_lt_of_cell? _ _ s2)).trans s2; have t3 := (hb5.cell (World.block_lt_of_cell? _ _ s3)).trans s3; have tB := sB.trans (hb5.mono sB.size); clear s0 s2 s3 sB hb5)
                | (go_at_call 65; obtain ⟨s0, s2, s3, sB⟩ := (by assumption : _ ∧ _ ∧ _ ∧ Below w1.heap.size w1 _); refine (match_ops_2.calls v (rd_T40 l0 x).f2 false _ HP.out).mono ?_; rintro e w5 ⟨rfl, ⟨nd, rfl⟩⟩; have t0 := s0; have t2 := s2; have t3 := s3; have tB := pw_below_drewN sB nd; clear s0 s2 s3 sB))
            obtain ⟨-, -, -, HBZ⟩ := (by assumption : _ ∧ _ ∧ _ ∧ Below w1.heap.size w1 _)
            have HB9 := Aside0.mk HBZ
            clear HBZ HB
            have HB := HB9
            clear HB9
            go_wp2
            go_ret
            exact ⟨ret_boolD (by rw [← HL.out, HD.out]; unfold okD; rw [HI.out, ← HVV.out, HAK.out]; simp), (HS.out.trans ((show Below w1.heap.size w1 _ from (by repeat (first | (with_reducible first | exact HB.out | apply below_alloc | apply pw_below_drewN | apply below_drew1 | (refine below_set ?_ GE1.out) | (refine below_set ?_ GE2.out)) | exact HB.out))).mono HS.out.size))⟩
          | true =>
            rw [ha] at HP HAK
            clear ha
            go_wp2_with (first | ((with_reducible refine gate_dst (N := 21) rfl ?_); refine Ops.ev_look rfl _ _ rfl b _ rfl rfl (((show Below w1.heap.size w1 _ from (by repeat (first | (with_reducible first | exact HB.out | apply below_alloc | apply pw_below_drewN | apply below_drew1 | (refine below_set ?_ GE1.out) | (refine below_set ?_ GE2.out)) | exact HB.out))).block b HLT.out).trans HM.out) _ _ _ HV.out HI.out ?_) | go_in)
            repeat (go_quiet (first | ((with_reducible refine gate_dst (N := 21) rfl ?_); refine Ops.ev_look rfl _ _ rfl b _ rfl rfl (((show Below w1.heap.size w1 _ from (by repeat (first | (with_reducible first | exact HB.out | apply below_alloc | apply pw_below_drewN | apply below_drew1 | (refine below_set ?_ GE1.out) | (refine below_set ?_ GE2.out)) | exact HB.out))).block b HLT.out).trans HM.out) _ _ _ HV.out HI.out ?_)); try go_wp2_with (first | ((with_reducible refine gate_dst (N := 21) rfl ?_); refine Ops.ev_look rfl _ _ rfl b _ rfl rfl (((show Below w1.heap.size w1 _ from (by repeat (first | (with_reducible first | exact HB.out | apply below_alloc | apply pw_below_drewN | apply below_drew1 | (refine below_set ?_ GE1.out) | (refine below_set ?_ GE2.out)) | exact HB.out))).block b HLT.out).trans HM.out) _ _ _ HV.out HI.out ?_) | go_in))
            generalize hW : ((wr.alloc (Obj.cells #[Value.string (rd_T40 l0 x).f0, Value.int IntKind.u8 (rd_T40 l0 x).f1, Value.string (rd_T40 l0 x).f2] 40 (0, 0))).alloc (Obj.cells #[Value.string ⟨#[33, 61]⟩, Value.func (Fn.func 65) #[] #[]] 95 (0, 0))) = W
            have q0 : W.cell? ⟨wr.heap.size, 0, none⟩ = some (.string (rd_T40 l0 x).f0) := by rw [← hW]; simp [go_sem]
            have q2 : W.cell? ⟨wr.heap.size, 2, none⟩ = some (.string (rd_T40 l0 x).f2) := by rw [← hW]; simp [go_sem]
            have q3 : W.cell? ⟨wr.heap.size + 1, 1, none⟩ = some (.func (.func 65) #[] #[]) := by rw [← hW]; simp [go_sem]
            have HBW := Aside0.mk (show Below w1.heap.size w1 W from by rw [← hW]; exact (by repeat (first | (with_reducible first | exact HB.out | apply below_alloc | apply pw_below_drewN | apply below_drew1 | (refine below_set ?_ GE1.out) | (refine below_set ?_ GE2.out)) | exact HB.out)))
            clear hW hc00 hc01 hc02
            go_region_held3 (fun w' => w'.cell? ⟨wr.heap.size, 0, none⟩ = some (.string (rd_T40 l0 x).f0) ∧ w'.cell? ⟨wr.heap.size, 2, none⟩ = some (.string (rd_T40 l0 x).f2) ∧ w'.cell? ⟨wr.heap.size + 1, 1, none⟩ = some (.func (.func 65) #[] #[]) ∧ Below w1.heap.size w1 w') (first | exact ⟨q0, q2, q3, below_drew1 HBW.out⟩ | exact ⟨(by assumption), (by assumption), (by assumption), (by assumption)⟩)
              (first
                | (go_at_call 47; obtain ⟨s0, s2, s3, sB⟩ := (by assumption : _ ∧ _ ∧ _ ∧ Below w1.heap.size w1 _); refine (labels_Value.calls kv A1 c1 l1 (rd_T40 l0 x).f0 v _ (Kd.C_below HR2.out sB) HC1.out HKV.out).mono ?_; rintro e w5 ⟨rfl, hb5⟩; have t0 := (hb5.cell (World.block_lt_of_cell? _ _ s0)).trans s0; have t2 := (hb5.cell (World.block_lt_of_cell? _ _ s2)).trans s2; have t3 := (hb5.cell (World.block_lt_of_cell? _ _ s3)).trans s3; have tB := sB.trans (hb5.mono sB.size); clear s0 s2 s3 sB hb5)
                | (go_at_call 65; obtain ⟨s0, s2, s3, sB⟩ := (by assumption : _ ∧ _ ∧ _ ∧ Below w1.heap.size w1 _); refine (match_ops_2.calls v (rd_T40 l0 x).f2 true _ HP.out).mono ?_; rintro e w5 ⟨rfl, ⟨nd, rfl⟩⟩; have t0 := s0; have t2 := s2; have t3 := s3; have tB := pw_below_drewN sB nd; clear s0 s2 s3 sB))
            obtain ⟨-, -, -, HBZ⟩ := (by assumption : _ ∧ _ ∧ _ ∧ Below w1.heap.size w1 _)
            have HB9 := Aside0.mk HBZ
            clear HBZ HB
            have HB := HB9
            clear HB9
            go_wp2
            go_roundw
            case rel => exact ⟨x + 1, by omega, by omega, by go_num, ⟨by rw [← HL.out, HD.out]; unfold okD; rw [HI.out, ← HVV.out, HAK.out]; simp⟩, ⟨(by repeat (first | (with_reducible first | exact HB.out | apply below_alloc | apply pw_below_drewN | apply below_drew1 | (refine below_set ?_ GE1.out) | (refine below_set ?_ GE2.out)) | exact HB.out))⟩⟩
            case measure => simp [intOf]; omega
        · have HQ := Aside0.mk hq
          have HV := Aside0.mk (show Ops.lookV (rd_T40 l0 x).f1 = Ops.opV 2 by rw [hq]; rfl)
          clear hq
          have HP := Aside0.mk (show strings_HasPrefix.f v (rd_T40 l0 x).f2 = some (pre v (rd_T40 l0 x).f2) from pre_some _ _)
          have HAK := Aside0.mk (show asks (rd_T40 l0 x).f1 v (rd_T40 l0 x).f2 = (pre v (rd_T40 l0 x).f2) by rw [HQ.out]; rfl)
          cases ha : (pre v (rd_T40 l0 x).f2) with
          | false =>
            rw [ha] at HP HAK
            clear ha
            go_wp2_with (first | ((with_reducible refine gate_dst (N := 21) rfl ?_); refine Ops.ev_look rfl _ _ rfl b _ rfl rfl (((show Below w1.heap.size w1 _ from (by repeat (first | (with_reducible first | exact HB.out | apply below_alloc | apply pw_below_drewN | apply below_drew1 | (refine below_set ?_ GE1.out) | (refine below_set ?_ GE2.out)) | exact HB.out))).block b HLT.out).trans HM.out) _ _ _ HV.out HI.out ?_) | go_in)
            repeat (go_quiet (first | ((with_reducible refine gate_dst (N := 21) rfl ?_); refine Ops.ev_look rfl _ _ rfl b _ rfl rfl (((show Below w1.heap.size w1 _ from (by repeat (first | (with_reducible first | exact HB.out | apply below_alloc | apply pw_below_drewN | apply below_drew1 | (refine below_set ?_ GE1.out) | (refine below_set ?_ GE2.out)) | exact HB.out))).block b HLT.out).trans HM.out) _ _ _ HV.out HI.out ?_)); try go_wp2_with (first | ((with_reducible refine gate_dst (N := 21) rfl ?_); refine Ops.ev_look rfl _ _ rfl b _ rfl rfl (((show Below w1.heap.size w1 _ from (by repeat (first | (with_reducible first | exact HB.out | apply below_alloc | apply pw_below_drewN | apply below_drew1 | (refine below_set ?_ GE1.out) | (refine below_set ?_ GE2.out)) | exact HB.out))).block b HLT.out).trans HM.out) _ _ _ HV.out HI.out ?_) | go_in))
            generalize hW : ((wr.alloc (Obj.cells #[Value.string (rd_T40 l0 x).f0, Value.int IntKind.u8 (rd_T40 l0 x).f1, Value.string (rd_T40 l0 x).f2] 40 (0, 0))).alloc (Obj.cells #[Value.string ⟨#[94, 61]⟩, Value.func (Fn.func 66) #[] #[]] 95 (0, 0))) = W
            have q0 : W.cell? ⟨wr.heap.size, 0, none⟩ = some (.string (rd_T40 l0 x).f0) := by rw [← hW]; simp [go_sem]
            have q2 : W.cell? ⟨wr.heap.size, 2, none⟩ = some (.string (rd_T40 l0 x).f2) := by rw [← hW]; simp [go_sem]
            have q3 : W.cell? ⟨wr.heap.size + 1, 1, none⟩ = some (.func (.func 66) #[] #[]) := by rw [← hW]; simp [go_sem]
            have HBW := Aside0.mk (show Below w1.heap.size w1 W from by rw [← hW]; exact (by repeat (first | (with_reducible first | exact HB.out | apply below_alloc | apply pw_below_drewN | apply below_drew1 | (refine below_set ?_ GE1.out) | (refine below_set ?_ GE2.out)) | exact HB.out)))
            clear hW hc00 hc01 hc02
            go_region_held3 (fun w' => w'.cell? ⟨wr.heap.size, 0, none⟩ = some (.string (rd_T40 l0 x).f0) ∧ w'.cell? ⟨wr.heap.size, 2, none⟩ = some (.string (rd_T40 l0 x).f2) ∧ w'.cell? ⟨wr.heap.size + 1, 1, none⟩ = some (.func (.func 66) #[] #[]) ∧ Below w1.heap.size w1 w') (first | exact ⟨q0, q2, q3, below_drew1 HBW.out⟩ | exact ⟨(by assumption), (by assumption), (by assumption), (by assumption)⟩)
              (first
                | (go_at_call 47; obtain ⟨s0, s2, s3, sB⟩ := (by assumption : _ ∧ _ ∧ _ ∧ Below w1.heap.size w1 _); refine (labels_Value.calls kv A1 c1 l1 (rd_T40 l0 x).f0 v _ (Kd.C_below HR2.out sB) HC1.out HKV.out).mono ?_; rintro e w5 ⟨rfl, hb5⟩; have t0 := (hb5.cell (World.block_lt_of_cell? _ _ s0)).trans s0; have t2 := (hb5.cell (World.block_lt_of_cell? _ _ s2)).trans s2; have t3 := (hb5.cell (World.block_lt_of_cell? _ _ s3)).trans s3; have tB := sB.trans (hb5.mono sB.size); clear s0 s2 s3 sB hb5)
                | (go_at_call 66; obtain ⟨s0, s2, s3, sB⟩ := (by assumption : _ ∧ _ ∧ _ ∧ Below w1.heap.size w1 _); refine (strings_HasPrefix.calls v (rd_T40 l0 x).f2 false _ HP.out).mono ?_; rintro e w5 ⟨rfl, ⟨nd, rfl⟩⟩; have t0 := s0; have t2 := s2; have t3 := s3; have tB := pw_below_drewN sB nd; clear s0 s2 s3 sB))
            obtain ⟨-, -, -, HBZ⟩ := (by assumption : _ ∧ _ ∧ _ ∧ Below w1.heap.size w1 _)
            have HB9 := Aside0.mk HBZ
            clear HBZ HB
            have HB := HB9
            clear HB9
            go_wp2
            go_ret
            exact ⟨ret_boolD (by rw [← HL.out, HD.out]; unfold okD; rw [HI.out, ← HVV.out, HAK.out]; simp), (HS.out.trans ((show Below w1.heap.size w1 _ from (by repeat (first | (with_reducible first | exact HB.out | apply below_alloc | apply pw_below_drewN | apply below_drew1 | (refine below_set ?_ GE1.out) | (refine below_set ?_ GE2.out)) | exact HB.out))).mono HS.out.size))⟩
          | true =>
            rw [ha] at HP HAK
            clear ha
            go_wp2_with (first | ((with_reducible refine gate_dst (N := 21) rfl ?_); refine Ops.ev_look rfl _ _ rfl b _ rfl rfl (((show Below w1.heap.size w1 _ from (by repeat (first | (with_reducible first | exact HB.out | apply below_alloc | apply pw_below_drewN | apply below_drew1 | (refine below_set ?_ GE1.out) | (refine below_set ?_ GE2.out)) | exact HB.out))).block b HLT.out).trans HM.out) _ _ _ HV.out HI.out ?_) | go_in)
            repeat (go_quiet (first | ((with_reducible refine gate_dst (N := 21) rfl ?_); refine Ops.ev_look rfl _ _ rfl b _ rfl rfl (((show Below w1.heap.size w1 _ from (by repeat (first | (with_reducible first | exact HB.out | apply below_alloc | apply pw_below_drewN | apply below_drew1 | (refine below_set ?_ GE1.out) | (refine below_set ?_ GE2.out)) | exact HB.out))).block b HLT.out).trans HM.out) _ _ _ HV.out HI.out ?_)); try go_wp2_with (first | ((with_reducible refine gate_dst (N := 21) rfl ?_); refine Ops.ev_look rfl _ _ rfl b _ rfl rfl (((show Below w1.heap.size w1 _ from (by repeat (first | (with_reducible first | exact HB.out | apply below_alloc | apply pw_below_drewN | apply below_drew1 | (refine below_set ?_ GE1.out) | (refine below_set ?_ GE2.out)) | exact HB.out))).block b HLT.out).trans HM.out) _ _ _ HV.out HI.out ?_) | go_in))
            generalize hW : ((wr.alloc (Obj.cells #[Value.string (rd_T40 l0 x).f0, Value.int IntKind.u8 (rd_T40 l0 x).f1, Value.string (rd_T40 l0 x).f2] 40 (0, 0))).alloc (Obj.cells #[Value.string ⟨#[94, 61]⟩, Value.func (Fn.func 66) #[] #[]] 95 (0, 0))) = W
            have q0 : W.cell? ⟨wr.heap.size, 0, none⟩ = some (.string (rd_T40 l0 x).f0) := by rw [← hW]; simp [go_sem]
            have q2 : W.cell? ⟨wr.heap.size, 2, none⟩ = some (.string (rd_T40 l0 x).f2) := by rw [← hW]; simp [go_sem]
            have q3 : W.cell? ⟨wr.heap.size + 1, 1, none⟩ = some (.func (.func 66) #[] #[]) := by rw [← hW]; simp [go_sem]
            have HBW := Aside0.mk (show Below w1.heap.size w1 W from by rw [← hW]; exact (by repeat (first | (with_reducible first | exact HB.out | apply below_alloc | apply pw_below_drewN | apply below_drew1 | (refine below_set ?_ GE1.out) | (refine below_set ?_ GE2.out)) | exact HB.out)))
            clear hW hc00 hc01 hc02
            go_region_held3 (fun w' => w'.cell? ⟨wr.heap.size, 0, none⟩ = some (.string (rd_T40 l0 x).f0) ∧ w'.cell? ⟨wr.heap.size, 2, none⟩ = some (.string (rd_T40 l0 x).f2) ∧ w'.cell? ⟨wr.heap.size + 1, 1, none⟩ = some (.func (.func 66) #[] #[]) ∧ Below w1.heap.size w1 w') (first | exact ⟨q0, q2, q3, below_drew1 HBW.out⟩ | exact ⟨(by assumption), (by assumption), (by assumption), (by assumption)⟩)
              (first
                | (go_at_call 47; obtain ⟨s0, s2, s3, sB⟩ := (by assumption : _ ∧ _ ∧ _ ∧ Below w1.heap.size w1 _); refine (labels_Value.calls kv A1 c1 l1 (rd_T40 l0 x).f0 v _ (Kd.C_below HR2.out sB) HC1.out HKV.out).mono ?_; rintro e w5 ⟨rfl, hb5⟩; have t0 := (hb5.cell (World.block_lt_of_cell? _ _ s0)).trans s0; have t2 := (hb5.cell (World.block_lt_of_cell? _ _ s2)).trans s2; have t3 := (hb5.cell (World.block_lt_of_cell? _ _ s3)).trans s3; have tB := sB.trans (hb5.mono sB.size); clear s0 s2 s3 sB hb5)
                | (go_at_call 66; obtain ⟨s0, s2, s3, sB⟩ := (by assumption : _ ∧ _ ∧ _ ∧ Below w1.heap.size w1 _); refine (strings_HasPrefix.calls v (rd_T40 l0 x).f2 true _ HP.out).mono ?_; rintro e w5 ⟨rfl, ⟨nd, rfl⟩⟩; have t0 := s0; have t2 := s2; have t3 := s3; have tB := pw_below_drewN sB nd; clear s0 s2 s3 sB))
            obtain ⟨-, -, -, HBZ⟩ := (by assumption : _ ∧ _ ∧ _ ∧ Below w1.heap.size w1 _)
            have HB9 := Aside0.mk HBZ
            clear HBZ HB
            have HB := HB9
            clear HB9
            go_wp2
            go_roundw
            case rel => exact ⟨x + 1, by omega, by omega, by go_num, ⟨by rw [← HL.out, HD.out]; unfold okD; rw [HI.out, ← HVV.out, HAK.out]; simp⟩, ⟨(by repeat (first | (with_reducible first | exact HB.out | apply below_alloc | apply pw_below_drewN | apply below_drew1 | (refine below_set ?_ GE1.out) | (refine below_set ?_ GE2.out)) | exact HB.out))⟩⟩
            case measure => simp [intOf]; omega
    · obtain rfl : x = l0.length := by omega
      have hfin : true = r := by have := HL.out; simpa using this
      have HF := Aside0.mk hfin
      clear hfin
      go_wp2
      go_ret
      exact ⟨ret_boolD HF.out, (HS.out.trans ((show Below w1.heap.size w1 _ from (by repeat (first | (with_reducible first | exact HB.out | apply below_alloc | apply pw_below_drewN | apply below_drew1 | (refine below_set ?_ GE1.out) | (refine below_set ?_ GE2.out)) | exact HB.out))).mono HS.out.size))⟩

-- NOT PRINTED: function 41 (series_Store_Select_1)

-- NOT PRINTED: function 16 (series_Store_Select)

end Go.Proofs.Ytlhlaadnifkdhaa.Q
