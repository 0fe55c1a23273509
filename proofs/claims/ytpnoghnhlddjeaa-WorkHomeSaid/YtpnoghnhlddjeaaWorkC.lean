/- A rule's task dropped; the worker with the most tasks: walked. -/
import Derived.Test.YtpnoghnhlddjeaaWorkB
import Derived.Scope
namespace Go.Proofs.Ytpnoghnhlddjeaa.Wk
open Go.RowKit Go.Proofs.YtpnoghnhlddjeaaW.PrintWords Go.Proofs.YtpnoghnhlddjeaaW.PrintLast Go.Proofs.YtpnoghnhlddjeaaW.PrintMore Go.Proofs.Ytpnoghnhlddjeaa.Q Go.Proofs.Ytpnoghnhlddjeaa.Own Go.Proofs.Ytpnoghnhlddjeaa.Hp
set_option linter.unusedVariables false
set_option linter.unusedSimpArgs false
attribute [local go_sem ↓] Go.wp_at_zero Go.wp_at_succ

def DropPost (B : Nat) (w : World) (p : Nat) (v : Value) (ps : List Nat) (hs : List (List S31)) (Ts : List Th) (r : Bool) (e : Ending) (w' : World) : Prop := e = .returned (.bool r) ∧ Has B w' (workL p v ps hs ++ Ts) ∧ Below B w w'
set_option maxHeartbeats 2000000 in
set_option maxRecDepth 100000 in
theorem drop_calls {B : Nat} {w : World} {p : Nat} {v : Value} {ps : List Nat} {hs : List (List S31)} {Ts : List Th} (h : Has B w (workL p v ps hs ++ Ts)) (hl : ps.length = hs.length) (hn : 0 < ps.length) (r : Int) (hr0 : 0 ≤ r) (hr1 : r ≤ 4294967295) :
    Calls Try.prog 17 #[ptr p, .int .u32 r] w (DropPost B w p v ps (hs.set (homeOf r ps.length) (withoutL (hs.getD (homeOf r ps.length) []) r)) Ts (hasL (hs.getD (homeOf r ps.length) []) r)) := by
  have hjl : homeOf r ps.length < ps.length := Nat.mod_lt _ hn
  have HN := Aside0.mk (wnone_calls h)
  have HHO := Aside0.mk (home_calls h hn r hr0 hr1)
  obtain ⟨R, r1, r2⟩ := work_pick (p := p) (v := v) (hs := hs) Ts hl (homeOf r ps.length) hjl
  have HRM := Aside0.mk (remove_calls (r1 _ _ h.drew) r)
  have HR2 := Aside0.mk (r2 (withoutL (hs.getD (homeOf r ps.length) []) r))
  have HS := Aside0.mk h.size
  generalize hasL (hs.getD (homeOf r ps.length) []) r = hh at HRM ⊢
  generalize ps[homeOf r ps.length] = q at HHO HRM HR2
  clear r1 r2 hl hn hr0 hr1 h
  go_enter Try.func17, Try.ntmps17
  go_wp2_with fail
  refine HN.out.mono ?_
  rintro e w1 ⟨rfl, rfl⟩
  go_wp2_with fail
  refine HHO.out.mono ?_
  rintro e w1 ⟨rfl, rfl⟩
  go_wp2_with fail
  refine HRM.out.mono ?_
  rintro e w2 ⟨rfl, hA, hB⟩
  have HA2 := Aside0.mk (HR2.out _ _ hA)
  have HB2 := Aside0.mk ((below_drew (Below.refl B w)).trans hB)
  clear hA hB HN HHO HRM HR2
  go_wp2_with fail
  go_ret
  exact ⟨rfl, HA2.out, HB2.out⟩
theorem goesV_ {P : Program} {ops : Array Oper} {Q : Exit → Act → World → Prop} {oi : Oper} {N : Option Tmp} {a : Act} {w : World} {K : Act → World → Prop} {f : FuncId} {fn : Func} {as_ : Array Operand} {ts : Array TypeId} (x : Operand) (hf : P.funcs[f]? = some fn) (hname : (fn.name == "runtime.NumGoroutine") = false) (hb : fn.body.isSome = true) (args : Array Value)
    (hw : Region.wanted oi (yielded ops a.tmps) = true) (hN : oi.dst = N) (hop : oi.op = .call { callee := .value x, args := as_, argTypes := ts }) (hx : a.eval x = .func (.func f) #[] #[]) (hargs : as_.map a.eval = args)
    (h : Calls P f args w fun e w' => ∃ v, e = .returned v ∧ K (a.put N v) w') : if Region.wanted oi (yielded ops a.tmps) = true then Oper.wp P oi a w K Q else K (a.put N undef) w := by
  refine call_ f args hw hN ?_ h
  have he := enters_ hf hname hb args w
  unfold execOp
  simp [hop, hx, resolve, Deferred.ofValue, invoke, hargs, he]
/-- The first of those with the most. -/
def mostF (hs : List (List S31)) : Nat → Nat
  | 0 => 0
  | i + 1 => if i = 0 then 0 else if (hs.getD i []).length > (hs.getD (mostF hs i) []).length then i else mostF hs i
theorem mostF_lt (hs : List (List S31)) : ∀ i, mostF hs i ≤ i - 1
  | 0 => Nat.le_refl _
  | i + 1 => by
    have := mostF_lt hs i
    unfold mostF
    split
    · omega
    · split <;> omega
theorem more_calls {B : Nat} {w : World} {p : Nat} {v : Value} {ps : List Nat} {hs : List (List S31)} {Ts : List Th} (h : Has B w (workL p v ps hs ++ Ts)) (hl : ps.length = hs.length) (i j : Nat) (hi : i < ps.length) (hj : j < ps.length) :
    Calls Try.prog 24 #[ptr ps[i], ptr ps[j]] w fun e w' => e = .returned (.bool (decide (((hs.getD i []).length : Int) > ((hs.getD j []).length : Int)))) ∧ w = w' := by
  obtain ⟨R, r1, -⟩ := work_pick Ts hl i hi
  obtain ⟨R', r1', -⟩ := work_pick Ts hl j hj
  have H1 := Aside0.mk (len_calls (r1 _ _ h))
  have H2 := Aside0.mk (len_calls (r1' _ _ h))
  clear r1 r1' h
  generalize ps[i] = a at H1 ⊢
  generalize ps[j] = b at H2 ⊢
  go_enter Try.func24, Try.ntmps24
  go_wp2_with fail
  refine H1.out.mono ?_
  rintro e w1 ⟨rfl, rfl⟩
  go_wp2_with fail
  refine H2.out.mono ?_
  rintro e w1 ⟨rfl, rfl⟩
  go_wp2_with fail
  go_ret
  exact ⟨by simp, rfl⟩
set_option maxHeartbeats 4000000 in
set_option maxRecDepth 100000 in
theorem most_calls {B : Nat} {w : World} {p : Nat} {v : Value} {ps : List Nat} {hs : List (List S31)} {Ts : List Th} (h : Has B w (workL p v ps hs ++ Ts)) (hl : ps.length = hs.length) :
    Calls Try.prog 37 #[ptr p] w fun e w' => e = .returned (.int .i64 (mostF hs ps.length : Nat)) ∧ ∃ k, w' = w.drewN k := by
  have H := Aside0.mk h
  have HL := Aside0.mk hl
  obtain ⟨q0, q1, A, c, rfl, hc, hC⟩ := work_cells h
  have HC := Aside0.mk hC
  have hmax : ps.length ≤ 9223372036854775807 := Kd.C_max hC
  clear h hl hC hc
  go_enter Try.func37, Try.ntmps37
  go_wp2
  refine wp_scope_straight ?_
  go_wp2_with (refine wp_label ?_)
  go_loopw [11, 3] (fun i b wr => ∃ n : Nat, i = .int .i64 n ∧ n ≤ ps.length ∧ b = .int .i64 (mostF hs n : Nat) ∧ ∃ k, wr = w.drewN k) (fun i _ _ => ps.length - (intOf i).toNat)
  case atStart => exact ⟨0, rfl, by omega, rfl, 0, rfl⟩
  case round =>
    obtain ⟨n, rfl, hn, rfl, k, rfl⟩ := hrel
    by_cases hnt : n < ps.length
    · have d1 : decide ((n : Int) < (ps.length : Int)) = true := decide_eq_true (by omega)
      have d2 : (n : Int) < (ps.length : Int) := by omega
      obtain ⟨ad, rfl, ka⟩ := at_P HC.out n hnt
      by_cases hz : n = 0
      · subst hz
        rw [show ((0 : Nat) : Int) = (0 : Int) from rfl] at *
        replace ka : w.cell? ad = some (ptr ps[0]) := ka
        go_wp2_with fail
        go_roundw
        case rel => exact ⟨1, rfl, by omega, rfl, k, rfl⟩
        case measure => simp [intOf]; omega
      · have e0 : ((n : Int) == 0) = false := beq_eq_false_iff_ne.2 (by omega)
        have hml := mostF_lt hs n
        obtain ⟨m, hm⟩ : ∃ m, m = mostF hs n := ⟨_, rfl⟩
        rw [← hm] at hml ⊢
        have hmp : m < ps.length := by omega
        obtain ⟨ad', e1, kb⟩ := at_P HC.out m hmp
        cases e1
        have HMO := Aside0.mk (more_calls (H.out.drewN k).drew HL.out n m hnt hmp)
        have HMT : Aside0 ((hs.getD n []).length > (hs.getD m []).length → mostF hs (n + 1) = n) := ⟨fun q => by unfold mostF; rw [if_neg hz, ← hm, if_pos q]⟩
        have HMF : Aside0 (¬ (hs.getD n []).length > (hs.getD m []).length → mostF hs (n + 1) = m) := ⟨fun q => by unfold mostF; rw [if_neg hz, ← hm, if_neg q]⟩
        generalize ps[n] = qa at ka HMO
        generalize ps[m] = qb at kb HMO
        have d3 : (m : Int) < (ps.length : Int) := by omega
        clear hm hml hz
        by_cases hg : (hs.getD n []).length > (hs.getD m []).length
        · rw [decide_eq_true (by omega)] at HMO
          replace HMT := Aside0.mk (HMT.out hg)
          clear hg HMF
          go_wp2_with fail
          refine start_ (n := 14) (S := fun w' => w'.cell? ⟨p, 0, none⟩ = some (.slice (some ad) ps.length c) ∧ w'.cell? ⟨p, 1, none⟩ = some (.func (.func 24) #[] #[]) ∧ w'.cell? (ad.add m) = some (ptr qb)) (ds := []) #[false, false, false, false, false, false, false, false, false, false, false, false, false, false] (by kernel_rfl) rfl rfl ⟨q0, q1, kb⟩ (fun hHeld => ?_)
          refine pure_ (i := 0) (N := some 20) (v := ?_) (a' := ?_) #[true, false, false, false, false, false, false, false, false, false, false, false, false, false] rfl rfl (by kernel_rfl) (fun _ _ _ h => h) (Or.inl ⟨by rfl, ?_⟩) ?_ ?_
          rotate_left
          · intro w'
            go_simp
            with_reducible rfl
          rotate_left
          · simp only [Act.put, List.setIfInBounds_toArray, List.set_cons_zero, List.set_cons_succ, i64_w, i32_w]
            rfl
          refine pure_ (i := 1) (N := some 21) (v := ?_) (a' := ?_) #[true, true, false, false, false, false, false, false, false, false, false, false, false, false] rfl rfl (by kernel_rfl) (fun _ _ _ h => h) (Or.inl ⟨by rfl, ?_⟩) ?_ ?_
          rotate_left
          · intro w'
            go_simp
            with_reducible rfl
          rotate_left
          · simp only [Act.put, List.setIfInBounds_toArray, List.set_cons_zero, List.set_cons_succ, i64_w, i32_w]
            rfl
          refine pure_ (i := 2) (N := some 22) (v := ?_) (a' := ?_) #[true, true, true, false, false, false, false, false, false, false, false, false, false, false] rfl rfl (by kernel_rfl) (fun _ _ _ h => h) (Or.inl ⟨by rfl, ?_⟩) ?_ ?_
          rotate_left
          · intro w'
            go_simp
            with_reducible rfl
          rotate_left
          · simp only [Act.put, List.setIfInBounds_toArray, List.set_cons_zero, List.set_cons_succ, i64_w, i32_w]
            rfl
          refine pure_ (i := 4) (N := some 24) (v := ?_) (a' := ?_) #[true, true, true, false, true, false, false, false, false, false, false, false, false, false] rfl rfl (by kernel_rfl) (fun _ _ _ h => h) (Or.inl ⟨by rfl, ?_⟩) ?_ ?_
          rotate_left
          · intro w'
            go_simp
            with_reducible rfl
          rotate_left
          · simp only [Act.put, List.setIfInBounds_toArray, List.set_cons_zero, List.set_cons_succ, i64_w, i32_w]
            rfl
          refine pure_ (i := 5) (N := some 25) (v := ?_) (a' := ?_) #[true, true, true, false, true, true, false, false, false, false, false, false, false, false] rfl rfl (by kernel_rfl) (fun _ _ _ h => h) (Or.inl ⟨by rfl, ?_⟩) ?_ ?_
          rotate_left
          · intro w'
            go_simp
            with_reducible rfl
          rotate_left
          · simp only [Act.put, List.setIfInBounds_toArray, List.set_cons_zero, List.set_cons_succ, i64_w, i32_w]
            rfl
          refine pure_ (i := 6) (N := some 26) (v := ?_) (a' := ?_) #[true, true, true, false, true, true, true, false, false, false, false, false, false, false] rfl rfl (by kernel_rfl) (fun _ _ _ h => h) (Or.inl ⟨by rfl, ?_⟩) ?_ ?_
          rotate_left
          · intro w'
            go_simp
            with_reducible rfl
          rotate_left
          · simp only [Act.put, List.setIfInBounds_toArray, List.set_cons_zero, List.set_cons_succ, i64_w, i32_w]
            rfl
          refine pure_ (i := 7) (N := some 27) (v := ?_) (a' := ?_) #[true, true, true, false, true, true, true, true, false, false, false, false, false, false] rfl rfl (by kernel_rfl) (fun _ _ _ h => h) (Or.inl ⟨by rfl, ?_⟩) ?_ ?_
          rotate_left
          · intro w'
            go_simp
            with_reducible rfl
          rotate_left
          · simp only [Act.put, List.setIfInBounds_toArray, List.set_cons_zero, List.set_cons_succ, i64_w, i32_w]
            rfl
          refine pure_ (i := 9) (N := some 29) (v := ?_) (a' := ?_) #[true, true, true, false, true, true, true, true, false, true, false, false, false, false] rfl rfl (by kernel_rfl) (fun _ _ _ h => h) (Or.inl ⟨by rfl, ?_⟩) ?_ ?_
          rotate_left
          · intro w'
            go_simp
            with_reducible rfl
          rotate_left
          · simp only [Act.put, List.setIfInBounds_toArray, List.set_cons_zero, List.set_cons_succ, i64_w, i32_w]
            rfl
          refine take_ (i := 3) (N := some 23) (v := ?_) (a' := ?_) #[true, true, true, true, true, true, true, true, false, true, false, false, false, false] rfl rfl (by kernel_rfl) (fun _ _ _ h => h) (Or.inl ⟨by rfl, ?_⟩) hHeld ?_ ?_
          rotate_left
          · rintro w' ⟨s0, s1, s2⟩
            go_simp
            with_reducible rfl
          rotate_left
          · simp only [Act.put, List.setIfInBounds_toArray, List.set_cons_zero, List.set_cons_succ, i64_w, i32_w]
            rfl
          refine take_ (i := 8) (N := some 28) (v := ?_) (a' := ?_) #[true, true, true, true, true, true, true, true, true, true, false, false, false, false] rfl rfl (by kernel_rfl) (fun _ _ _ h => h) (Or.inl ⟨by rfl, ?_⟩) hHeld ?_ ?_
          rotate_left
          · rintro w' ⟨s0, s1, s2⟩
            go_simp
            with_reducible rfl
          rotate_left
          · simp only [Act.put, List.setIfInBounds_toArray, List.set_cons_zero, List.set_cons_succ, i64_w, i32_w]
            rfl
          refine pure_ (i := 10) (N := some 30) (v := ?_) (a' := ?_) #[true, true, true, true, true, true, true, true, true, true, true, false, false, false] rfl rfl (by kernel_rfl) (fun _ _ _ h => h) (Or.inl ⟨by rfl, ?_⟩) ?_ ?_
          rotate_left
          · intro w'
            go_simp
            with_reducible rfl
          rotate_left
          · simp only [Act.put, List.setIfInBounds_toArray, List.set_cons_zero, List.set_cons_succ, i64_w, i32_w]
            rfl
          refine take_ (i := 11) (N := some 31) (v := ?_) (a' := ?_) #[true, true, true, true, true, true, true, true, true, true, true, true, false, false] rfl rfl (by kernel_rfl) (fun _ _ _ h => h) (Or.inl ⟨by rfl, ?_⟩) hHeld ?_ ?_
          rotate_left
          · rintro w' ⟨s0, s1, s2⟩
            go_simp
            with_reducible rfl
          rotate_left
          · simp only [Act.put, List.setIfInBounds_toArray, List.set_cons_zero, List.set_cons_succ, i64_w, i32_w]
            rfl
          refine one_ (i := 12) (N := some 32) #[true, true, true, true, true, true, true, true, true, true, true, true, true, false] rfl rfl (by kernel_rfl) (by decide) (fun K hK => ?_)
          refine goesV_ (.tmp 23) Try.func24 (by kernel_rfl) rfl #[ptr qa, ptr qb] (by rfl) rfl rfl (by rfl) (by simp only [List.map_toArray, List.map_cons, List.map_nil]; rfl) ?_
          with_reducible refine (HMO.out).mono ?_
          rintro e w3 ⟨rfl, rfl⟩
          refine ⟨_, rfl, ?_⟩
          refine hK.out _ _ ⟨q0, q1, kb⟩ (fun hHeld => ?_)
          clear hK K
          refine norm_ (a' := ?_) ?_ ?_
          rotate_left
          · show Act.put _ (some 32) _ = _
            simp only [Act.put, List.setIfInBounds_toArray, List.set_cons_zero, List.set_cons_succ, i64_w, i32_w]
            rfl
          refine pure_ (i := 13) (N := some 19) (v := ?_) (a' := ?_) #[true, true, true, true, true, true, true, true, true, true, true, true, true, true] rfl rfl (by kernel_rfl) (fun _ _ _ h => h) (Or.inl ⟨by rfl, ?_⟩) ?_ ?_
          rotate_left
          · intro w'
            go_simp
            with_reducible rfl
          rotate_left
          · simp only [Act.put, List.setIfInBounds_toArray, List.set_cons_zero, List.set_cons_succ, i64_w, i32_w]
            rfl
          refine done_ (by kernel_rfl) ?_

          go_wp2
          go_roundw
          case rel => exact ⟨n + 1, rfl, by omega, by rw [HMT.out], ⟨k + 1, rfl⟩⟩
          case measure => simp [intOf]; omega
        · rw [decide_eq_false (by omega)] at HMO
          replace HMF := Aside0.mk (HMF.out hg)
          clear hg HMT
          go_wp2_with fail
          refine start_ (n := 14) (S := fun w' => w'.cell? ⟨p, 0, none⟩ = some (.slice (some ad) ps.length c) ∧ w'.cell? ⟨p, 1, none⟩ = some (.func (.func 24) #[] #[]) ∧ w'.cell? (ad.add m) = some (ptr qb)) (ds := []) #[false, false, false, false, false, false, false, false, false, false, false, false, false, false] (by kernel_rfl) rfl rfl ⟨q0, q1, kb⟩ (fun hHeld => ?_)
          refine pure_ (i := 0) (N := some 20) (v := ?_) (a' := ?_) #[true, false, false, false, false, false, false, false, false, false, false, false, false, false] rfl rfl (by kernel_rfl) (fun _ _ _ h => h) (Or.inl ⟨by rfl, ?_⟩) ?_ ?_
          rotate_left
          · intro w'
            go_simp
            with_reducible rfl
          rotate_left
          · simp only [Act.put, List.setIfInBounds_toArray, List.set_cons_zero, List.set_cons_succ, i64_w, i32_w]
            rfl
          refine pure_ (i := 1) (N := some 21) (v := ?_) (a' := ?_) #[true, true, false, false, false, false, false, false, false, false, false, false, false, false] rfl rfl (by kernel_rfl) (fun _ _ _ h => h) (Or.inl ⟨by rfl, ?_⟩) ?_ ?_
          rotate_left
          · intro w'
            go_simp
            with_reducible rfl
          rotate_left
          · simp only [Act.put, List.setIfInBounds_toArray, List.set_cons_zero, List.set_cons_succ, i64_w, i32_w]
            rfl
          refine pure_ (i := 2) (N := some 22) (v := ?_) (a' := ?_) #[true, true, true, false, false, false, false, false, false, false, false, false, false, false] rfl rfl (by kernel_rfl) (fun _ _ _ h => h) (Or.inl ⟨by rfl, ?_⟩) ?_ ?_
          rotate_left
          · intro w'
            go_simp
            with_reducible rfl
          rotate_left
          · simp only [Act.put, List.setIfInBounds_toArray, List.set_cons_zero, List.set_cons_succ, i64_w, i32_w]
            rfl
          refine pure_ (i := 4) (N := some 24) (v := ?_) (a' := ?_) #[true, true, true, false, true, false, false, false, false, false, false, false, false, false] rfl rfl (by kernel_rfl) (fun _ _ _ h => h) (Or.inl ⟨by rfl, ?_⟩) ?_ ?_
          rotate_left
          · intro w'
            go_simp
            with_reducible rfl
          rotate_left
          · simp only [Act.put, List.setIfInBounds_toArray, List.set_cons_zero, List.set_cons_succ, i64_w, i32_w]
            rfl
          refine pure_ (i := 5) (N := some 25) (v := ?_) (a' := ?_) #[true, true, true, false, true, true, false, false, false, false, false, false, false, false] rfl rfl (by kernel_rfl) (fun _ _ _ h => h) (Or.inl ⟨by rfl, ?_⟩) ?_ ?_
          rotate_left
          · intro w'
            go_simp
            with_reducible rfl
          rotate_left
          · simp only [Act.put, List.setIfInBounds_toArray, List.set_cons_zero, List.set_cons_succ, i64_w, i32_w]
            rfl
          refine pure_ (i := 6) (N := some 26) (v := ?_) (a' := ?_) #[true, true, true, false, true, true, true, false, false, false, false, false, false, false] rfl rfl (by kernel_rfl) (fun _ _ _ h => h) (Or.inl ⟨by rfl, ?_⟩) ?_ ?_
          rotate_left
          · intro w'
            go_simp
            with_reducible rfl
          rotate_left
          · simp only [Act.put, List.setIfInBounds_toArray, List.set_cons_zero, List.set_cons_succ, i64_w, i32_w]
            rfl
          refine pure_ (i := 7) (N := some 27) (v := ?_) (a' := ?_) #[true, true, true, false, true, true, true, true, false, false, false, false, false, false] rfl rfl (by kernel_rfl) (fun _ _ _ h => h) (Or.inl ⟨by rfl, ?_⟩) ?_ ?_
          rotate_left
          · intro w'
            go_simp
            with_reducible rfl
          rotate_left
          · simp only [Act.put, List.setIfInBounds_toArray, List.set_cons_zero, List.set_cons_succ, i64_w, i32_w]
            rfl
          refine pure_ (i := 9) (N := some 29) (v := ?_) (a' := ?_) #[true, true, true, false, true, true, true, true, false, true, false, false, false, false] rfl rfl (by kernel_rfl) (fun _ _ _ h => h) (Or.inl ⟨by rfl, ?_⟩) ?_ ?_
          rotate_left
          · intro w'
            go_simp
            with_reducible rfl
          rotate_left
          · simp only [Act.put, List.setIfInBounds_toArray, List.set_cons_zero, List.set_cons_succ, i64_w, i32_w]
            rfl
          refine take_ (i := 3) (N := some 23) (v := ?_) (a' := ?_) #[true, true, true, true, true, true, true, true, false, true, false, false, false, false] rfl rfl (by kernel_rfl) (fun _ _ _ h => h) (Or.inl ⟨by rfl, ?_⟩) hHeld ?_ ?_
          rotate_left
          · rintro w' ⟨s0, s1, s2⟩
            go_simp
            with_reducible rfl
          rotate_left
          · simp only [Act.put, List.setIfInBounds_toArray, List.set_cons_zero, List.set_cons_succ, i64_w, i32_w]
            rfl
          refine take_ (i := 8) (N := some 28) (v := ?_) (a' := ?_) #[true, true, true, true, true, true, true, true, true, true, false, false, false, false] rfl rfl (by kernel_rfl) (fun _ _ _ h => h) (Or.inl ⟨by rfl, ?_⟩) hHeld ?_ ?_
          rotate_left
          · rintro w' ⟨s0, s1, s2⟩
            go_simp
            with_reducible rfl
          rotate_left
          · simp only [Act.put, List.setIfInBounds_toArray, List.set_cons_zero, List.set_cons_succ, i64_w, i32_w]
            rfl
          refine pure_ (i := 10) (N := some 30) (v := ?_) (a' := ?_) #[true, true, true, true, true, true, true, true, true, true, true, false, false, false] rfl rfl (by kernel_rfl) (fun _ _ _ h => h) (Or.inl ⟨by rfl, ?_⟩) ?_ ?_
          rotate_left
          · intro w'
            go_simp
            with_reducible rfl
          rotate_left
          · simp only [Act.put, List.setIfInBounds_toArray, List.set_cons_zero, List.set_cons_succ, i64_w, i32_w]
            rfl
          refine take_ (i := 11) (N := some 31) (v := ?_) (a' := ?_) #[true, true, true, true, true, true, true, true, true, true, true, true, false, false] rfl rfl (by kernel_rfl) (fun _ _ _ h => h) (Or.inl ⟨by rfl, ?_⟩) hHeld ?_ ?_
          rotate_left
          · rintro w' ⟨s0, s1, s2⟩
            go_simp
            with_reducible rfl
          rotate_left
          · simp only [Act.put, List.setIfInBounds_toArray, List.set_cons_zero, List.set_cons_succ, i64_w, i32_w]
            rfl
          refine one_ (i := 12) (N := some 32) #[true, true, true, true, true, true, true, true, true, true, true, true, true, false] rfl rfl (by kernel_rfl) (by decide) (fun K hK => ?_)
          refine goesV_ (.tmp 23) Try.func24 (by kernel_rfl) rfl #[ptr qa, ptr qb] (by rfl) rfl rfl (by rfl) (by simp only [List.map_toArray, List.map_cons, List.map_nil]; rfl) ?_
          with_reducible refine (HMO.out).mono ?_
          rintro e w3 ⟨rfl, rfl⟩
          refine ⟨_, rfl, ?_⟩
          refine hK.out _ _ ⟨q0, q1, kb⟩ (fun hHeld => ?_)
          clear hK K
          refine norm_ (a' := ?_) ?_ ?_
          rotate_left
          · show Act.put _ (some 32) _ = _
            simp only [Act.put, List.setIfInBounds_toArray, List.set_cons_zero, List.set_cons_succ, i64_w, i32_w]
            rfl
          refine pure_ (i := 13) (N := some 19) (v := ?_) (a' := ?_) #[true, true, true, true, true, true, true, true, true, true, true, true, true, true] rfl rfl (by kernel_rfl) (fun _ _ _ h => h) (Or.inl ⟨by rfl, ?_⟩) ?_ ?_
          rotate_left
          · intro w'
            go_simp
            with_reducible rfl
          rotate_left
          · simp only [Act.put, List.setIfInBounds_toArray, List.set_cons_zero, List.set_cons_succ, i64_w, i32_w]
            rfl
          refine done_ (by kernel_rfl) ?_

          go_wp2
          go_roundw
          case rel => exact ⟨n + 1, rfl, by omega, by rw [HMF.out], ⟨k + 1, rfl⟩⟩
          case measure => simp [intOf]; omega
    · have d1 : decide ((n : Int) < (ps.length : Int)) = false := decide_eq_false (by omega)
      have hnn : n = ps.length := by omega
      have HNN := Aside0.mk hnn
      clear hnn
      go_wp2
      simp only [Exit.noGoto]
      go_ret
      exact ⟨by rw [← HNN.out]; rfl, k, rfl⟩
end Go.Proofs.Ytpnoghnhlddjeaa.Wk
