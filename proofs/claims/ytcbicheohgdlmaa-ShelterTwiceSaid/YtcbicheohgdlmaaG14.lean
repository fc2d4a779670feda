/- The texts S30, S31, R1, joined. -/
import Derived.Test.YtcbicheohgdlmaaG13
import Derived.Test.YtcbicheohgdlmaaG7
import Derived.Test.YtcbicheohgdlmaaG6
import Derived.Test.YtcbicheohgdlmaaRows
set_option linter.all false
/- Plans by words; what the reference says, in plain words. -/
namespace Go.Proofs
open Go.Fs
set_option linter.unusedSimpArgs false
set_option linter.unusedVariables false
set_option maxHeartbeats 4000000
set_option maxRecDepth 8000

theorem saves_sav {c : Int} (h : -1 ≤ c) (w : Int) : savesB c w = savP c w := by
  unfold savesB savP
  congr 1
  rw [decide_eq_decide]
  omega
theorem fold_nextW (c : Int) : ∀ (W : List Int) (a : Bool × Bool), W.foldl (nextW c) a = (a.1 || W.any (savesB c), a.2 || W.any (fun w => !savesB c w))
  | [], a => by simp
  | w :: W, a => by
    rw [List.foldl_cons, fold_nextW c W]
    simp [nextW, Bool.or_assoc]
theorem water_ne {s : Sh} (hs : ShOk s) {i : Nat} (hi : i < s.stacks.length) : waterL s i ≠ [] := by
  have hr := hs.r
  have hst := (hs.st _ (at_mem hi)).2
  intro e
  have := waterN_len (at_ s.stacks i).leak s.rain.lo (szR s.rain)
  have h2 : waterN (at_ s.stacks i).leak s.rain.lo (szR s.rain) = [] := e
  rw [h2] at this
  have h3 : 0 < szR s.rain * szR (at_ s.stacks i).leak := Nat.mul_pos (by unfold szR; omega) (by unfold szR; omega)
  simp at this
  unfold szR at this h3
  omega
theorem verdict_eq {s : Sh} (hs : ShOk s) {plan : List Int} {i : Nat} (hi : i < s.stacks.length) (hc : -1 ≤ at_ plan i) : verdictW s plan i = verdictR s plan i := by
  unfold verdictW verdictR
  rw [Int.toNat_natCast]
  have hne := water_ne hs hi
  obtain ⟨W, hW⟩ : ∃ W, waterL s i = W := ⟨_, rfl⟩
  obtain ⟨c, hce⟩ : ∃ c, at_ plan i = c := ⟨_, rfl⟩
  rw [hW] at hne
  rw [hce] at hc
  rw [hW, hce, fold_nextW]
  have hsv : savesB c = savP c := funext fun w => saves_sav hc w
  rw [hsv]
  simp only [Bool.false_or]
  have h1 : (W.any (fun w => !savP c w) = false) ↔ W.countP (savP c) = W.length := by
    rw [List.countP_eq_length, List.any_eq_false]
    simp
  have h2 : (W.any (savP c) = false) ↔ W.countP (savP c) = 0 := by
    rw [List.countP_eq_zero, List.any_eq_false]
  simp only [h1, h2]
theorem sumAt_mono {s : Sh} (hs : ShOk s) {plan : List Int} (hl : plan.length = s.stacks.length) {a b : Int} (h : a ≤ b) : sumAt s plan a ≤ sumAt s plan b := by
  unfold sumAt
  refine wsum_mono (fun i hi hq => ?_) (fun i hi => (hs.ch (by omega)).1)
  unfold savP at hq ⊢
  simp only [Bool.and_eq_true, decide_eq_true_eq] at hq ⊢
  omega
theorem leastR_eq {s : Sh} (hs : ShOk s) {plan : List Int} (hl : plan.length = s.stacks.length) : ∀ j, leastR s plan (j + 1) = sumAt s plan s.rain.lo
  | 0 => by
    have := sumAt_bd hs hl s.rain.lo
    simp only [leastR]
    rw [show s.rain.lo + ((0 : Nat) : Int) = s.rain.lo by simp]
    omega
  | j + 1 => by
    have h1 := leastR_eq hs hl j
    have h2 := sumAt_mono hs hl (show s.rain.lo ≤ s.rain.lo + ((j + 1 : Nat) : Int) by omega)
    rw [show leastR s plan (j + 1 + 1) = min (leastR s plan (j + 1)) (sumAt s plan (s.rain.lo + ((j + 1 : Nat) : Int))) from rfl, h1]
    omega
theorem sure_eq {s : Sh} (hs : ShOk s) {plan : List Int} (hl : plan.length = s.stacks.length) (hp : ∀ x ∈ plan, -1 ≤ x) : leastR s plan (szR s.rain) = sureS s plan := by
  have hr := hs.r
  obtain ⟨k, hk⟩ : ∃ k, szR s.rain = k + 1 := ⟨szR s.rain - 1, by unfold szR; omega⟩
  rw [hk, leastR_eq hs hl]
  unfold sumAt sureS
  refine wsum_congr (fun i hi => ?_) fun _ _ _ => rfl
  rw [← saves_sav (hp _ (at_mem hi))]
  unfold spS
  rw [Int.toNat_natCast]
theorem manyL_neg {plan : List Int} {p : Int} (h : p < 0) : manyL plan p = 0 := by
  unfold manyL
  rw [List.countP_eq_zero]
  intro q _
  simp only [Bool.and_eq_true, decide_eq_true_eq]
  omega
theorem manyL_pos {plan : List Int} {p : Int} (h : 0 ≤ p) : manyL plan p = plan.countP fun q => decide (q = p) := by
  unfold manyL
  refine List.countP_congr fun q _ => ?_
  simp only [Bool.and_eq_true, decide_eq_true_eq]
  omega
/-- Which lists are plans: as the program reckons it, and as the reference does. -/
theorem busy_plan {s : Sh} (hs : ShOk s) (plan : List Int) : (busyQ s plan).2 = planB s plan := by
  have h0 := hs.h0
  unfold busyQ planB
  by_cases c1 : plan.length = s.stacks.length
  · rw [if_neg (by simpa using c1)]
    by_cases c2 : (plan.all fun p => inB p (-1) 17) = true
    · rw [if_pos c2]
      simp only [c1, decide_true, Bool.true_and]
      rw [Bool.eq_iff_iff, List.all_eq_true, List.all_eq_true]
      constructor
      · intro h p hp
        have hb := (inB_iff _ _ _).1 (List.all_eq_true.1 c2 p hp)
        rw [List.all_eq_true.1 c2 p hp, Bool.true_and, decide_eq_true_eq]
        by_cases e : p < 0
        · rw [manyL_neg e]; simpa using h0
        · obtain ⟨k, rfl⟩ := Int.eq_ofNat_of_zero_le (show 0 ≤ p by omega)
          rw [manyL_pos (by omega)]
          have h1 := h _ (at_mem (l := hcnt plan) (i := k) (by rw [hcnt_len]; omega))
          rw [hcnt_at _ (by omega)] at h1
          simpa using h1
      · intro h n hn
        obtain ⟨k, hk, rfl⟩ := mem_at hn
        rw [hcnt_len] at hk
        rw [hcnt_at _ hk, decide_eq_true_eq]
        by_cases e : (k : Int) ∈ plan
        · have h1 := h _ e
          simp only [Bool.and_eq_true, decide_eq_true_eq] at h1
          rw [manyL_pos (by omega)] at h1
          exact h1.2
        · have : plan.countP (fun q => decide (q = (k : Int))) = 0 := by
            rw [List.countP_eq_zero]
            intro q hq
            simp only [decide_eq_true_eq]
            intro e2; exact e (e2 ▸ hq)
          rw [this]; simpa using h0
    · rw [if_neg c2]
      have c2' : (plan.all fun p => inB p (-1) 17) = false := by simpa using c2
      show false = _
      symm
      rw [Bool.and_eq_false_iff]
      right
      rw [List.all_eq_false] at c2' ⊢
      obtain ⟨p, hp, hq⟩ := c2'
      exact ⟨p, hp, fun e => hq (by simp only [Bool.and_eq_true] at e; exact e.1)⟩
  · rw [if_pos (by simpa using c1)]
    simp [c1]
theorem plan_ge {s : Sh} {plan : List Int} (h : planB s plan = true) : plan.length = s.stacks.length ∧ ∀ x ∈ plan, -1 ≤ x ∧ x ≤ 17 := by
  unfold planB at h
  simp only [Bool.and_eq_true, decide_eq_true_eq, List.all_eq_true] at h
  exact ⟨h.1, fun x hx => (inB_iff _ _ _).1 (h.2 x hx).1⟩
theorem planned_eq {s : Sh} (hs : ShOk s) (plan : List Int) : plannedQ s plan = if planB s plan = true then 0 else 2 := by
  unfold plannedQ
  rw [if_neg (by rw [ok_fault hs]; simp), busy_plan hs]
/-- One of some words. -/
def wordL (ws : List (Uk .u16)) (n : Int) : Int := if ws = [] then 0 else (at_ ws (n % (ws.length : Int)).toNat).n
def WsOk (ws : List (Uk .u16)) : Prop := ∀ u ∈ ws, InR .u16 u.n
theorem wordL_bd {ws : List (Uk .u16)} (h : WsOk ws) (n : Int) : 0 ≤ wordL ws n ∧ wordL ws n ≤ 65535 := by
  unfold wordL
  split
  · omega
  · rename_i hne
    have hl : 0 < ws.length := by
      cases ws with
      | nil => exact absurd rfl hne
      | cons _ _ => simp
    have h1 := Int.emod_nonneg n (show (ws.length : Int) ≠ 0 by omega)
    have h2 := Int.emod_lt_of_pos n (show (0 : Int) < ws.length by omega)
    exact h _ (at_mem (by omega))
theorem dec_uk {k : IntKind} (n : Int) : (Enc.dec (AV.int k n) : Option (Uk k)) = some ⟨n⟩ := by simp [Enc.dec]
def P47 : Specs := addSpec 32 (spec1 (fun s : Sh => ShOk s) mostS) (addSpec 36 (spec3 (fun (s : Sh) (plan : List Int) (_ : Int) => (ShOk s ∧ plan.length = s.stacks.length) ∧ ∀ x ∈ plan, -1 ≤ x) leftR) (P46))
theorem P47_app (g : FuncId) : P47 g = (addSpec 32 (spec1 (fun s : Sh => ShOk s) mostS) (addSpec 36 (spec3 (fun (s : Sh) (plan : List Int) (_ : Int) => (ShOk s ∧ plan.length = s.stacks.length) ∧ ∀ x ∈ plan, -1 ≤ x) leftR) (P46))) g := rfl
theorem P47_ok : SpecsOk Try.prog P47 := addSpec_ok (spec1_ok Most_call) (addSpec_ok (spec3_ok rLeft_call) (P46_ok))
attribute [go_sem] P47_app
theorem P47_flag (d : Option Nat) : flagOf P47 d = none := (flagOf_add (by decide) d).trans ((flagOf_add (by decide) d).trans (P46_flag d))
attribute [go_sem] P47_flag
theorem word_call (ws : List (Uk .u16)) (n : Int) (h : WsOk ws ∧ 0 ≤ n) : CallP Try.prog 66 [Enc.enc ws, Enc.enc n] (· = Enc.enc (wordL ws n)) := by
  have hb := wordL_bd h.1 n
  have hn := h.2
  unfold wordL at hb ⊢
  by_cases c : ws = []
  · rw [if_pos c]
    have c' : decide ((ws.length : Int) = 0) = true := by rw [c]; rfl
    simp only [enc_fnl, enc_fnb, enc_fnc, enc_refc, enc_arr, enc_int, enc_bool, enc_list, enc_sk, enc_sp, enc_rg, enc_sh, enc_tr, enc_refs, enc_fns, enc_wks]
    refine callP_of_vc (Φ := P47) Try.func66 rfl (by rfl) (by rw [Try.ntmps66]; simp) mixed P47_ok (by simp [AV.strip, AV.strip1, Tk.strip]) ?_
    rw [Try.ntmps66]
    simp only [Try.f66, startSt, tmFrom]
    simp (maxSteps := 4000000) only [go_sem, AV.one, drawV, intsOf, keyIdx, over, putO, memAt, List.map_cons, List.length_cons, ↓reduceIte, zdrop, one_i, one_b, one_sl, one_ptr, one_ref, one_nilp, one_mp, one_fn, one_nilf, dep_uk, c']
  · have hl : 0 < ws.length := by
      cases ws with
      | nil => exact absurd rfl c
      | cons _ _ => simp
    rw [if_neg c] at hb ⊢
    have c' : decide ((ws.length : Int) = 0) = false := by rw [decide_eq_false_iff_not]; omega
    have h1 := Int.emod_nonneg n (show (ws.length : Int) ≠ 0 by omega)
    have h2 := Int.emod_lt_of_pos n (show (0 : Int) < ws.length by omega)
    obtain ⟨k, ek⟩ := Int.eq_ofNat_of_zero_le h1
    rw [ek] at h2 hb ⊢
    have hg : (ws.map EncE.cs).getD k [] = [AV.int .u16 (at_ ws k).n] := by rw [getD_mapA (by omega)]; rfl
    rw [Int.toNat_natCast] at hb ⊢
    simp only [enc_fnl, enc_fnb, enc_fnc, enc_refc, enc_arr, enc_int, enc_bool, enc_list, enc_sk, enc_sp, enc_rg, enc_sh, enc_tr, enc_refs, enc_fns, enc_wks]
    refine callP_of_vc (Φ := P47) Try.func66 rfl (by rfl) (by rw [Try.ntmps66]; simp) mixed P47_ok (by simp [AV.strip, AV.strip1, Tk.strip]) ?_
    rw [Try.ntmps66]
    simp only [Try.f66, startSt, tmFrom]
    simp (maxSteps := 4000000) only [go_sem, AV.one, drawV, intsOf, keyIdx, over, putO, memAt, List.map_cons, List.length_cons, ↓reduceIte, zdrop, one_i, one_b, one_sl, one_ptr, one_ref, one_nilp, one_mp, one_fn, one_nilf, dep_uk, c', ek, hg]
    all_goals (repeat' (first | with_reducible rfl | with_reducible apply And.intro | ((with_reducible show drawOK _ _ = true); rfl))) <;> (try first | omega | (simp only [InR]; omega) | with_reducible assumption)
def P48 : Specs := addSpec 66 (spec2 (fun (ws : List (Uk .u16)) (n : Int) => WsOk ws ∧ 0 ≤ n) wordL) (P47)
theorem P48_app (g : FuncId) : P48 g = (addSpec 66 (spec2 (fun (ws : List (Uk .u16)) (n : Int) => WsOk ws ∧ 0 ≤ n) wordL) (P47)) g := rfl
theorem P48_ok : SpecsOk Try.prog P48 := addSpec_ok (spec2_ok word_call) (P47_ok)
attribute [go_sem] P48_app
theorem P48_flag (d : Option Nat) : flagOf P48 d = none := (flagOf_add (by decide) d).trans (P47_flag d)
attribute [go_sem] P48_flag
/-- A plan by words. -/
def hourW (s : Sh) (ws : List (Uk .u16)) (i : Nat) : Int := wordL ws i / 8 % (spS s i + 3) - 1
def closeW (s : Sh) (out : List Int) (h : Int) : Int := if 17 < h ∨ s.hands ≤ out.countP (fun q => decide (q = h)) then -1 else h
def planW (s : Sh) (ws : List (Uk .u16)) : Nat → List Int
  | 0 => []
  | i + 1 => planW s ws i ++ [closeW s (planW s ws i) (hourW s ws i)]
theorem planW_len (s : Sh) (ws : List (Uk .u16)) : ∀ n, (planW s ws n).length = n
  | 0 => rfl
  | n + 1 => by unfold planW; rw [List.length_append, planW_len s ws n]; rfl
theorem hourW_bd {s : Sh} (hs : ShOk s) {ws : List (Uk .u16)} (hw : WsOk ws) {i : Nat} (hi : i < s.stacks.length) : (0 ≤ wordL ws i / 8 ∧ wordL ws i / 8 ≤ 65535) ∧ -1 ≤ hourW s ws i ∧ hourW s ws i ≤ 19 := by
  have h1 := wordL_bd hw i
  have h2 := hs.sp hi
  have h3 := Int.emod_nonneg (wordL ws i / 8) (show spS s i + 3 ≠ 0 by omega)
  have h4 := Int.emod_lt_of_pos (wordL ws i / 8) (show 0 < spS s i + 3 by omega)
  unfold hourW
  omega
theorem planW_ok {s : Sh} (hs : ShOk s) {ws : List (Uk .u16)} (hw : WsOk ws) : ∀ n, n ≤ s.stacks.length → (∀ x ∈ planW s ws n, -1 ≤ x ∧ x ≤ 17) ∧ ∀ p : Int, 0 ≤ p → ((planW s ws n).countP fun q => decide (q = p) : Nat) ≤ s.hands
  | 0, _ => ⟨fun x hx => (by cases hx), fun p _ => by simpa [planW] using hs.h0⟩
  | n + 1, hn => by
    obtain ⟨h1, h2⟩ := planW_ok hs hw n (by omega)
    have hb := (hourW_bd hs hw (show n < s.stacks.length by omega)).2
    unfold planW closeW
    obtain ⟨h, hh⟩ : ∃ h, hourW s ws n = h := ⟨_, rfl⟩
    rw [hh] at hb
    rw [hh]
    by_cases c : 17 < h ∨ s.hands ≤ (planW s ws n).countP (fun q => decide (q = h))
    · rw [if_pos c]
      refine ⟨fun x hx => ?_, fun p hp => ?_⟩
      · rcases List.mem_append.1 hx with q | q
        · exact h1 x q
        · simp only [List.mem_singleton] at q
          omega
      · rw [List.countP_append, List.countP_singleton, if_neg (by simp only [decide_eq_true_eq]; omega), Nat.add_zero]
        exact h2 p hp
    · rw [if_neg c]
      refine ⟨fun x hx => ?_, fun p hp => ?_⟩
      · rcases List.mem_append.1 hx with q | q
        · exact h1 x q
        · simp only [List.mem_singleton] at q
          omega
      · rw [List.countP_append, List.countP_singleton]
        have h3 := h2 p hp
        by_cases e : h = p
        · subst e
          rw [if_pos (by simp)]
          omega
        · rw [if_neg (by simpa using e), Nat.add_zero]
          exact h3
theorem planW_plan {s : Sh} (hs : ShOk s) {ws : List (Uk .u16)} (hw : WsOk ws) : planB s (planW s ws s.stacks.length) = true := by
  obtain ⟨h1, h2⟩ := planW_ok hs hw _ (Nat.le_refl _)
  unfold planB
  simp only [Bool.and_eq_true, decide_eq_true_eq, List.all_eq_true, planW_len, true_and]
  intro p hp
  refine ⟨(inB_iff _ _ _).2 (h1 p hp), ?_⟩
  by_cases e : p < 0
  · rw [manyL_neg e]; simpa using hs.h0
  · rw [manyL_pos (by omega)]; exact h2 p (by omega)
theorem Planned_call (s : Sh) (ws : List (Uk .u16)) (h : ShOk s ∧ WsOk ws) : CallP Try.prog 39 [Enc.enc s, Enc.enc ws] (· = Enc.enc (planW s ws s.stacks.length)) := by
  obtain ⟨hs, hw⟩ := h
  have h8 := hs.len
  simp only [enc_fnl, enc_fnb, enc_fnc, enc_refc, enc_arr, enc_int, enc_bool, enc_list, enc_sk, enc_sp, enc_rg, enc_sh, enc_tr, enc_refs, enc_fns, enc_wks]
  refine callP_of_vc (Φ := P48) Try.func39 rfl (by rfl) (by rw [Try.ntmps39]; simp) mixed P48_ok (by simp [AV.strip, AV.strip1, Tk.strip]) ?_
  rw [Try.ntmps39]
  simp only [Try.f39, startSt, tmFrom]
  simp (maxSteps := 4000000) only [go_sem, AV.one, drawV, intsOf, keyIdx, over, putO, memAt, List.map_cons, List.length_cons, ↓reduceIte, zdrop, one_i, one_b, one_sl, one_ptr, one_ref, one_nilp, one_mp, one_fn, one_nilf, dep_uk]
  all_goals (repeat' (first | with_reducible rfl | with_reducible apply And.intro | ((with_reducible show drawOK _ _ = true); rfl))) <;> (try first | omega | (simp only [InR]; omega) | with_reducible assumption)
  refine loopN (s.stacks.length) [.slot 5 1] [1, 2, 4] (fun i => [(6, .int .i64 i), (5, .sl ((planW s ws i).map EncE.cs) (.own 1))]) (fun i m => m.set 1 (.tok i 1)) (fun _ => True) ?_ ?_ ?_ ?_
  · trivial
  · simp [AV.bare, bel_ints, cs_arr, dep_arr, cs_int, cs_bool, cs_list, cs_sk, cs_sp, AtHead, Same, AllO, Begins, LtAll, headSt, tokz_nil, tokz_cons, tokz1, lk, dep_int, dep_bool, dep_list, dep_sk, dep_sp, memAt, bel_map, bel_mapF, bel_mapO, bel_undef, bel_int, bel_boolv, bel_nilp, bel_nilf, bel_ptr, bel_arr, bel_mp, bel_yld, bel_agg, bel_tup, bel_ref, bel_only, bel_mpr, bel_fn, bel_sl_nil, bel_sl_nilF, bel_sl_nilO, bel_sl_cons, bel_sl_app, belO_cells, belO_tok, belO_dead, belO_deferred, belO_map, belO_iter, belO_loop, bel_vec, bel_vp, belO_vecM, belO_vec, planW, dep_uk, -List.map_map]
  · intro i hi _
    have hi' := Int.ofNat_lt.2 hi
    have hpl := planW_len s ws i
    have hsp := hs.sp hi
    obtain ⟨hq, hhb⟩ := hourW_bd hs hw hi
    have hhe : wordL ws i / 8 % (spS s i + 3) - 1 = hourW s ws i := rfl
    have hps : planW s ws (i + 1) = planW s ws i ++ [closeW s (planW s ws i) (hourW s ws i)] := rfl
    obtain ⟨P, hP⟩ : ∃ P, planW s ws i = P := ⟨_, rfl⟩
    rw [hP] at hpl hps
    rw [hP]
    simp (maxSteps := 4000000) only [go_sem, AV.one, drawV, intsOf, keyIdx, over, putO, memAt, List.map_cons, List.length_cons, ↓reduceIte, zdrop, one_i, one_b, one_sl, one_ptr, one_ref, one_nilp, one_mp, one_fn, one_nilf, dep_uk, hi', hhe]
    all_goals (repeat' (first | with_reducible rfl | with_reducible apply And.intro | ((with_reducible show drawOK _ _ = true); rfl))) <;> (try first | omega | (simp only [InR]; omega) | with_reducible assumption)
    refine loopN (P.length) [] [1, 2, 4, 5, 6, 7, 8, 11, 12, 13, 14, 18, 19, 20, 21, 22, 23, 24, 25, 26, 27, 28] (fun k => [(10, .int .i64 k), (9, .int .i64 ((P.take k).countP (fun q => decide (q = hourW s ws i)) : Nat))]) (fun _ m => m) (fun _ => True) ?_ ?_ ?_ ?_
    · trivial
    · simp [AV.bare, bel_ints, cs_arr, dep_arr, cs_int, cs_bool, cs_list, cs_sk, cs_sp, AtHead, Same, AllO, Begins, LtAll, headSt, tokz_nil, tokz_cons, tokz1, lk, dep_int, dep_bool, dep_list, dep_sk, dep_sp, memAt, bel_map, bel_mapF, bel_mapO, bel_undef, bel_int, bel_boolv, bel_nilp, bel_nilf, bel_ptr, bel_arr, bel_mp, bel_yld, bel_agg, bel_tup, bel_ref, bel_only, bel_mpr, bel_fn, bel_sl_nil, bel_sl_nilF, bel_sl_nilO, bel_sl_cons, bel_sl_app, belO_cells, belO_tok, belO_dead, belO_deferred, belO_map, belO_iter, belO_loop, bel_vec, bel_vp, belO_vecM, belO_vec, dep_uk, -List.map_map]
    · intro k hk _
      have hk' := Int.ofNat_lt.2 hk
      have hct := List.countP_le_length (l := P.take k) (p := fun q => decide (q = hourW s ws i))
      rw [List.length_take] at hct
      have hts := take_succ_at hk
      cases c1 : decide (at_ P k = hourW s ws i)
      · have hcs : (P.take (k + 1)).countP (fun q => decide (q = hourW s ws i)) = (P.take k).countP (fun q => decide (q = hourW s ws i)) := by rw [hts, List.countP_append, List.countP_singleton, c1]; simp
        simp (maxSteps := 4000000) only [go_sem, AV.one, drawV, intsOf, keyIdx, over, putO, memAt, List.map_cons, List.length_cons, ↓reduceIte, zdrop, one_i, one_b, one_sl, one_ptr, one_ref, one_nilp, one_mp, one_fn, one_nilf, dep_uk, hk', getD_mapA hk, c1]
        all_goals (repeat' (first | with_reducible rfl | with_reducible apply And.intro | ((with_reducible show drawOK _ _ = true); rfl))) <;> (try first | omega | (simp only [InR]; omega) | with_reducible assumption)
        refine nxt hk trivial ?_
        simp [AV.bare, bel_ints, cs_arr, dep_arr, cs_int, cs_bool, cs_list, cs_sk, cs_sp, AtHead, Same, AllO, Begins, LtAll, headSt, tokz_nil, tokz_cons, tokz1, lk, dep_int, dep_bool, dep_list, dep_sk, dep_sp, memAt, bel_map, bel_mapF, bel_mapO, bel_undef, bel_int, bel_boolv, bel_nilp, bel_nilf, bel_ptr, bel_arr, bel_mp, bel_yld, bel_agg, bel_tup, bel_ref, bel_only, bel_mpr, bel_fn, bel_sl_nil, bel_sl_nilF, bel_sl_nilO, bel_sl_cons, bel_sl_app, belO_cells, belO_tok, belO_dead, belO_deferred, belO_map, belO_iter, belO_loop, bel_vec, bel_vp, belO_vecM, belO_vec, hcs, dep_uk, -List.map_map]
      · have hcs : (P.take (k + 1)).countP (fun q => decide (q = hourW s ws i)) = (P.take k).countP (fun q => decide (q = hourW s ws i)) + 1 := by rw [hts, List.countP_append, List.countP_singleton, c1]; simp
        simp (maxSteps := 4000000) only [go_sem, AV.one, drawV, intsOf, keyIdx, over, putO, memAt, List.map_cons, List.length_cons, ↓reduceIte, zdrop, one_i, one_b, one_sl, one_ptr, one_ref, one_nilp, one_mp, one_fn, one_nilf, dep_uk, hk', getD_mapA hk, c1]
        all_goals (repeat' (first | with_reducible rfl | with_reducible apply And.intro | ((with_reducible show drawOK _ _ = true); rfl))) <;> (try first | omega | (simp only [InR]; omega) | with_reducible assumption)
        refine nxt hk trivial ?_
        simp [AV.bare, bel_ints, cs_arr, dep_arr, cs_int, cs_bool, cs_list, cs_sk, cs_sp, AtHead, Same, AllO, Begins, LtAll, headSt, tokz_nil, tokz_cons, tokz1, lk, dep_int, dep_bool, dep_list, dep_sk, dep_sp, memAt, bel_map, bel_mapF, bel_mapO, bel_undef, bel_int, bel_boolv, bel_nilp, bel_nilf, bel_ptr, bel_arr, bel_mp, bel_yld, bel_agg, bel_tup, bel_ref, bel_only, bel_mpr, bel_fn, bel_sl_nil, bel_sl_nilF, bel_sl_nilO, bel_sl_cons, bel_sl_app, belO_cells, belO_tok, belO_dead, belO_deferred, belO_map, belO_iter, belO_loop, bel_vec, bel_vp, belO_vecM, belO_vec, hcs, dep_uk, -List.map_map]
    · intro _
      rw [List.take_length]
      have hcl : closeW s P (hourW s ws i) = if 17 < hourW s ws i ∨ s.hands ≤ P.countP (fun q => decide (q = hourW s ws i)) then -1 else hourW s ws i := rfl
      cases c1 : decide (hourW s ws i > 17)
      · cases c2 : decide ((P.countP (fun q => decide (q = hourW s ws i)) : Int) ≥ s.hands)
        · have hcv : closeW s P (hourW s ws i) = hourW s ws i := by
            have e1 := of_decide_eq_false c1
            have e2 := of_decide_eq_false c2
            rw [hcl, if_neg (by omega)]
          rw [hcv] at hps
          simp (maxSteps := 4000000) only [go_sem, AV.one, drawV, intsOf, keyIdx, over, putO, memAt, List.map_cons, List.length_cons, ↓reduceIte, zdrop, one_i, one_b, one_sl, one_ptr, one_ref, one_nilp, one_mp, one_fn, one_nilf, dep_uk, Int.lt_irrefl, c1, c2, hpl]
          all_goals (repeat' (first | with_reducible rfl | with_reducible apply And.intro | ((with_reducible show drawOK _ _ = true); rfl))) <;> (try first | omega | (simp only [InR]; omega) | with_reducible assumption)
          refine nxt hi trivial ?_
          simp [AV.bare, bel_ints, cs_arr, dep_arr, cs_int, cs_bool, cs_list, cs_sk, cs_sp, AtHead, Same, AllO, Begins, LtAll, headSt, tokz_nil, tokz_cons, tokz1, lk, dep_int, dep_bool, dep_list, dep_sk, dep_sp, memAt, bel_map, bel_mapF, bel_mapO, bel_undef, bel_int, bel_boolv, bel_nilp, bel_nilf, bel_ptr, bel_arr, bel_mp, bel_yld, bel_agg, bel_tup, bel_ref, bel_only, bel_mpr, bel_fn, bel_sl_nil, bel_sl_nilF, bel_sl_nilO, bel_sl_cons, bel_sl_app, belO_cells, belO_tok, belO_dead, belO_deferred, belO_map, belO_iter, belO_loop, bel_vec, bel_vp, belO_vecM, belO_vec, hps, dep_uk, -List.map_map]
        · have hcv : closeW s P (hourW s ws i) = -1 := by
            have e2 := of_decide_eq_true c2
            rw [hcl, if_pos (by omega)]
          rw [hcv] at hps
          simp (maxSteps := 4000000) only [go_sem, AV.one, drawV, intsOf, keyIdx, over, putO, memAt, List.map_cons, List.length_cons, ↓reduceIte, zdrop, one_i, one_b, one_sl, one_ptr, one_ref, one_nilp, one_mp, one_fn, one_nilf, dep_uk, Int.lt_irrefl, c1, c2, hpl]
          all_goals (repeat' (first | with_reducible rfl | with_reducible apply And.intro | ((with_reducible show drawOK _ _ = true); rfl))) <;> (try first | omega | (simp only [InR]; omega) | with_reducible assumption)
          refine nxt hi trivial ?_
          simp [AV.bare, bel_ints, cs_arr, dep_arr, cs_int, cs_bool, cs_list, cs_sk, cs_sp, AtHead, Same, AllO, Begins, LtAll, headSt, tokz_nil, tokz_cons, tokz1, lk, dep_int, dep_bool, dep_list, dep_sk, dep_sp, memAt, bel_map, bel_mapF, bel_mapO, bel_undef, bel_int, bel_boolv, bel_nilp, bel_nilf, bel_ptr, bel_arr, bel_mp, bel_yld, bel_agg, bel_tup, bel_ref, bel_only, bel_mpr, bel_fn, bel_sl_nil, bel_sl_nilF, bel_sl_nilO, bel_sl_cons, bel_sl_app, belO_cells, belO_tok, belO_dead, belO_deferred, belO_map, belO_iter, belO_loop, bel_vec, bel_vp, belO_vecM, belO_vec, hps, dep_uk, -List.map_map]
      · have hcv : closeW s P (hourW s ws i) = -1 := by
          have e1 := of_decide_eq_true c1
          rw [hcl, if_pos (by omega)]
        rw [hcv] at hps
        simp (maxSteps := 4000000) only [go_sem, AV.one, drawV, intsOf, keyIdx, over, putO, memAt, List.map_cons, List.length_cons, ↓reduceIte, zdrop, one_i, one_b, one_sl, one_ptr, one_ref, one_nilp, one_mp, one_fn, one_nilf, dep_uk, Int.lt_irrefl, c1, hpl]
        all_goals (repeat' (first | with_reducible rfl | with_reducible apply And.intro | ((with_reducible show drawOK _ _ = true); rfl))) <;> (try first | omega | (simp only [InR]; omega) | with_reducible assumption)
        refine nxt hi trivial ?_
        simp [AV.bare, bel_ints, cs_arr, dep_arr, cs_int, cs_bool, cs_list, cs_sk, cs_sp, AtHead, Same, AllO, Begins, LtAll, headSt, tokz_nil, tokz_cons, tokz1, lk, dep_int, dep_bool, dep_list, dep_sk, dep_sp, memAt, bel_map, bel_mapF, bel_mapO, bel_undef, bel_int, bel_boolv, bel_nilp, bel_nilf, bel_ptr, bel_arr, bel_mp, bel_yld, bel_agg, bel_tup, bel_ref, bel_only, bel_mpr, bel_fn, bel_sl_nil, bel_sl_nilF, bel_sl_nilO, bel_sl_cons, bel_sl_app, belO_cells, belO_tok, belO_dead, belO_deferred, belO_map, belO_iter, belO_loop, bel_vec, bel_vp, belO_vecM, belO_vec, hps, dep_uk, -List.map_map]
  · intro _
    simp (maxSteps := 4000000) only [go_sem, AV.one, drawV, intsOf, keyIdx, over, putO, memAt, List.map_cons, List.length_cons, ↓reduceIte, zdrop, one_i, one_b, one_sl, one_ptr, one_ref, one_nilp, one_mp, one_fn, one_nilf, dep_uk, Int.lt_irrefl]
    all_goals (repeat' (first | with_reducible rfl | with_reducible apply And.intro | ((with_reducible show drawOK _ _ = true); rfl))) <;> (try first | omega | (simp only [InR]; omega) | with_reducible assumption)
end Go.Proofs
/- What the laws use. -/
namespace Go.Proofs
open Go.Fs
set_option linter.unusedSimpArgs false
set_option linter.unusedVariables false
set_option maxHeartbeats 4000000
set_option maxRecDepth 8000

def P49 : Specs := addSpec 39 (spec2 (fun (s : Sh) (ws : List (Uk .u16)) => ShOk s ∧ WsOk ws) (fun s ws => planW s ws s.stacks.length)) (P48)
theorem P49_app (g : FuncId) : P49 g = (addSpec 39 (spec2 (fun (s : Sh) (ws : List (Uk .u16)) => ShOk s ∧ WsOk ws) (fun s ws => planW s ws s.stacks.length)) (P48)) g := rfl
theorem P49_ok : SpecsOk Try.prog P49 := addSpec_ok (spec2_ok Planned_call) (P48_ok)
attribute [go_sem] P49_app
theorem P49_flag (d : Option Nat) : flagOf P49 d = none := (flagOf_add (by decide) d).trans (P48_flag d)
attribute [go_sem] P49_flag
theorem thin_len {s : Sh} (h : thinB s = true) : s.stacks.length ≤ 10 := by unfold thinB at h; simpa using h
theorem play_bad {s : Sh} (plan : List Int) (t : Tr) (h : faultS s ≠ 0) : playQ s plan t = ([], faultS s) := by unfold playQ; rw [if_pos h]
theorem saved_bad {s : Sh} (plan : List Int) (h : faultS s ≠ 0) : savedQ s plan = ([], faultS s) := by
  have : plannedQ s plan = faultS s := by unfold plannedQ; rw [if_pos h]
  unfold savedQ
  rw [this, if_pos h]
theorem sure_bad {s : Sh} (plan : List Int) (h : faultS s ≠ 0) : sureQ s plan = (0, faultS s) := by
  have : plannedQ s plan = faultS s := by unfold plannedQ; rw [if_pos h]
  unfold sureQ
  rw [this, if_pos h]
theorem best_bad {s : Sh} (h : faultS s ≠ 0) : bestQ s = ⟨[], 0, faultS s⟩ := by unfold bestQ; rw [if_pos h]
theorem best_good {s : Sh} (hs : ShOk s) : bestQ s = ⟨bestS s, mostS s, 0⟩ := by unfold bestQ; rw [if_neg (by rw [ok_fault hs]; simp)]
theorem play_good {s : Sh} (hs : ShOk s) (plan : List Int) (t : Tr) : playQ s plan t = if (planB s plan && truthB s t) = true then ((List.range plan.length).map fun i => savesB (at_ plan i) (t.rain + at_ t.leaks i), 0) else ([], 2) := by
  unfold playQ; rw [if_neg (by rw [ok_fault hs]; simp), busy_plan hs]
theorem saved_good {s : Sh} (hs : ShOk s) {plan : List Int} (h : planB s plan = true) : savedQ s plan = ((List.range plan.length).map (verdictW s plan), 0) := by
  unfold savedQ; rw [planned_eq hs, if_pos h, if_neg (by simp)]
theorem saved_no {s : Sh} (hs : ShOk s) {plan : List Int} (h : planB s plan = false) : savedQ s plan = ([], 2) := by
  unfold savedQ; rw [planned_eq hs, h]; rfl
theorem sure_good {s : Sh} (hs : ShOk s) {plan : List Int} (h : planB s plan = true) : sureQ s plan = (sureS s plan, 0) := by
  unfold sureQ; rw [planned_eq hs, if_pos h, if_neg (by simp)]
theorem sure_no {s : Sh} (hs : ShOk s) {plan : List Int} (h : planB s plan = false) : sureQ s plan = (0, 2) := by
  unfold sureQ; rw [planned_eq hs, h]; rfl
theorem left_bad {s : Sh} (plan : List Int) (hour : Int) (h : faultS s ≠ 0) : leftQ s plan hour = ⟨zeroSh, 0, faultS s⟩ := by
  have : plannedQ s plan = faultS s := by unfold plannedQ; rw [if_pos h]
  unfold leftQ
  rw [this, if_pos h]
theorem left_no {s : Sh} (hs : ShOk s) {plan : List Int} (hour : Int) (h : planB s plan = false) : leftQ s plan hour = ⟨zeroSh, 0, 2⟩ := by
  unfold leftQ; rw [planned_eq hs, h]; rfl
theorem left_out {s : Sh} (hs : ShOk s) {plan : List Int} {hour : Int} (h : planB s plan = true) (hh : inB hour s.rain.lo s.rain.hi = false) : leftQ s plan hour = ⟨zeroSh, 0, 2⟩ := by
  unfold leftQ; rw [planned_eq hs, if_pos h, hh]; rfl
theorem left_good {s : Sh} (hs : ShOk s) {plan : List Int} {hour : Int} (h : planB s plan = true) (hh : inB hour s.rain.lo s.rain.hi = true) : leftQ s plan hour = ⟨(leftR s plan hour).1, (leftR s plan hour).2, 0⟩ := by
  unfold leftQ; rw [planned_eq hs, if_pos h, hh]; rfl
theorem sure_bd {s : Sh} (hs : ShOk s) {plan : List Int} (hl : plan.length = s.stacks.length) : 0 ≤ sureS s plan ∧ sureS s plan ≤ 8 * 99 := by
  have := wsum_bd (n := plan.length) (f := fun i => chS s i) (m := 99) (fun i => savesB (at_ plan i) (spS s i)) (by omega) (fun i hi => hs.ch (by omega))
  have h8 := hs.len
  unfold sureS
  omega
theorem countP_set_le {q : Int → Bool} {a : Int} : ∀ (l : List Int) (i : Nat), (l.set i a).countP q ≤ l.countP q + if q a = true then 1 else 0
  | [], i => by simp
  | x :: l, 0 => by
    rw [List.set_cons_zero, List.countP_cons, List.countP_cons]
    split <;> split <;> omega
  | x :: l, i + 1 => by
    rw [List.set_cons_succ, List.countP_cons, List.countP_cons]
    have := countP_set_le l i (q := q) (a := a)
    rw [Nat.add_right_comm]
    exact Nat.add_le_add_right this _
theorem planN_count {H : Int} {o : List Int} {n : Nat} {p : Int} (hp : 0 ≤ p) : ∀ m, (((planN H o n m).countP fun q => decide (q = p) : Nat) : Int) ≤ cnt m (fun k => decide ((k : Int) / H = p))
  | 0 => by
    have : (List.replicate n (-1 : Int)).countP (fun q => decide (q = p)) = 0 := by
      rw [List.countP_eq_zero]
      intro q hq
      rw [(List.mem_replicate.1 hq).2]
      simp only [decide_eq_true_eq]
      omega
    show (((List.replicate n (-1 : Int)).countP _ : Nat) : Int) ≤ 0
    rw [this]; simp
  | m + 1 => by
    rw [planN_succ]
    have h1 := planN_count (H := H) (o := o) (n := n) hp m
    have h2 := countP_set_le (q := fun q => decide (q = p)) (a := (m : Int) / H) (planN H o n m) (at_ o m).toNat
    have h3 : cnt (m + 1) (fun k => decide ((k : Int) / H = p)) = cnt m (fun k => decide ((k : Int) / H = p)) + if decide ((m : Int) / H = p) = true then 1 else 0 := rfl
    rw [h3]
    split <;> split at h2 <;> simp_all <;> omega
theorem cnt_div {H p : Int} (hH : 1 ≤ H) (hp : 0 ≤ p) : ∀ m : Nat, cnt m (fun k => decide ((k : Int) / H = p)) ≤ H ∧ cnt m (fun k => decide ((k : Int) / H = p)) ≤ max 0 ((m : Int) - H * p)
  | 0 => by simp [cnt]; omega
  | m + 1 => by
    obtain ⟨h1, h2⟩ := cnt_div hH hp m
    have h3 : cnt (m + 1) (fun k => decide ((k : Int) / H = p)) = cnt m (fun k => decide ((k : Int) / H = p)) + if decide ((m : Int) / H = p) = true then 1 else 0 := rfl
    rw [h3]
    by_cases e : (m : Int) / H = p
    · have h4 := Int.mul_ediv_add_emod (m : Int) H
      have h5 := Int.emod_nonneg (m : Int) (show H ≠ 0 by omega)
      have h6 := Int.emod_lt_of_pos (m : Int) (show 0 < H by omega)
      rw [e] at h4
      rw [if_pos (by simpa using e)]
      omega
    · rw [if_neg (by simpa using e)]
      omega
theorem best_count {s : Sh} (hs : ShOk s) (p : Int) (hp : 0 ≤ p) : (((bestS s).countP fun q => decide (q = p) : Nat) : Int) ≤ s.hands := by
  have h0 := hs.h0
  unfold bestS
  by_cases hk : keptS s = []
  · have : sortS (spS s) (keptS s) = [] := by rw [hk]; rfl
    rw [this]
    have := planN_count (H := s.hands) (o := []) (n := s.stacks.length) hp 0
    have e : cnt 0 (fun k => decide ((k : Int) / s.hands = p)) = 0 := rfl
    simp only [List.length_nil]
    omega
  · have hH := kept_hands hs hk
    have h1 := planN_count (H := s.hands) (o := sortS (spS s) (keptS s)) (n := s.stacks.length) hp (sortS (spS s) (keptS s)).length
    have h2 := (cnt_div hH hp (sortS (spS s) (keptS s)).length).1
    omega
/-- The best plan is one. -/
theorem best_plan {s : Sh} (hs : ShOk s) : planB s (bestS s) = true := by
  have hl := best_len s
  obtain ⟨k1, k2, k3, _⟩ := kept_spec hs
  have hbd : ∀ i, i < s.stacks.length → -1 ≤ at_ (bestS s) i ∧ at_ (bestS s) i ≤ 17 := fun i hi => by
    obtain ⟨h1, h2⟩ := best_at hs hi
    have hsp := hs.sp hi
    cases c : memB (keptS s) i
    · have := h2 c; omega
    · have := h1 c; omega
  have hmem : ∀ x ∈ bestS s, -1 ≤ x ∧ x ≤ 17 := fun x hx => by
    obtain ⟨i, hi, rfl⟩ := mem_at hx
    exact hbd i (by omega)
  unfold planB
  simp only [Bool.and_eq_true, decide_eq_true_eq, List.all_eq_true]
  refine ⟨hl, fun p hp => ⟨(inB_iff _ _ _).2 (hmem p hp), ?_⟩⟩
  by_cases e : p < 0
  · rw [manyL_neg e]; simpa using hs.h0
  · rw [manyL_pos (by omega)]
    exact best_count hs p (by omega)
end Go.Proofs
/- How the arguments of the statements of layer 11 are read. -/
namespace Go.Proofs
open Go.Fs
set_option linter.unusedVariables false
set_option linter.constructorNameAsVariable false
set_option maxRecDepth 100000

instance : EncE Rg where
  cs m := [.int .i64 m.lo, .int .i64 m.hi]
  dcs
    | [.int .i64 a, .int .i64 b] => some ⟨a, b⟩
    | _ => none
  law v x h := by
    split at h
    · cases h; rfl
    · cases h
  inv _ := rfl
  dep := 1
  sz := 2
  len _ := rfl
  ok x := by simp [pureN]
theorem cells_int : Try.prog.cellsOf 3 = 1 := by kernel_rfl
theorem rdE_int' : RdE Try.prog 3 Int (InR .i64) := rdE_int Try.underlying3 cells_int
def RgIn (r : Rg) : Prop := InR .i64 r.lo ∧ InR .i64 r.hi
def SkIn (m : Sk) : Prop := InR .i64 m.chairs ∧ RgIn m.leak
theorem trod_one {H : Type} {enc : TypeId × Value → H} {w : World} {base : Nat} {spare : Nat → Bool} {held : Bool} {n : Nat} {c : Value} {y : DataW H × List MemPlace}
    (h : DataW.trod enc Try.prog w base spare held n 3 [c] = some y) : ∃ a, c = .int .i64 a ∧ InR .i64 a := by
  obtain ⟨a, e, _, hw⟩ := DataW.trod_int Try.underlying3 h
  simp only [List.cons.injEq, and_true] at e
  exact ⟨a, e, inR_of_wf hw⟩
theorem rdE_rg : RdE Try.prog 24 Rg RgIn :=
  ⟨by kernel_rfl, fun enc w base spare held fuel cs x h => by
    obtain ⟨hl, xs, _, _, hf⟩ := rd_field Try.underlying24 h
    have hl : cs.length = 2 := hl.trans (by kernel_rfl)
    match cs, hl with
    | [c0, c1], _ =>
      obtain ⟨n0, y0, _, h0⟩ := hf 0 _ rfl
      obtain ⟨n1, y1, _, h1⟩ := hf 1 _ rfl
      simp only [cells_int, List.getElem_toArray, List.getElem_cons_zero, List.getElem_cons_succ, List.drop_zero, List.drop_succ_cons, List.take_succ_cons, List.take_zero] at h0 h1
      obtain ⟨a, rfl, ha⟩ := trod_one h0
      obtain ⟨b, rfl, hb⟩ := trod_one h1
      refine ⟨⟨a, b⟩, ⟨ha, hb⟩, rfl, fun i hi => ?_⟩
      match i, hi with
      | 0, _ => exact .int _ _
      | 1, _ => exact .int _ _⟩
theorem cells_rg : Try.prog.cellsOf 24 = 2 := by kernel_rfl
theorem rdE_sk : RdE Try.prog 68 Sk SkIn :=
  ⟨by kernel_rfl, fun enc w base spare held fuel cs x h => by
    obtain ⟨hl, xs, _, _, hf⟩ := rd_field Try.underlying68 h
    have hl : cs.length = 3 := hl.trans (by kernel_rfl)
    match cs, hl with
    | [c0, c2, c3], _ =>
      obtain ⟨n0, y0, _, h0⟩ := hf 0 _ rfl
      obtain ⟨n2, y2, _, h2⟩ := hf 1 _ rfl
      simp only [cells_int, cells_rg, List.getElem_toArray, List.getElem_cons_zero, List.getElem_cons_succ, List.drop_zero, List.drop_succ_cons, List.take_succ_cons, List.take_zero] at h0 h2
      obtain ⟨a, rfl, ha⟩ := trod_one h0
      obtain ⟨r, hr, hr2⟩ := rdE_rg.rd _ _ _ _ _ _ _ _ h2
      have e2 := hr2.2 0 (by show 0 < 2; omega)
      have e3 := hr2.2 1 (by show 1 < 2; omega)
      have e2' := Rep.int_inv (k := .i64) (n := r.lo) e2
      have e3' := Rep.int_inv (k := .i64) (n := r.hi) e3
      simp at e2' e3'
      subst e2' e3'
      refine ⟨⟨a, r⟩, ⟨ha, hr⟩, rfl, fun i hi => ?_⟩
      match i, hi with
      | 0, _ => exact .int _ _
      | 1, _ => exact .int _ _
      | 2, _ => exact .int _ _⟩
theorem cells_sl1 : Try.prog.cellsOf 22 = 1 := by kernel_rfl
theorem cells_sl2 : Try.prog.cellsOf 27 = 1 := by kernel_rfl
theorem bytes_1 : Try.prog.bytesOf 68 = 24 := by kernel_rfl
theorem bytes_2 : Try.prog.bytesOf 3 = 8 := by kernel_rfl
/-- What is known of a shelter that comes in. -/
structure ShIn (s : Sh) : Prop where
  st : ∀ k ∈ s.stacks, SkIn k
  hands : InR .i64 s.hands
  rain : RgIn s.rain
  len : s.stacks.length * 24 ≤ reachBytes
structure TrIn (s : Tr) : Prop where
  rain : InR .i64 s.rain
  leaks : ∀ k ∈ s.leaks, InR .i64 k
  len : s.leaks.length * 8 ≤ reachBytes
theorem rdV_sh : RdV Try.prog 26 Sh ShIn := fun enc w base v d ps hv ⟨fuel, h⟩ hw => by
  obtain ⟨cs, rfl, hsz, hrow⟩ := okWide_row Try.underlying26 hv
  have hsz : cs.size = 4 := hsz.trans (by kernel_rfl)
  obtain ⟨hl, xs, hx, _, hf⟩ := rd_field Try.underlying26 h
  obtain ⟨l⟩ := cs
  match l, hsz with
  | [c0, c1, c2, c3], _ =>
    obtain ⟨n0, y0, q0, h0⟩ := hf 0 _ rfl
    obtain ⟨n1, y1, _, h1⟩ := hf 1 _ rfl
    obtain ⟨n2, y2, _, h2⟩ := hf 2 _ rfl
    simp only [Value.cells, cells_int, cells_sl1, cells_rg, List.getElem_toArray, List.getElem_cons_zero, List.getElem_cons_succ, List.drop_zero, List.drop_succ_cons, List.take_succ_cons, List.take_zero] at h0 h1 h2
    have hwt : (y0.1.weights Try.prog 22).all (· ≤ reachBytes) = true := by
      rw [List.all_eq_true] at hw ⊢
      intro n hn
      apply hw
      simp only at hx
      rw [hx]
      simp only [DataW.weights, Try.underlying26]
      exact DataW.weights_mem_each (ts := [22, 3, 24]) (j := 0) rfl (by rw [List.getElem?_map, q0]; rfl) n hn
    obtain ⟨b, rfl, hb⟩ := trod_one h1
    obtain ⟨lh, g1, g2, g3⟩ := rd_slice rdE_sk Try.underlying22 h0 (fun a l c e => rowOk_spot hrow (i := 0) (by rw [e]; rfl))
    have r1 := g3 reachBytes hwt
    rw [bytes_1] at r1
    obtain ⟨r, hr, hr2⟩ := rdE_rg.rd _ _ _ _ _ _ _ _ h2
    have e2 := hr2.2 0 (by show 0 < 2; omega)
    have e3 := hr2.2 1 (by show 1 < 2; omega)
    have e2' := Rep.int_inv (k := .i64) (n := r.lo) e2
    have e3' := Rep.int_inv (k := .i64) (n := r.hi) e3
    simp at e2' e3'
    subst e2' e3'
    refine ⟨⟨lh, b, r⟩, ⟨g1, hb, hr, r1⟩, .agg _ _ rfl fun i hi => ?_⟩
    match i, hi with
    | 0, _ => exact g2
    | 1, _ => exact .int _ _
    | 2, _ => exact .int _ _
    | 3, _ => exact .int _ _
theorem rdV_tr : RdV Try.prog 29 Tr TrIn := fun enc w base v d ps hv ⟨fuel, h⟩ hw => by
  obtain ⟨cs, rfl, hsz, hrow⟩ := okWide_row Try.underlying29 hv
  have hsz : cs.size = 2 := hsz.trans (by kernel_rfl)
  obtain ⟨hl, xs, hx, _, hf⟩ := rd_field Try.underlying29 h
  obtain ⟨l⟩ := cs
  match l, hsz with
  | [c0, c1], _ =>
    obtain ⟨n0, y0, _, h0⟩ := hf 0 _ rfl
    obtain ⟨n1, y1, q1, h1⟩ := hf 1 _ rfl
    simp only [Value.cells, cells_int, cells_sl2, List.getElem_toArray, List.getElem_cons_zero, List.getElem_cons_succ, List.drop_zero, List.drop_succ_cons, List.take_succ_cons, List.take_zero] at h0 h1
    have hwt : (y1.1.weights Try.prog 27).all (· ≤ reachBytes) = true := by
      rw [List.all_eq_true] at hw ⊢
      intro n hn
      apply hw
      simp only at hx
      rw [hx]
      simp only [DataW.weights, Try.underlying29]
      exact DataW.weights_mem_each (ts := [3, 27]) (j := 1) rfl (by rw [List.getElem?_map, q1]; rfl) n hn
    obtain ⟨b, rfl, hb⟩ := trod_one h0
    obtain ⟨lh, g1, g2, g3⟩ := rd_slice rdE_int' Try.underlying27 h1 (fun a l c e => rowOk_spot hrow (i := 1) (by rw [e]; rfl))
    have r1 := g3 reachBytes hwt
    rw [bytes_2] at r1
    refine ⟨⟨b, lh⟩, ⟨hb, g1, r1⟩, .agg _ _ rfl fun i hi => ?_⟩
    match i, hi with
    | 0, _ => exact .int _ _
    | 1, _ => exact g2
theorem rdV_sk : RdV Try.prog 68 Sk SkIn := fun enc w base v d ps hv ⟨fuel, h⟩ hw => by
  obtain ⟨cs, rfl, hsz, hrow⟩ := okWide_row Try.underlying68 hv
  have hsz : cs.size = 3 := hsz.trans (by kernel_rfl)
  obtain ⟨y, h1, h2, h3⟩ := rdE_sk.rd _ _ _ _ _ _ _ _ h
  refine ⟨y, h1, .agg _ _ hsz fun i hi => ?_⟩
  have := h3 i hi
  simpa [Value.cells, cs_sk] using this
theorem own : ownKnob Try.prog.godebug = none := by kernel_rfl
theorem laidOut : laidOutB Try.prog = true := by kernel_rfl
end Go.Proofs
