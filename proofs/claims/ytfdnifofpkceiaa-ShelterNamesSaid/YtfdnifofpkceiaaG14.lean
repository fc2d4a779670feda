/- The texts S30, S31, M4, M5, M6, M7, R1, S32, joined. -/
import Derived.Test.YtfdnifofpkceiaaG13
import Derived.Test.YtfdnifofpkceiaaG7
import Derived.Test.YtfdnifofpkceiaaG6
import Derived.Test.YtfdnifofpkceiaaRows
set_option linter.all false
namespace Go.Proofs
open Go.Fs
set_option linter.unusedSimpArgs false
set_option linter.unusedVariables false
set_option maxHeartbeats 4000000
set_option maxRecDepth 8000
theorem saves_sav {c : Int} (h : -1 ≤ c) (w : Int) : savesB c w = savP c w := by
  unfold savesB savP
  congr 1
  rw [decide_eq_decide]
  omega
theorem fold_nextW (c : Int) : ∀ (W : List Int) (a : Bool × Bool), W.foldl (nextW c) a = (a.1 || W.any (savesB c), a.2 || W.any (fun w => !savesB c w))
  | [], a => by simp
  | w :: W, a => by
    rw [List.foldl_cons, fold_nextW c W]
    simp [nextW, Bool.or_assoc]
theorem water_ne {s : Sh} (hs : ShOk s) {i : Nat} (hi : i < s.stacks.length) : waterL s i ≠ [] := by
  have hr := hs.r
  have hst := (hs.st _ (at_mem hi)).2
  intro e
  have := waterN_len (at_ s.stacks i).leak s.rain.lo (szR s.rain)
  have h2 : waterN (at_ s.stacks i).leak s.rain.lo (szR s.rain) = [] := e
  rw [h2] at this
  have h3 : 0 < szR s.rain * szR (at_ s.stacks i).leak := Nat.mul_pos (by unfold szR; omega) (by unfold szR; omega)
  simp at this
  unfold szR at this h3
  omega
theorem verdict_eq {s : Sh} (hs : ShOk s) {plan : List Int} {i : Nat} (hi : i < s.stacks.length) (hc : -1 ≤ at_ plan i) : verdictW s plan i = verdictR s plan i := by
  unfold verdictW verdictR
  rw [Int.toNat_natCast]
  have hne := water_ne hs hi
  obtain ⟨W, hW⟩ : ∃ W, waterL s i = W := ⟨_, rfl⟩
  obtain ⟨c, hce⟩ : ∃ c, at_ plan i = c := ⟨_, rfl⟩
  rw [hW] at hne
  rw [hce] at hc
  rw [hW, hce, fold_nextW]
  have hsv : savesB c = savP c := funext fun w => saves_sav hc w
  rw [hsv]
  simp only [Bool.false_or]
  have h1 : (W.any (fun w => !savP c w) = false) ↔ W.countP (savP c) = W.length := by
    rw [List.countP_eq_length, List.any_eq_false]
    simp
  have h2 : (W.any (savP c) = false) ↔ W.countP (savP c) = 0 := by
    rw [List.countP_eq_zero, List.any_eq_false]
  simp only [h1, h2]
theorem sumAt_mono {s : Sh} (hs : ShOk s) {plan : List Int} (hl : plan.length = s.stacks.length) {a b : Int} (h : a ≤ b) : sumAt s plan a ≤ sumAt s plan b := by
  unfold sumAt
  refine wsum_mono (fun i hi hq => ?_) (fun i hi => (hs.ch (by omega)).1)
  unfold savP at hq ⊢
  simp only [Bool.and_eq_true, decide_eq_true_eq] at hq ⊢
  omega
theorem leastR_eq {s : Sh} (hs : ShOk s) {plan : List Int} (hl : plan.length = s.stacks.length) : ∀ j, leastR s plan (j + 1) = sumAt s plan s.rain.lo
  | 0 => by
    have := sumAt_bd hs hl s.rain.lo
    simp only [leastR]
    rw [show s.rain.lo + ((0 : Nat) : Int) = s.rain.lo by simp]
    omega
  | j + 1 => by
    have h1 := leastR_eq hs hl j
    have h2 := sumAt_mono hs hl (show s.rain.lo ≤ s.rain.lo + ((j + 1 : Nat) : Int) by omega)
    rw [show leastR s plan (j + 1 + 1) = min (leastR s plan (j + 1)) (sumAt s plan (s.rain.lo + ((j + 1 : Nat) : Int))) from rfl, h1]
    omega
theorem sure_eq {s : Sh} (hs : ShOk s) {plan : List Int} (hl : plan.length = s.stacks.length) (hp : ∀ x ∈ plan, -1 ≤ x) : leastR s plan (szR s.rain) = sureS s plan := by
  have hr := hs.r
  obtain ⟨k, hk⟩ : ∃ k, szR s.rain = k + 1 := ⟨szR s.rain - 1, by unfold szR; omega⟩
  rw [hk, leastR_eq hs hl]
  unfold sumAt sureS
  refine wsum_congr (fun i hi => ?_) fun _ _ _ => rfl
  rw [← saves_sav (hp _ (at_mem hi))]
  unfold spS
  rw [Int.toNat_natCast]
theorem manyL_neg {plan : List Int} {p : Int} (h : p < 0) : manyL plan p = 0 := by
  unfold manyL
  rw [List.countP_eq_zero]
  intro q _
  simp only [Bool.and_eq_true, decide_eq_true_eq]
  omega
theorem manyL_pos {plan : List Int} {p : Int} (h : 0 ≤ p) : manyL plan p = plan.countP fun q => decide (q = p) := by
  unfold manyL
  refine List.countP_congr fun q _ => ?_
  simp only [Bool.and_eq_true, decide_eq_true_eq]
  omega
theorem busy_plan {s : Sh} (hs : ShOk s) (plan : List Int) : (busyQ s plan).2 = planB s plan := by
  have h0 := hs.h0
  unfold busyQ planB
  by_cases c1 : plan.length = s.stacks.length
  · rw [if_neg (by simpa using c1)]
    by_cases c2 : (plan.all fun p => inB p (-1) 17) = true
    · rw [if_pos c2]
      simp only [c1, decide_true, Bool.true_and]
      rw [Bool.eq_iff_iff, List.all_eq_true, List.all_eq_true]
      constructor
      · intro h p hp
        have hb := (inB_iff _ _ _).1 (List.all_eq_true.1 c2 p hp)
        rw [List.all_eq_true.1 c2 p hp, Bool.true_and, decide_eq_true_eq]
        by_cases e : p < 0
        · rw [manyL_neg e]; simpa using h0
        · obtain ⟨k, rfl⟩ := Int.eq_ofNat_of_zero_le (show 0 ≤ p by omega)
          rw [manyL_pos (by omega)]
          have h1 := h _ (at_mem (l := hcnt plan) (i := k) (by rw [hcnt_len]; omega))
          rw [hcnt_at _ (by omega)] at h1
          simpa using h1
      · intro h n hn
        obtain ⟨k, hk, rfl⟩ := mem_at hn
        rw [hcnt_len] at hk
        rw [hcnt_at _ hk, decide_eq_true_eq]
        by_cases e : (k : Int) ∈ plan
        · have h1 := h _ e
          simp only [Bool.and_eq_true, decide_eq_true_eq] at h1
          rw [manyL_pos (by omega)] at h1
          exact h1.2
        · have : plan.countP (fun q => decide (q = (k : Int))) = 0 := by
            rw [List.countP_eq_zero]
            intro q hq
            simp only [decide_eq_true_eq]
            intro e2; exact e (e2 ▸ hq)
          rw [this]; simpa using h0
    · rw [if_neg c2]
      have c2' : (plan.all fun p => inB p (-1) 17) = false := by simpa using c2
      show false = _
      symm
      rw [Bool.and_eq_false_iff]
      right
      rw [List.all_eq_false] at c2' ⊢
      obtain ⟨p, hp, hq⟩ := c2'
      exact ⟨p, hp, fun e => hq (by simp only [Bool.and_eq_true] at e; exact e.1)⟩
  · rw [if_pos (by simpa using c1)]
    simp [c1]
theorem plan_ge {s : Sh} {plan : List Int} (h : planB s plan = true) : plan.length = s.stacks.length ∧ ∀ x ∈ plan, -1 ≤ x ∧ x ≤ 17 := by
  unfold planB at h
  simp only [Bool.and_eq_true, decide_eq_true_eq, List.all_eq_true] at h
  exact ⟨h.1, fun x hx => (inB_iff _ _ _).1 (h.2 x hx).1⟩
theorem planned_eq {s : Sh} (hs : ShOk s) (plan : List Int) : plannedQ s plan = if planB s plan = true then 0 else 2 := by
  unfold plannedQ
  rw [if_neg (by rw [ok_fault hs]; simp), busy_plan hs]
def wordL (ws : List (Uk .u16)) (n : Int) : Int := if ws = [] then 0 else (at_ ws (n % (ws.length : Int)).toNat).n
def WsOk (ws : List (Uk .u16)) : Prop := ∀ u ∈ ws, InR .u16 u.n
theorem wordL_bd {ws : List (Uk .u16)} (h : WsOk ws) (n : Int) : 0 ≤ wordL ws n ∧ wordL ws n ≤ 65535 := by
  unfold wordL
  split
  · omega
  · rename_i hne
    have hl : 0 < ws.length := by
      cases ws with
      | nil => exact absurd rfl hne
      | cons _ _ => simp
    have h1 := Int.emod_nonneg n (show (ws.length : Int) ≠ 0 by omega)
    have h2 := Int.emod_lt_of_pos n (show (0 : Int) < ws.length by omega)
    exact h _ (at_mem (by omega))
theorem dec_uk {k : IntKind} (n : Int) : (Enc.dec (AV.int k n) : Option (Uk k)) = some ⟨n⟩ := by simp [Enc.dec]
def P47 : Specs := P46
theorem P47_app (g : FuncId) : P47 g = (P46) g := rfl
theorem P47_ok : SpecsOk Try.prog P47 := P46_ok
attribute [go_sem] P47_app
theorem P47_flag (d : Option Nat) : flagOf P47 d = none := P46_flag d
attribute [go_sem] P47_flag
theorem word_call (ws : List (Uk .u16)) (n : Int) (h : WsOk ws ∧ 0 ≤ n) : CallP Try.prog 28 [Enc.enc ws, Enc.enc n] (· = Enc.enc (wordL ws n)) := by
  have hb := wordL_bd h.1 n
  have hn := h.2
  unfold wordL at hb ⊢
  by_cases c : ws = []
  · rw [if_pos c]
    have c' : decide ((ws.length : Int) = 0) = true := by rw [c]; rfl
    simp only [enc_fnl, enc_fnb, enc_fnc, enc_refc, enc_arr, enc_int, enc_bool, enc_list, enc_sk, enc_sp, enc_rg, enc_sh, enc_tr, enc_refs, enc_fns, enc_wks]
    refine callP_of_vc (Φ := P47) Try.func28 rfl (by rfl) (by rw [Try.ntmps28]; simp) mixed P47_ok (by simp [AV.strip, AV.strip1, Tk.strip]) ?_
    rw [Try.ntmps28]
    simp only [Try.f28, startSt, tmFrom]
    simp (maxSteps := 4000000) only [go_sem, AV.one, drawV, intsOf, keyIdx, over, putO, memAt, List.map_cons, List.length_cons, ↓reduceIte, zdrop, one_i, one_b, one_sl, one_ptr, one_ref, one_nilp, one_mp, one_fn, one_nilf, dep_uk, c']
  · have hl : 0 < ws.length := by
      cases ws with
      | nil => exact absurd rfl c
      | cons _ _ => simp
    rw [if_neg c] at hb ⊢
    have c' : decide ((ws.length : Int) = 0) = false := by rw [decide_eq_false_iff_not]; omega
    have h1 := Int.emod_nonneg n (show (ws.length : Int) ≠ 0 by omega)
    have h2 := Int.emod_lt_of_pos n (show (0 : Int) < ws.length by omega)
    obtain ⟨k, ek⟩ := Int.eq_ofNat_of_zero_le h1
    rw [ek] at h2 hb ⊢
    have hg : (ws.map EncE.cs).getD k [] = [AV.int .u16 (at_ ws k).n] := by rw [getD_mapA (by omega)]; rfl
    rw [Int.toNat_natCast] at hb ⊢
    simp only [enc_fnl, enc_fnb, enc_fnc, enc_refc, enc_arr, enc_int, enc_bool, enc_list, enc_sk, enc_sp, enc_rg, enc_sh, enc_tr, enc_refs, enc_fns, enc_wks]
    refine callP_of_vc (Φ := P47) Try.func28 rfl (by rfl) (by rw [Try.ntmps28]; simp) mixed P47_ok (by simp [AV.strip, AV.strip1, Tk.strip]) ?_
    rw [Try.ntmps28]
    simp only [Try.f28, startSt, tmFrom]
    simp (maxSteps := 4000000) only [go_sem, AV.one, drawV, intsOf, keyIdx, over, putO, memAt, List.map_cons, List.length_cons, ↓reduceIte, zdrop, one_i, one_b, one_sl, one_ptr, one_ref, one_nilp, one_mp, one_fn, one_nilf, dep_uk, c', ek, hg]
    all_goals (repeat' (first | with_reducible rfl | with_reducible apply And.intro | ((with_reducible show drawOK _ _ = true); rfl))) <;> (try first | omega | (simp only [InR]; omega) | with_reducible assumption)
def P48 : Specs := addSpec 28 (spec2 (fun (ws : List (Uk .u16)) (n : Int) => WsOk ws ∧ 0 ≤ n) wordL) (P47)
theorem P48_app (g : FuncId) : P48 g = (addSpec 28 (spec2 (fun (ws : List (Uk .u16)) (n : Int) => WsOk ws ∧ 0 ≤ n) wordL) (P47)) g := rfl
theorem P48_ok : SpecsOk Try.prog P48 := addSpec_ok (spec2_ok word_call) (P47_ok)
attribute [go_sem] P48_app
theorem P48_flag (d : Option Nat) : flagOf P48 d = none := (flagOf_add (by decide) d).trans (P47_flag d)
attribute [go_sem] P48_flag
def hourW (s : Sh) (ws : List (Uk .u16)) (i : Nat) : Int := wordL ws i / 8 % (spS s i + 3) - 1
def closeW (s : Sh) (out : List Int) (h : Int) : Int := if 17 < h ∨ s.hands ≤ out.countP (fun q => decide (q = h)) then -1 else h
def planW (s : Sh) (ws : List (Uk .u16)) : Nat → List Int
  | 0 => []
  | i + 1 => planW s ws i ++ [closeW s (planW s ws i) (hourW s ws i)]
theorem planW_len (s : Sh) (ws : List (Uk .u16)) : ∀ n, (planW s ws n).length = n
  | 0 => rfl
  | n + 1 => by unfold planW; rw [List.length_append, planW_len s ws n]; rfl
theorem hourW_bd {s : Sh} (hs : ShOk s) {ws : List (Uk .u16)} (hw : WsOk ws) {i : Nat} (hi : i < s.stacks.length) : (0 ≤ wordL ws i / 8 ∧ wordL ws i / 8 ≤ 65535) ∧ -1 ≤ hourW s ws i ∧ hourW s ws i ≤ 19 := by
  have h1 := wordL_bd hw i
  have h2 := hs.sp hi
  have h3 := Int.emod_nonneg (wordL ws i / 8) (show spS s i + 3 ≠ 0 by omega)
  have h4 := Int.emod_lt_of_pos (wordL ws i / 8) (show 0 < spS s i + 3 by omega)
  unfold hourW
  omega
theorem planW_ok {s : Sh} (hs : ShOk s) {ws : List (Uk .u16)} (hw : WsOk ws) : ∀ n, n ≤ s.stacks.length → (∀ x ∈ planW s ws n, -1 ≤ x ∧ x ≤ 17) ∧ ∀ p : Int, 0 ≤ p → ((planW s ws n).countP fun q => decide (q = p) : Nat) ≤ s.hands
  | 0, _ => ⟨fun x hx => (by cases hx), fun p _ => by simpa [planW] using hs.h0⟩
  | n + 1, hn => by
    obtain ⟨h1, h2⟩ := planW_ok hs hw n (by omega)
    have hb := (hourW_bd hs hw (show n < s.stacks.length by omega)).2
    unfold planW closeW
    obtain ⟨h, hh⟩ : ∃ h, hourW s ws n = h := ⟨_, rfl⟩
    rw [hh] at hb
    rw [hh]
    by_cases c : 17 < h ∨ s.hands ≤ (planW s ws n).countP (fun q => decide (q = h))
    · rw [if_pos c]
      refine ⟨fun x hx => ?_, fun p hp => ?_⟩
      · rcases List.mem_append.1 hx with q | q
        · exact h1 x q
        · simp only [List.mem_singleton] at q
          omega
      · rw [List.countP_append, List.countP_singleton, if_neg (by simp only [decide_eq_true_eq]; omega), Nat.add_zero]
        exact h2 p hp
    · rw [if_neg c]
      refine ⟨fun x hx => ?_, fun p hp => ?_⟩
      · rcases List.mem_append.1 hx with q | q
        · exact h1 x q
        · simp only [List.mem_singleton] at q
          omega
      · rw [List.countP_append, List.countP_singleton]
        have h3 := h2 p hp
        by_cases e : h = p
        · subst e
          rw [if_pos (by simp)]
          omega
        · rw [if_neg (by simpa using e), Nat.add_zero]
          exact h3
theorem planW_plan {s : Sh} (hs : ShOk s) {ws : List (Uk .u16)} (hw : WsOk ws) : planB s (planW s ws s.stacks.length) = true := by
  obtain ⟨h1, h2⟩ := planW_ok hs hw _ (Nat.le_refl _)
  unfold planB
  simp only [Bool.and_eq_true, decide_eq_true_eq, List.all_eq_true, planW_len, true_and]
  intro p hp
  refine ⟨(inB_iff _ _ _).2 (h1 p hp), ?_⟩
  by_cases e : p < 0
  · rw [manyL_neg e]; simpa using hs.h0
  · rw [manyL_pos (by omega)]; exact h2 p (by omega)
theorem Planned_call (s : Sh) (ws : List (Uk .u16)) (h : ShOk s ∧ WsOk ws) : CallP Try.prog 8 [Enc.enc s, Enc.enc ws] (· = Enc.enc (planW s ws s.stacks.length)) := by
  obtain ⟨hs, hw⟩ := h
  have h8 := hs.len
  simp only [enc_fnl, enc_fnb, enc_fnc, enc_refc, enc_arr, enc_int, enc_bool, enc_list, enc_sk, enc_sp, enc_rg, enc_sh, enc_tr, enc_refs, enc_fns, enc_wks]
  refine callP_of_vc (Φ := P48) Try.func8 rfl (by rfl) (by rw [Try.ntmps8]; simp) mixed P48_ok (by simp [AV.strip, AV.strip1, Tk.strip]) ?_
  rw [Try.ntmps8]
  simp only [Try.f8, startSt, tmFrom]
  simp (maxSteps := 4000000) only [go_sem, AV.one, drawV, intsOf, keyIdx, over, putO, memAt, List.map_cons, List.length_cons, ↓reduceIte, zdrop, one_i, one_b, one_sl, one_ptr, one_ref, one_nilp, one_mp, one_fn, one_nilf, dep_uk]
  all_goals (repeat' (first | with_reducible rfl | with_reducible apply And.intro | ((with_reducible show drawOK _ _ = true); rfl))) <;> (try first | omega | (simp only [InR]; omega) | with_reducible assumption)
  refine loopN (s.stacks.length) [.slot 5 1] [1, 2, 4] (fun i => [(6, .int .i64 i), (5, .sl ((planW s ws i).map EncE.cs) (.own 1))]) (fun i m => m.set 1 (.tok i 1)) (fun _ => True) ?_ ?_ ?_ ?_
  · trivial
  · simp [AV.bare, bel_ints, cs_arr, dep_arr, cs_int, cs_bool, cs_list, cs_sk, cs_sp, AtHead, Same, AllO, Begins, LtAll, headSt, tokz_nil, tokz_cons, tokz1, lk, dep_int, dep_bool, dep_list, dep_sk, dep_sp, memAt, bel_map, bel_mapF, bel_mapO, bel_undef, bel_int, bel_boolv, bel_nilp, bel_nilf, bel_ptr, bel_arr, bel_mp, bel_yld, bel_agg, bel_tup, bel_ref, bel_only, bel_mpr, bel_fn, bel_sl_nil, bel_sl_nilF, bel_sl_nilO, bel_sl_cons, bel_sl_app, belO_cells, belO_tok, belO_dead, belO_deferred, belO_map, belO_iter, belO_loop, bel_vec, bel_vp, belO_vecM, belO_vec, planW, dep_uk, -List.map_map]
  · intro i hi _
    have hi' := Int.ofNat_lt.2 hi
    have hpl := planW_len s ws i
    have hsp := hs.sp hi
    obtain ⟨hq, hhb⟩ := hourW_bd hs hw hi
    have hhe : wordL ws i / 8 % (spS s i + 3) - 1 = hourW s ws i := rfl
    have hps : planW s ws (i + 1) = planW s ws i ++ [closeW s (planW s ws i) (hourW s ws i)] := rfl
    obtain ⟨P, hP⟩ : ∃ P, planW s ws i = P := ⟨_, rfl⟩
    rw [hP] at hpl hps
    rw [hP]
    simp (maxSteps := 4000000) only [go_sem, AV.one, drawV, intsOf, keyIdx, over, putO, memAt, List.map_cons, List.length_cons, ↓reduceIte, zdrop, one_i, one_b, one_sl, one_ptr, one_ref, one_nilp, one_mp, one_fn, one_nilf, dep_uk, hi', hhe]
    all_goals (repeat' (first | with_reducible rfl | with_reducible apply And.intro | ((with_reducible show drawOK _ _ = true); rfl))) <;> (try first | omega | (simp only [InR]; omega) | with_reducible assumption)
    refine loopN (P.length) [] [1, 2, 4, 5, 6, 7, 8, 11, 12, 13, 14, 18, 19, 20, 21, 22, 23, 24, 25, 26, 27, 28] (fun k => [(10, .int .i64 k), (9, .int .i64 ((P.take k).countP (fun q => decide (q = hourW s ws i)) : Nat))]) (fun _ m => m) (fun _ => True) ?_ ?_ ?_ ?_
    · trivial
    · simp [AV.bare, bel_ints, cs_arr, dep_arr, cs_int, cs_bool, cs_list, cs_sk, cs_sp, AtHead, Same, AllO, Begins, LtAll, headSt, tokz_nil, tokz_cons, tokz1, lk, dep_int, dep_bool, dep_list, dep_sk, dep_sp, memAt, bel_map, bel_mapF, bel_mapO, bel_undef, bel_int, bel_boolv, bel_nilp, bel_nilf, bel_ptr, bel_arr, bel_mp, bel_yld, bel_agg, bel_tup, bel_ref, bel_only, bel_mpr, bel_fn, bel_sl_nil, bel_sl_nilF, bel_sl_nilO, bel_sl_cons, bel_sl_app, belO_cells, belO_tok, belO_dead, belO_deferred, belO_map, belO_iter, belO_loop, bel_vec, bel_vp, belO_vecM, belO_vec, dep_uk, -List.map_map]
    · intro k hk _
      have hk' := Int.ofNat_lt.2 hk
      have hct := List.countP_le_length (l := P.take k) (p := fun q => decide (q = hourW s ws i))
      rw [List.length_take] at hct
      have hts := take_succ_at hk
      cases c1 : decide (at_ P k = hourW s ws i)
      · have hcs : (P.take (k + 1)).countP (fun q => decide (q = hourW s ws i)) = (P.take k).countP (fun q => decide (q = hourW s ws i)) := by rw [hts, List.countP_append, List.countP_singleton, c1]; simp
        simp (maxSteps := 4000000) only [go_sem, AV.one, drawV, intsOf, keyIdx, over, putO, memAt, List.map_cons, List.length_cons, ↓reduceIte, zdrop, one_i, one_b, one_sl, one_ptr, one_ref, one_nilp, one_mp, one_fn, one_nilf, dep_uk, hk', getD_mapA hk, c1]
        all_goals (repeat' (first | with_reducible rfl | with_reducible apply And.intro | ((with_reducible show drawOK _ _ = true); rfl))) <;> (try first | omega | (simp only [InR]; omega) | with_reducible assumption)
        refine nxt hk trivial ?_
        simp [AV.bare, bel_ints, cs_arr, dep_arr, cs_int, cs_bool, cs_list, cs_sk, cs_sp, AtHead, Same, AllO, Begins, LtAll, headSt, tokz_nil, tokz_cons, tokz1, lk, dep_int, dep_bool, dep_list, dep_sk, dep_sp, memAt, bel_map, bel_mapF, bel_mapO, bel_undef, bel_int, bel_boolv, bel_nilp, bel_nilf, bel_ptr, bel_arr, bel_mp, bel_yld, bel_agg, bel_tup, bel_ref, bel_only, bel_mpr, bel_fn, bel_sl_nil, bel_sl_nilF, bel_sl_nilO, bel_sl_cons, bel_sl_app, belO_cells, belO_tok, belO_dead, belO_deferred, belO_map, belO_iter, belO_loop, bel_vec, bel_vp, belO_vecM, belO_vec, hcs, dep_uk, -List.map_map]
      · have hcs : (P.take (k + 1)).countP (fun q => decide (q = hourW s ws i)) = (P.take k).countP (fun q => decide (q = hourW s ws i)) + 1 := by rw [hts, List.countP_append, List.countP_singleton, c1]; simp
        simp (maxSteps := 4000000) only [go_sem, AV.one, drawV, intsOf, keyIdx, over, putO, memAt, List.map_cons, List.length_cons, ↓reduceIte, zdrop, one_i, one_b, one_sl, one_ptr, one_ref, one_nilp, one_mp, one_fn, one_nilf, dep_uk, hk', getD_mapA hk, c1]
        all_goals (repeat' (first | with_reducible rfl | with_reducible apply And.intro | ((with_reducible show drawOK _ _ = true); rfl))) <;> (try first | omega | (simp only [InR]; omega) | with_reducible assumption)
        refine nxt hk trivial ?_
        simp [AV.bare, bel_ints, cs_arr, dep_arr, cs_int, cs_bool, cs_list, cs_sk, cs_sp, AtHead, Same, AllO, Begins, LtAll, headSt, tokz_nil, tokz_cons, tokz1, lk, dep_int, dep_bool, dep_list, dep_sk, dep_sp, memAt, bel_map, bel_mapF, bel_mapO, bel_undef, bel_int, bel_boolv, bel_nilp, bel_nilf, bel_ptr, bel_arr, bel_mp, bel_yld, bel_agg, bel_tup, bel_ref, bel_only, bel_mpr, bel_fn, bel_sl_nil, bel_sl_nilF, bel_sl_nilO, bel_sl_cons, bel_sl_app, belO_cells, belO_tok, belO_dead, belO_deferred, belO_map, belO_iter, belO_loop, bel_vec, bel_vp, belO_vecM, belO_vec, hcs, dep_uk, -List.map_map]
    · intro _
      rw [List.take_length]
      have hcl : closeW s P (hourW s ws i) = if 17 < hourW s ws i ∨ s.hands ≤ P.countP (fun q => decide (q = hourW s ws i)) then -1 else hourW s ws i := rfl
      cases c1 : decide (hourW s ws i > 17)
      · cases c2 : decide ((P.countP (fun q => decide (q = hourW s ws i)) : Int) ≥ s.hands)
        · have hcv : closeW s P (hourW s ws i) = hourW s ws i := by
            have e1 := of_decide_eq_false c1
            have e2 := of_decide_eq_false c2
            rw [hcl, if_neg (by omega)]
          rw [hcv] at hps
          simp (maxSteps := 4000000) only [go_sem, AV.one, drawV, intsOf, keyIdx, over, putO, memAt, List.map_cons, List.length_cons, ↓reduceIte, zdrop, one_i, one_b, one_sl, one_ptr, one_ref, one_nilp, one_mp, one_fn, one_nilf, dep_uk, Int.lt_irrefl, c1, c2, hpl]
          all_goals (repeat' (first | with_reducible rfl | with_reducible apply And.intro | ((with_reducible show drawOK _ _ = true); rfl))) <;> (try first | omega | (simp only [InR]; omega) | with_reducible assumption)
          refine nxt hi trivial ?_
          simp [AV.bare, bel_ints, cs_arr, dep_arr, cs_int, cs_bool, cs_list, cs_sk, cs_sp, AtHead, Same, AllO, Begins, LtAll, headSt, tokz_nil, tokz_cons, tokz1, lk, dep_int, dep_bool, dep_list, dep_sk, dep_sp, memAt, bel_map, bel_mapF, bel_mapO, bel_undef, bel_int, bel_boolv, bel_nilp, bel_nilf, bel_ptr, bel_arr, bel_mp, bel_yld, bel_agg, bel_tup, bel_ref, bel_only, bel_mpr, bel_fn, bel_sl_nil, bel_sl_nilF, bel_sl_nilO, bel_sl_cons, bel_sl_app, belO_cells, belO_tok, belO_dead, belO_deferred, belO_map, belO_iter, belO_loop, bel_vec, bel_vp, belO_vecM, belO_vec, hps, dep_uk, -List.map_map]
        · have hcv : closeW s P (hourW s ws i) = -1 := by
            have e2 := of_decide_eq_true c2
            rw [hcl, if_pos (by omega)]
          rw [hcv] at hps
          simp (maxSteps := 4000000) only [go_sem, AV.one, drawV, intsOf, keyIdx, over, putO, memAt, List.map_cons, List.length_cons, ↓reduceIte, zdrop, one_i, one_b, one_sl, one_ptr, one_ref, one_nilp, one_mp, one_fn, one_nilf, dep_uk, Int.lt_irrefl, c1, c2, hpl]
          all_goals (repeat' (first | with_reducible rfl | with_reducible apply And.intro | ((with_reducible show drawOK _ _ = true); rfl))) <;> (try first | omega | (simp only [InR]; omega) | with_reducible assumption)
          refine nxt hi trivial ?_
          simp [AV.bare, bel_ints, cs_arr, dep_arr, cs_int, cs_bool, cs_list, cs_sk, cs_sp, AtHead, Same, AllO, Begins, LtAll, headSt, tokz_nil, tokz_cons, tokz1, lk, dep_int, dep_bool, dep_list, dep_sk, dep_sp, memAt, bel_map, bel_mapF, bel_mapO, bel_undef, bel_int, bel_boolv, bel_nilp, bel_nilf, bel_ptr, bel_arr, bel_mp, bel_yld, bel_agg, bel_tup, bel_ref, bel_only, bel_mpr, bel_fn, bel_sl_nil, bel_sl_nilF, bel_sl_nilO, bel_sl_cons, bel_sl_app, belO_cells, belO_tok, belO_dead, belO_deferred, belO_map, belO_iter, belO_loop, bel_vec, bel_vp, belO_vecM, belO_vec, hps, dep_uk, -List.map_map]
      · have hcv : closeW s P (hourW s ws i) = -1 := by
          have e1 := of_decide_eq_true c1
          rw [hcl, if_pos (by omega)]
        rw [hcv] at hps
        simp (maxSteps := 4000000) only [go_sem, AV.one, drawV, intsOf, keyIdx, over, putO, memAt, List.map_cons, List.length_cons, ↓reduceIte, zdrop, one_i, one_b, one_sl, one_ptr, one_ref, one_nilp, one_mp, one_fn, one_nilf, dep_uk, Int.lt_irrefl, c1, hpl]
        all_goals (repeat' (first | with_reducible rfl | with_reducible apply And.intro | ((with_reducible show drawOK _ _ = true); rfl))) <;> (try first | omega | (simp only [InR]; omega) | with_reducible assumption)
        refine nxt hi trivial ?_
        simp [AV.bare, bel_ints, cs_arr, dep_arr, cs_int, cs_bool, cs_list, cs_sk, cs_sp, AtHead, Same, AllO, Begins, LtAll, headSt, tokz_nil, tokz_cons, tokz1, lk, dep_int, dep_bool, dep_list, dep_sk, dep_sp, memAt, bel_map, bel_mapF, bel_mapO, bel_undef, bel_int, bel_boolv, bel_nilp, bel_nilf, bel_ptr, bel_arr, bel_mp, bel_yld, bel_agg, bel_tup, bel_ref, bel_only, bel_mpr, bel_fn, bel_sl_nil, bel_sl_nilF, bel_sl_nilO, bel_sl_cons, bel_sl_app, belO_cells, belO_tok, belO_dead, belO_deferred, belO_map, belO_iter, belO_loop, bel_vec, bel_vp, belO_vecM, belO_vec, hps, dep_uk, -List.map_map]
  · intro _
    simp (maxSteps := 4000000) only [go_sem, AV.one, drawV, intsOf, keyIdx, over, putO, memAt, List.map_cons, List.length_cons, ↓reduceIte, zdrop, one_i, one_b, one_sl, one_ptr, one_ref, one_nilp, one_mp, one_fn, one_nilf, dep_uk, Int.lt_irrefl]
    all_goals (repeat' (first | with_reducible rfl | with_reducible apply And.intro | ((with_reducible show drawOK _ _ = true); rfl))) <;> (try first | omega | (simp only [InR]; omega) | with_reducible assumption)
end Go.Proofs
namespace Go.Proofs
open Go.Fs
set_option linter.unusedSimpArgs false
set_option linter.unusedVariables false
set_option maxHeartbeats 4000000
set_option maxRecDepth 8000
def P49 : Specs := addSpec 8 (spec2 (fun (s : Sh) (ws : List (Uk .u16)) => ShOk s ∧ WsOk ws) (fun s ws => planW s ws s.stacks.length)) (P48)
theorem P49_app (g : FuncId) : P49 g = (addSpec 8 (spec2 (fun (s : Sh) (ws : List (Uk .u16)) => ShOk s ∧ WsOk ws) (fun s ws => planW s ws s.stacks.length)) (P48)) g := rfl
theorem P49_ok : SpecsOk Try.prog P49 := addSpec_ok (spec2_ok Planned_call) (P48_ok)
attribute [go_sem] P49_app
theorem P49_flag (d : Option Nat) : flagOf P49 d = none := (flagOf_add (by decide) d).trans (P48_flag d)
attribute [go_sem] P49_flag
theorem thin_len {s : Sh} (h : thinB s = true) : s.stacks.length ≤ 10 := by unfold thinB at h; simpa using h
theorem play_bad {s : Sh} (plan : List Int) (t : Tr) (h : faultS s ≠ 0) : playQ s plan t = ([], faultS s) := by unfold playQ; rw [if_pos h]
theorem saved_bad {s : Sh} (plan : List Int) (h : faultS s ≠ 0) : savedQ s plan = ([], faultS s) := by
  have : plannedQ s plan = faultS s := by unfold plannedQ; rw [if_pos h]
  unfold savedQ
  rw [this, if_pos h]
theorem sure_bad {s : Sh} (plan : List Int) (h : faultS s ≠ 0) : sureQ s plan = (0, faultS s) := by
  have : plannedQ s plan = faultS s := by unfold plannedQ; rw [if_pos h]
  unfold sureQ
  rw [this, if_pos h]
theorem best_bad {s : Sh} (h : faultS s ≠ 0) : bestQ s = ⟨[], 0, faultS s⟩ := by unfold bestQ; rw [if_pos h]
theorem best_good {s : Sh} (hs : ShOk s) : bestQ s = ⟨bestS s, mostS s, 0⟩ := by unfold bestQ; rw [if_neg (by rw [ok_fault hs]; simp)]
theorem play_good {s : Sh} (hs : ShOk s) (plan : List Int) (t : Tr) : playQ s plan t = if (planB s plan && truthB s t) = true then ((List.range plan.length).map fun i => savesB (at_ plan i) (t.rain + at_ t.leaks i), 0) else ([], 2) := by
  unfold playQ; rw [if_neg (by rw [ok_fault hs]; simp), busy_plan hs]
theorem saved_good {s : Sh} (hs : ShOk s) {plan : List Int} (h : planB s plan = true) : savedQ s plan = ((List.range plan.length).map (verdictW s plan), 0) := by
  unfold savedQ; rw [planned_eq hs, if_pos h, if_neg (by simp)]
theorem saved_no {s : Sh} (hs : ShOk s) {plan : List Int} (h : planB s plan = false) : savedQ s plan = ([], 2) := by
  unfold savedQ; rw [planned_eq hs, h]; rfl
theorem sure_good {s : Sh} (hs : ShOk s) {plan : List Int} (h : planB s plan = true) : sureQ s plan = (sureS s plan, 0) := by
  unfold sureQ; rw [planned_eq hs, if_pos h, if_neg (by simp)]
theorem sure_no {s : Sh} (hs : ShOk s) {plan : List Int} (h : planB s plan = false) : sureQ s plan = (0, 2) := by
  unfold sureQ; rw [planned_eq hs, h]; rfl
theorem left_bad {s : Sh} (plan : List Int) (hour : Int) (h : faultS s ≠ 0) : leftQ s plan hour = ⟨zeroSh, 0, faultS s⟩ := by
  have : plannedQ s plan = faultS s := by unfold plannedQ; rw [if_pos h]
  unfold leftQ
  rw [this, if_pos h]
theorem left_no {s : Sh} (hs : ShOk s) {plan : List Int} (hour : Int) (h : planB s plan = false) : leftQ s plan hour = ⟨zeroSh, 0, 2⟩ := by
  unfold leftQ; rw [planned_eq hs, h]; rfl
theorem left_out {s : Sh} (hs : ShOk s) {plan : List Int} {hour : Int} (h : planB s plan = true) (hh : inB hour s.rain.lo s.rain.hi = false) : leftQ s plan hour = ⟨zeroSh, 0, 2⟩ := by
  unfold leftQ; rw [planned_eq hs, if_pos h, hh]; rfl
theorem left_good {s : Sh} (hs : ShOk s) {plan : List Int} {hour : Int} (h : planB s plan = true) (hh : inB hour s.rain.lo s.rain.hi = true) : leftQ s plan hour = ⟨(leftR s plan hour).1, (leftR s plan hour).2, 0⟩ := by
  unfold leftQ; rw [planned_eq hs, if_pos h, hh]; rfl
theorem sure_bd {s : Sh} (hs : ShOk s) {plan : List Int} (hl : plan.length = s.stacks.length) : 0 ≤ sureS s plan ∧ sureS s plan ≤ 8 * 99 := by
  have := wsum_bd (n := plan.length) (f := fun i => chS s i) (m := 99) (fun i => savesB (at_ plan i) (spS s i)) (by omega) (fun i hi => hs.ch (by omega))
  have h8 := hs.len
  unfold sureS
  omega
theorem countP_set_le {q : Int → Bool} {a : Int} : ∀ (l : List Int) (i : Nat), (l.set i a).countP q ≤ l.countP q + if q a = true then 1 else 0
  | [], i => by simp
  | x :: l, 0 => by
    rw [List.set_cons_zero, List.countP_cons, List.countP_cons]
    split <;> split <;> omega
  | x :: l, i + 1 => by
    rw [List.set_cons_succ, List.countP_cons, List.countP_cons]
    have := countP_set_le l i (q := q) (a := a)
    rw [Nat.add_right_comm]
    exact Nat.add_le_add_right this _
theorem planN_count {H : Int} {o : List Int} {n : Nat} {p : Int} (hp : 0 ≤ p) : ∀ m, (((planN H o n m).countP fun q => decide (q = p) : Nat) : Int) ≤ cnt m (fun k => decide ((k : Int) / H = p))
  | 0 => by
    have : (List.replicate n (-1 : Int)).countP (fun q => decide (q = p)) = 0 := by
      rw [List.countP_eq_zero]
      intro q hq
      rw [(List.mem_replicate.1 hq).2]
      simp only [decide_eq_true_eq]
      omega
    show (((List.replicate n (-1 : Int)).countP _ : Nat) : Int) ≤ 0
    rw [this]; simp
  | m + 1 => by
    rw [planN_succ]
    have h1 := planN_count (H := H) (o := o) (n := n) hp m
    have h2 := countP_set_le (q := fun q => decide (q = p)) (a := (m : Int) / H) (planN H o n m) (at_ o m).toNat
    have h3 : cnt (m + 1) (fun k => decide ((k : Int) / H = p)) = cnt m (fun k => decide ((k : Int) / H = p)) + if decide ((m : Int) / H = p) = true then 1 else 0 := rfl
    rw [h3]
    split <;> split at h2 <;> simp_all <;> omega
theorem cnt_div {H p : Int} (hH : 1 ≤ H) (hp : 0 ≤ p) : ∀ m : Nat, cnt m (fun k => decide ((k : Int) / H = p)) ≤ H ∧ cnt m (fun k => decide ((k : Int) / H = p)) ≤ max 0 ((m : Int) - H * p)
  | 0 => by simp [cnt]; omega
  | m + 1 => by
    obtain ⟨h1, h2⟩ := cnt_div hH hp m
    have h3 : cnt (m + 1) (fun k => decide ((k : Int) / H = p)) = cnt m (fun k => decide ((k : Int) / H = p)) + if decide ((m : Int) / H = p) = true then 1 else 0 := rfl
    rw [h3]
    by_cases e : (m : Int) / H = p
    · have h4 := Int.mul_ediv_add_emod (m : Int) H
      have h5 := Int.emod_nonneg (m : Int) (show H ≠ 0 by omega)
      have h6 := Int.emod_lt_of_pos (m : Int) (show 0 < H by omega)
      rw [e] at h4
      rw [if_pos (by simpa using e)]
      omega
    · rw [if_neg (by simpa using e)]
      omega
theorem best_count {s : Sh} (hs : ShOk s) (p : Int) (hp : 0 ≤ p) : (((bestS s).countP fun q => decide (q = p) : Nat) : Int) ≤ s.hands := by
  have h0 := hs.h0
  unfold bestS
  by_cases hk : keptS s = []
  · have : sortS (spS s) (keptS s) = [] := by rw [hk]; rfl
    rw [this]
    have := planN_count (H := s.hands) (o := []) (n := s.stacks.length) hp 0
    have e : cnt 0 (fun k => decide ((k : Int) / s.hands = p)) = 0 := rfl
    simp only [List.length_nil]
    omega
  · have hH := kept_hands hs hk
    have h1 := planN_count (H := s.hands) (o := sortS (spS s) (keptS s)) (n := s.stacks.length) hp (sortS (spS s) (keptS s)).length
    have h2 := (cnt_div hH hp (sortS (spS s) (keptS s)).length).1
    omega
theorem best_plan {s : Sh} (hs : ShOk s) : planB s (bestS s) = true := by
  have hl := best_len s
  obtain ⟨k1, k2, k3, _⟩ := kept_spec hs
  have hbd : ∀ i, i < s.stacks.length → -1 ≤ at_ (bestS s) i ∧ at_ (bestS s) i ≤ 17 := fun i hi => by
    obtain ⟨h1, h2⟩ := best_at hs hi
    have hsp := hs.sp hi
    cases c : memB (keptS s) i
    · have := h2 c; omega
    · have := h1 c; omega
  have hmem : ∀ x ∈ bestS s, -1 ≤ x ∧ x ≤ 17 := fun x hx => by
    obtain ⟨i, hi, rfl⟩ := mem_at hx
    exact hbd i (by omega)
  unfold planB
  simp only [Bool.and_eq_true, decide_eq_true_eq, List.all_eq_true]
  refine ⟨hl, fun p hp => ⟨(inB_iff _ _ _).2 (hmem p hp), ?_⟩⟩
  by_cases e : p < 0
  · rw [manyL_neg e]; simpa using hs.h0
  · rw [manyL_pos (by omega)]
    exact best_count hs p (by omega)
end Go.Proofs
namespace Go.Proofs
open Go.Fs
set_option linter.unusedSimpArgs false
set_option linter.unusedVariables false
set_option maxHeartbeats 4000000
set_option maxRecDepth 8000
theorem ok_iff {s : Sh} : faultS s = 0 ↔ ShOk s := ⟨fault_ok, ok_fault⟩
theorem most_mono {s x : Sh} (hs : ShOk s) (hx : ShOk x) (hl : x.stacks.length = s.stacks.length) (hh : s.hands ≤ x.hands)
    (hsp : ∀ i, i < s.stacks.length → spS s i ≤ spS x i) (hch : ∀ i, i < s.stacks.length → chS s i = chS x i) : mostS s ≤ mostS x := by
  obtain ⟨_, _, hF, _⟩ := kept_spec hs
  have hFx : FeasS x (memB (keptS s)) := fun b hb => by
    have h1 := hF b hb
    rw [hl]
    refine Int.le_trans (cnt_mono fun i hi hq => ?_) (Int.le_trans h1 (Int.mul_le_mul_of_nonneg_right hh (by omega)))
    simp only [Bool.and_eq_true, decide_eq_true_eq] at hq ⊢
    have := hsp i hi
    exact ⟨hq.1, by omega⟩
  have h2 := feas_le hx hFx
  have e : weightS x (memB (keptS s)) = mostS s := by
    unfold mostS weightS
    rw [hl]
    exact wsum_congr (fun _ _ => rfl) fun i hi _ => (hch i hi).symm
  omega
theorem sure_mono {s x : Sh} {plan : List Int} (hs : ShOk s) (hpl : plan.length = s.stacks.length)
    (hsp : ∀ i, i < s.stacks.length → spS s i ≤ spS x i) (hch : ∀ i, i < s.stacks.length → chS s i = chS x i) : sureS s plan ≤ sureS x plan := by
  unfold sureS
  have e : wsum plan.length (fun i => chS s i) (fun i => savesB (at_ plan i) (spS s i)) = wsum plan.length (fun i => chS x i) (fun i => savesB (at_ plan i) (spS s i)) := wsum_congr (fun _ _ => rfl) fun i hi _ => hch i (by omega)
  rw [e]
  refine wsum_mono (fun i hi hq => ?_) (fun i hi => by have := hs.ch (show i < s.stacks.length by omega); have := hch i (by omega); omega)
  unfold savesB at hq ⊢
  simp only [Bool.and_eq_true, decide_eq_true_eq] at hq ⊢
  have := hsp i (by omega)
  exact ⟨hq.1, by omega⟩
def moreS (s : Sh) (x : Sk) : Sh := ⟨s.stacks ++ [x], s.hands, s.rain⟩
theorem more_at (s : Sh) (x : Sk) {i : Nat} (hi : i < s.stacks.length) : spS (moreS s x) i = spS s i ∧ chS (moreS s x) i = chS s i := by
  unfold spS chS moreS
  rw [Int.toNat_natCast]
  dsimp only
  rw [at_append_left hi]
  exact ⟨rfl, rfl⟩
theorem more_last (s : Sh) (x : Sk) : chS (moreS s x) (s.stacks.length : Nat) = x.chairs := by
  unfold chS moreS
  rw [Int.toNat_natCast]
  simp [at_, List.getD]
theorem cnt_cut {n : Nat} {p : Nat → Bool} (h : p n = false) : cnt (n + 1) p = cnt n p := by
  show cnt n p + (if p n = true then 1 else 0) = _
  rw [h]; simp
theorem most_more {s : Sh} (hs : ShOk s) {x : Sk} (hx : ShOk (moreS s x)) : mostS s ≤ mostS (moreS s x) ∧ mostS (moreS s x) ≤ mostS s + x.chairs := by
  have hlen : (moreS s x).stacks.length = s.stacks.length + 1 := by simp [moreS]
  constructor
  · obtain ⟨_, k2, hF, _⟩ := kept_spec hs
    have hno : memB (keptS s) s.stacks.length = false := by
      cases c : memB (keptS s) s.stacks.length
      · rfl
      · have := k2 _ ((memB_iff _ _).1 c); omega
    have hFx : FeasS (moreS s x) (memB (keptS s)) := fun b hb => by
      have h1 := hF b hb
      rw [hlen, cnt_cut (by rw [hno]; rfl)]
      rw [cnt_congr (q := fun i => memB (keptS s) i && decide (spS s i ≤ (b : Int))) (fun i hi => by have e := (more_at s x hi).1; show (memB (keptS s) i && decide (spS (moreS s x) i ≤ (b : Int))) = _; rw [e])]
      exact h1
    have h2 := feas_le hx hFx
    have e : weightS (moreS s x) (memB (keptS s)) = mostS s := by
      unfold mostS weightS
      rw [hlen]
      show wsum s.stacks.length _ _ + (if memB (keptS s) s.stacks.length = true then _ else 0) = _
      rw [hno, if_neg (by simp), Int.add_zero]
      exact wsum_congr (fun _ _ => rfl) fun i hi _ => (more_at s x hi).2
    omega
  · obtain ⟨_, _, hF, _⟩ := kept_spec hx
    have hFs : FeasS s (memB (keptS (moreS s x))) := fun b hb => by
      have h1 := hF b hb
      rw [hlen] at h1
      refine Int.le_trans ?_ h1
      have e : cnt (s.stacks.length + 1) (fun i => memB (keptS (moreS s x)) i && decide (spS (moreS s x) i ≤ (b : Int))) = cnt s.stacks.length (fun i => memB (keptS (moreS s x)) i && decide (spS (moreS s x) i ≤ (b : Int))) + if (memB (keptS (moreS s x)) s.stacks.length && decide (spS (moreS s x) s.stacks.length ≤ (b : Int))) = true then 1 else 0 := rfl
      rw [e]
      rw [cnt_congr (p := fun i => memB (keptS (moreS s x)) i && decide (spS s i ≤ (b : Int))) (q := fun i => memB (keptS (moreS s x)) i && decide (spS (moreS s x) i ≤ (b : Int))) (fun i hi => by rw [(more_at s x hi).1])]
      split <;> omega
    have h2 := feas_le hs hFs
    have hxc := (hx.st x (by simp [moreS])).1
    have e : mostS (moreS s x) = weightS s (memB (keptS (moreS s x))) + if memB (keptS (moreS s x)) s.stacks.length = true then x.chairs else 0 := by
      unfold mostS weightS
      rw [hlen]
      show wsum s.stacks.length _ _ + (if memB (keptS (moreS s x)) s.stacks.length = true then chS (moreS s x) (s.stacks.length : Nat) else 0) = _
      rw [more_last]
      congr 1
      exact wsum_congr (fun _ _ => rfl) fun i hi _ => (more_at s x hi).2
    rw [e]
    split <;> omega
theorem weight_le {s : Sh} (hs : ShOk s) (A : Nat → Bool) : weightS s A ≤ totalS s := by
  unfold weightS totalS
  exact wsum_mono (fun _ _ _ => rfl) fun i hi => (hs.ch hi).1
theorem most_total {s : Sh} (hs : ShOk s) : mostS s ≤ totalS s := weight_le hs _
theorem wsum_lt {n : Nat} {f : Nat → Int} {p : Nat → Bool} (hf : ∀ i, i < n → 0 ≤ f i) {k : Nat} (hk : k < n) (hp : p k = false) (hfk : 0 < f k) : wsum n f p < wsum n f (fun _ => true) := by
  induction n with
  | zero => omega
  | succ n ih =>
    have h1 : wsum n f p ≤ wsum n f (fun _ => true) := wsum_mono (fun _ _ _ => rfl) fun i hi => hf i (by omega)
    show wsum n f p + (if p n = true then f n else 0) < wsum n f (fun _ => true) + (if true = true then f n else 0)
    rw [if_pos rfl]
    by_cases e : k = n
    · subst e
      rw [hp, if_neg (by simp)]
      omega
    · have := ih (fun i hi => hf i (by omega)) (by omega)
      have := hf n (by omega)
      split <;> omega
theorem lost_none {s : Sh} (hs : ShOk s) (h : mostS s = totalS s) : lostN s s.stacks.length = [] := by
  unfold lostN
  rw [List.map_eq_nil_iff, List.filter_eq_nil_iff]
  intro i hi hb
  rw [List.mem_range] at hi
  unfold lostB at hb
  simp only [Bool.and_eq_true, decide_eq_true_eq, minL_two] at hb
  obtain ⟨hch, hmin⟩ := hb
  obtain ⟨_, _, hF, _⟩ := kept_spec hs
  cases c : memB (keptS s) i
  · have := wsum_lt (f := fun i => chS s i) (p := memB (keptS s)) (fun i hi => (hs.ch hi).1) hi c hch
    have e1 : wsum s.stacks.length (fun i => chS s i) (memB (keptS s)) = mostS s := rfl
    have e2 : wsum s.stacks.length (fun i => chS s i) (fun _ => true) = totalS s := rfl
    omega
  · have hsp := hs.sp hi
    obtain ⟨b, hb⟩ := Int.eq_ofNat_of_zero_le hsp.1
    have h1 := hF b (by omega)
    have h2 := cnt_pos (n := s.stacks.length) (i := i) (p := fun i => memB (keptS s) i && decide (spS s i ≤ (b : Int))) hi (by
      simp only [Bool.and_eq_true, decide_eq_true_eq]; exact ⟨c, by omega⟩)
    have h3 : s.hands * (b : Int) = 0 := by
      have := hs.h0
      have hm2 : min s.hands (spS s i) = 0 := of_decide_eq_true hmin
      rcases (show s.hands = 0 ∨ spS s i = 0 by omega) with q | q
      · rw [q]; simp
      · rw [hb] at q
        rw [q]; simp
    exact absurd (Int.le_trans h2 h1) (by rw [h3]; simp)
end Go.Proofs
namespace Go.Proofs
open Go.Fs
set_option linter.unusedSimpArgs false
set_option linter.unusedVariables false
set_option maxHeartbeats 4000000
set_option maxRecDepth 8000
theorem wsum_drop {n i : Nat} {f g : Nat → Int} (A : Nat → Bool) (hi : i < n) (hf : ∀ j, j ≠ i → g j = f j) (h0 : g i = 0) : wsum n f A = wsum n g A + if A i = true then f i else 0 := by
  induction n with
  | zero => omega
  | succ n ih =>
    unfold wsum
    by_cases e : i = n
    · subst e
      rw [wsum_congr (f := f) (g := g) (p := A) (q := A) (fun _ _ => rfl) (fun j hj _ => (hf j (by omega)).symm), h0]
      split <;> omega
    · rw [ih (by omega), hf n (fun q => e q.symm)]
      omega
theorem at_set_eq' {α : Type} [Inhabited α] {l : List α} {i j : Nat} {v : α} (hj : j < l.length) : at_ (l.set i v) j = if i = j then v else at_ l j := by
  rw [at_get (by simpa using hj), List.getElem_set]
  split
  · rfl
  · rw [at_get hj]
theorem wo_at (s : Sh) {i : Nat} {j : Nat} (hj : j < s.stacks.length) : spS (withoutS s [(i : Int)]) j = spS s j ∧ chS (withoutS s [(i : Int)]) j = if i = j then 0 else chS s j := by
  have e : (withoutS s [(i : Int)]).stacks = s.stacks.set i ⟨0, (at_ s.stacks i).leak⟩ := rfl
  unfold spS chS
  rw [e, Int.toNat_natCast, at_set_eq' hj]
  by_cases q : i = j
  · subst q; rw [if_pos rfl, if_pos rfl]; exact ⟨rfl, rfl⟩
  · rw [if_neg q, if_neg q]; exact ⟨rfl, rfl⟩
theorem drop_len (s : Sh) (i : Nat) : (withoutS s [(i : Int)]).stacks.length = s.stacks.length := zeroS_len _ _
theorem drop_ok {s : Sh} (hs : ShOk s) {i : Nat} (hi : i < s.stacks.length) : ShOk (withoutS s [(i : Int)]) :=
  without_ok hs fun x hx => by simp at hx; rw [hx]; exact ⟨by omega, by omega⟩
theorem drop_weight {s : Sh} {i : Nat} (hi : i < s.stacks.length) (A : Nat → Bool) : weightS s A = weightS (withoutS s [(i : Int)]) A + if A i = true then chS s i else 0 := by
  unfold weightS
  rw [drop_len]
  have e : wsum s.stacks.length (fun j => chS (withoutS s [(i : Int)]) j) A = wsum s.stacks.length (fun j => if i = j then 0 else chS s j) A := wsum_congr (fun _ _ => rfl) fun j hj _ => (wo_at s hj).2
  rw [e]
  exact wsum_drop A hi (fun j hj => if_neg (fun q => hj q.symm)) (if_pos rfl)
theorem drop_feas {s : Sh} {i : Nat} (A : Nat → Bool) : FeasS (withoutS s [(i : Int)]) A ↔ FeasS s A := by
  unfold FeasS Feas
  rw [drop_len]
  have e : ∀ b : Nat, cnt s.stacks.length (fun j => A j && decide (spS (withoutS s [(i : Int)]) j ≤ (b : Int))) = cnt s.stacks.length (fun j => A j && decide (spS s j ≤ (b : Int))) := fun b => cnt_congr fun j hj => by rw [(wo_at s hj).1]
  simp only [e]
  exact Iff.rfl
def worthS (s : Sh) (i : Nat) : Int := mostS s - mostS (withoutS s [(i : Int)])
theorem worth_spec {s : Sh} (hs : ShOk s) {i : Nat} (hi : i < s.stacks.length) : 0 ≤ worthS s i ∧ worthS s i ≤ chS s i ∧ worthS s i ≤ if memB (keptS s) i = true then chS s i else 0 := by
  have hw := drop_ok hs hi
  obtain ⟨_, _, hF, _⟩ := kept_spec hs
  obtain ⟨_, _, hG, _⟩ := kept_spec hw
  have h1 := feas_le hs ((drop_feas _).1 hG)
  have h2 := feas_le hw ((drop_feas (i := i) _).2 hF)
  have h3 := drop_weight hi (memB (keptS (withoutS s [(i : Int)])))
  have h4 := drop_weight hi (memB (keptS s))
  have hc := (hs.ch hi).1
  have e1 : weightS s (memB (keptS s)) = mostS s := rfl
  have e2 : weightS (withoutS s [(i : Int)]) (memB (keptS (withoutS s [(i : Int)]))) = mostS (withoutS s [(i : Int)]) := rfl
  unfold worthS
  refine ⟨?_, ?_, ?_⟩
  · have : (0 : Int) ≤ if memB (keptS (withoutS s [(i : Int)])) i = true then chS s i else 0 := by split <;> omega
    omega
  · have : (if memB (keptS s) i = true then chS s i else 0) ≤ chS s i := by split <;> omega
    omega
  · omega
theorem worth_sum {s : Sh} (hs : ShOk s) : ∀ n, n ≤ s.stacks.length → sumTo n (worthS s) ≤ wsum n (fun i => chS s i) (memB (keptS s))
  | 0, _ => Int.le_refl _
  | n + 1, h => by
    have h1 := worth_sum hs n (by omega)
    have h2 := (worth_spec hs (i := n) (by omega)).2.2
    show sumTo n (worthS s) + worthS s n ≤ wsum n _ _ + (if memB (keptS s) n = true then chS s n else 0)
    omega
theorem worth_all {s : Sh} (hs : ShOk s) : sumTo s.stacks.length (worthS s) ≤ mostS s := worth_sum hs _ (Nat.le_refl _)
theorem water_ge {s : Sh} {i : Nat} {w : Int} (h : w ∈ waterL s i) : spS s i ≤ w := by
  unfold waterL waterN leakL at h
  simp only [List.mem_flatMap, List.mem_range, List.mem_map] at h
  obtain ⟨k, hk, j, hj, rfl⟩ := h
  unfold spS
  rw [Int.toNat_natCast]
  omega
theorem kept_always {s : Sh} (hs : ShOk s) {plan : List Int} {i : Nat} (hi : i < s.stacks.length) (h : 0 ≤ at_ plan i ∧ at_ plan i < spS s i) : verdictW s plan i = 1 := by
  rw [verdict_eq hs hi (by omega)]
  unfold verdictR
  rw [Int.toNat_natCast, if_pos]
  rw [List.countP_eq_length]
  intro w hw
  have := water_ge hw
  simp only [savP, Bool.and_eq_true, decide_eq_true_eq]
  omega
theorem best_worth {s : Sh} (hs : ShOk s) {i : Nat} (hi : i < s.stacks.length) (h : verdictW s (bestS s) i ≠ 1) : worthS s i = 0 := by
  have h1 := worth_spec hs hi
  cases c : memB (keptS s) i
  · rw [c, if_neg (by simp)] at h1
    omega
  · exact absurd (kept_always hs hi ((best_at hs hi).1 c)) h
theorem worth_good {s : Sh} (hs : ShOk s) {i : Nat} (hi : i < s.stacks.length) : worthQ s i = (worthS s i, 0) := by
  unfold worthQ
  rw [if_neg (by rw [ok_fault hs]; simp), if_pos ((inB_iff _ _ _).2 ⟨by omega, by omega⟩)]
  rfl
end Go.Proofs
namespace Go.Proofs
open Go.Fs
set_option linter.unusedSimpArgs false
set_option linter.unusedVariables false
set_option maxHeartbeats 4000000
set_option maxRecDepth 8000
theorem zero_at : ∀ (l : List Int) (st : List Sk), (∀ x ∈ l, 0 ≤ x) → ∀ i : Nat, i < st.length → at_ (zeroS st l) i = if (i : Int) ∈ l then ⟨0, (at_ st i).leak⟩ else at_ st i
  | [], st, _, i, hi => by simp [zeroS]
  | x :: l, st, h, i, hi => by
    have hx := h x (by simp)
    have e : zeroS st (x :: l) = zeroS (st.set x.toNat ⟨0, (at_ st x.toNat).leak⟩) l := rfl
    rw [e, zero_at l _ (fun y hy => h y (by simp [hy])) i (by simpa using hi), at_set_eq' hi]
    by_cases q : x.toNat = i
    · have q' : (i : Int) = x := by omega
      rw [if_pos q, q']
      simp only [List.mem_cons, true_or, if_true]
      rw [q]
      split <;> rfl
    · have q' : ¬ (i : Int) = x := by omega
      rw [if_neg q]
      simp only [List.mem_cons, q', false_or]
theorem cnt_take {l : List Int} (q : Int → Bool) : ∀ n, n ≤ l.length → cnt n (fun i => q (at_ l i)) = (((l.take n).countP q : Nat) : Int)
  | 0, _ => by simp [cnt]
  | n + 1, h => by
    have ih := cnt_take (l := l) q n (by omega)
    rw [take_succ_at (by omega), List.countP_append, List.countP_singleton]
    show cnt n _ + (if q (at_ l n) = true then 1 else 0) = _
    rw [ih]
    split <;> simp
theorem cnt_countP (l : List Int) (q : Int → Bool) : cnt l.length (fun i => q (at_ l i)) = ((l.countP q : Nat) : Int) := by
  have := cnt_take (l := l) q l.length (Nat.le_refl _)
  rwa [List.take_length] at this
theorem cnt_hours {plan : List Int} {H : Int} (hH : ∀ p : Int, 0 ≤ p → ((plan.countP fun q => decide (q = p) : Nat) : Int) ≤ H) {h : Int} (h0 : 0 ≤ h) :
    ∀ b : Nat, cnt plan.length (fun i => decide (h ≤ at_ plan i) && decide (at_ plan i < h + b)) ≤ H * b
  | 0 => by
    rw [cnt_zero fun i hi => ?_]
    · simp
    · rw [Bool.and_eq_false_iff, decide_eq_false_iff_not, decide_eq_false_iff_not]; omega
  | b + 1 => by
    have h1 := cnt_hours hH h0 b
    have h2 := hH (h + b) (by omega)
    rw [cnt_split _ _ (fun i => decide (at_ plan i < h + b))]
    have e1 : cnt plan.length (fun i => (decide (h ≤ at_ plan i) && decide (at_ plan i < h + ((b + 1 : Nat) : Int))) && decide (at_ plan i < h + b)) ≤ cnt plan.length (fun i => decide (h ≤ at_ plan i) && decide (at_ plan i < h + b)) :=
      cnt_mono fun i hi hq => by simp only [Bool.and_eq_true, decide_eq_true_eq] at hq ⊢; omega
    have e2 : cnt plan.length (fun i => (decide (h ≤ at_ plan i) && decide (at_ plan i < h + ((b + 1 : Nat) : Int))) && !decide (at_ plan i < h + b)) ≤ cnt plan.length (fun i => decide (at_ plan i = h + b)) :=
      cnt_mono fun i hi hq => by simp only [Bool.and_eq_true, Bool.not_eq_true', decide_eq_true_eq, decide_eq_false_iff_not] at hq ⊢; omega
    have e3 : cnt plan.length (fun i => decide (at_ plan i = h + b)) = ((plan.countP fun q => decide (q = h + b) : Nat) : Int) := cnt_countP plan (fun q => decide (q = h + b))
    have e4 : H * ((b + 1 : Nat) : Int) = H * b + H := by rw [Int.natCast_succ, Int.mul_add, Int.mul_one]
    omega
theorem plan_hours {s : Sh} (hs : ShOk s) {plan : List Int} (h : planB s plan = true) (p : Int) (hp : 0 ≤ p) : ((plan.countP fun q => decide (q = p) : Nat) : Int) ≤ s.hands := by
  by_cases e : p ∈ plan
  · unfold planB at h
    rw [Bool.and_eq_true, List.all_eq_true] at h
    have h1 := h.2 p e
    rw [Bool.and_eq_true, decide_eq_true_eq] at h1
    have h2 := h1.2
    rw [manyL_pos hp] at h2
    exact h2
  · have : plan.countP (fun q => decide (q = p)) = 0 := by
      rw [List.countP_eq_zero]
      intro q hq
      simp only [decide_eq_true_eq]
      intro e2; exact e (e2 ▸ hq)
    rw [this]; exact hs.h0
def restS (s : Sh) (plan : List Int) (hour : Int) : Sh := withoutS (dryS s) (closedL plan hour plan.length)
def closedN (s : Sh) (plan : List Int) (hour : Int) : Int := wsum plan.length (fun i => chS s i) (fun i => savesB (at_ plan i) hour)
theorem mem_closed {plan : List Int} {hour : Int} {n i : Nat} (hi : i < n) : (i : Int) ∈ closedL plan hour n ↔ savesB (at_ plan i) hour = true := by
  unfold closedL
  simp only [List.mem_map, List.mem_filter, List.mem_range]
  constructor
  · rintro ⟨k, ⟨h1, h2⟩, h3⟩
    have : k = i := by omega
    rw [← this]; exact h2
  · intro h
    exact ⟨i, ⟨hi, h⟩, rfl⟩
theorem rest_len (s : Sh) (plan : List Int) (hour : Int) : (restS s plan hour).stacks.length = s.stacks.length := zeroS_len _ _
theorem rest_ok {s : Sh} (hs : ShOk s) {plan : List Int} (hl : plan.length = s.stacks.length) (hour : Int) : ShOk (restS s plan hour) := by
  refine without_ok (s := dryS s) ⟨hs.len, hs.h0, hs.h3, ⟨by simp [dryS], by simp [dryS], by simp [dryS]⟩, hs.st⟩ fun x hx => ?_
  have := closedL_mem hx
  rw [hl] at this
  exact this
theorem rest_at {s : Sh} {plan : List Int} (hl : plan.length = s.stacks.length) (hour : Int) {i : Nat} (hi : i < s.stacks.length) :
    spS (restS s plan hour) i = spS s i - s.rain.lo ∧ chS (restS s plan hour) i = if savesB (at_ plan i) hour = true then 0 else chS s i := by
  have e : (restS s plan hour).stacks = zeroS s.stacks (closedL plan hour plan.length) := rfl
  have e2 : (restS s plan hour).rain.lo = 0 := rfl
  have hz := zero_at (closedL plan hour plan.length) s.stacks (fun x hx => (closedL_mem hx).1) i hi
  simp only [mem_closed (show i < plan.length by omega)] at hz
  unfold spS chS
  rw [e, e2, Int.toNat_natCast, hz]
  split
  · exact ⟨by simp only; omega, rfl⟩
  · exact ⟨by omega, rfl⟩
theorem rains {s : Sh} (hs : ShOk s) {plan : List Int} (hp : planB s plan = true) {h : Int} (h1 : s.rain.lo ≤ h) : sureS s plan ≤ closedN s plan h + mostS (restS s plan h) := by
  obtain ⟨hl, hge⟩ := plan_ge hp
  have hr := hs.r
  have hx := rest_ok hs hl h
  have hF : FeasS (restS s plan h) (fun i => decide (h ≤ at_ plan i) && decide (at_ plan i < spS s i)) := fun b hb => by
    have hc := cnt_hours (plan_hours hs hp) (h := h) (by omega) b
    rw [rest_len]
    rw [hl] at hc
    refine Int.le_trans (cnt_mono fun i hi hq => ?_) hc
    simp only [(rest_at hl h hi).1, Bool.and_eq_true, decide_eq_true_eq] at hq ⊢
    omega
  have h2 := feas_le hx hF
  have e : weightS (restS s plan h) (fun i => decide (h ≤ at_ plan i) && decide (at_ plan i < spS s i)) = wsum s.stacks.length (fun i => chS s i) (fun i => decide (h ≤ at_ plan i) && decide (at_ plan i < spS s i)) := by
    unfold weightS
    rw [rest_len]
    refine wsum_congr (fun _ _ => rfl) fun i hi hq => ?_
    rw [(rest_at hl h hi).2, if_neg]
    unfold savesB
    simp only [Bool.and_eq_true, decide_eq_true_eq] at hq ⊢
    omega
  rw [e] at h2
  have h3 : sureS s plan ≤ closedN s plan h + wsum s.stacks.length (fun i => chS s i) (fun i => decide (h ≤ at_ plan i) && decide (at_ plan i < spS s i)) := by
    unfold sureS closedN
    rw [hl]
    have key : ∀ n, n ≤ s.stacks.length → wsum n (fun i => chS s i) (fun i => savesB (at_ plan i) (spS s i)) ≤ wsum n (fun i => chS s i) (fun i => savesB (at_ plan i) h) + wsum n (fun i => chS s i) (fun i => decide (h ≤ at_ plan i) && decide (at_ plan i < spS s i)) := by
      intro n
      induction n with
      | zero => intro _; simp [wsum]
      | succ n ih =>
        intro hn
        have h1 := ih (by omega)
        have hc := (hs.ch (i := n) (by omega)).1
        unfold wsum
        dsimp only
        by_cases c1 : savesB (at_ plan n) (spS s n) = true
        · rw [if_pos c1]
          by_cases c2 : savesB (at_ plan n) h = true
          · rw [if_pos c2]; split <;> omega
          · rw [if_neg c2, if_pos]
            · omega
            · unfold savesB at c1 c2
              simp only [Bool.and_eq_true, decide_eq_true_eq] at c1 c2 ⊢
              omega
        · rw [if_neg c1]
          split <;> split <;> omega
    exact key _ (Nat.le_refl _)
  omega
theorem closedN_bd {s : Sh} (hs : ShOk s) {plan : List Int} (hl : plan.length = s.stacks.length) (h : Int) : 0 ≤ closedN s plan h ∧ closedN s plan h ≤ 8 * 99 := by
  have := wsum_bd (n := plan.length) (f := fun i => chS s i) (m := 99) (fun i => savesB (at_ plan i) h) (by omega) (fun j hj => hs.ch (by omega))
  have h8 := hs.len
  unfold closedN
  omega
end Go.Proofs
namespace Go.Proofs
open Go.Fs
set_option linter.unusedSimpArgs false
set_option linter.unusedVariables false
set_option maxHeartbeats 4000000
set_option maxRecDepth 8000
theorem cnt_add (n m : Nat) (p : Nat → Bool) : cnt (n + m) p = cnt n p + cnt m (fun i => p (n + i)) := by
  induction m with
  | zero => simp [cnt]
  | succ m ih =>
    show cnt (n + m) p + (if p (n + m) = true then 1 else 0) = cnt n p + (cnt m (fun i => p (n + i)) + if p (n + m) = true then 1 else 0)
    rw [ih]; omega
theorem sumTo_two (m : Nat) (f : Nat → Int) : sumTo m (fun c => 2 * f c) = 2 * sumTo m f := by
  induction m with
  | zero => rfl
  | succ m ih =>
    show sumTo m (fun c => 2 * f c) + 2 * f m = 2 * (sumTo m f + f m)
    rw [ih]; omega
theorem least_ex (s : Sh) (c : Int) : ∃ b : Nat, b ≤ 18 ∧ ∀ k : Nat, k ≤ 18 → partS s c b ≤ partS s c k := by
  obtain ⟨⟨h1, h2⟩, h3⟩ := least_spec s c 19
  obtain ⟨b, hb⟩ := Int.eq_ofNat_of_zero_le h1
  exact ⟨b, by omega, fun k hk => by rw [← hb]; exact h3 k (by omega)⟩
theorem great_99 {s : Sh} (hs : ShOk s) : greatS s.stacks ≤ ((99 : Nat) : Int) := by
  have := (great_spec s.stacks (fun x hx => (hs.st x hx).1)).2.1
  omega
def lstP (s : Sh) (c : Nat) : Int := partS s ((c : Int) + 1) (leastS s ((c : Int) + 1) 19)
theorem lstP_spec (s : Sh) (c : Nat) : (∃ b : Nat, b ≤ 18 ∧ lstP s c = partS s ((c : Int) + 1) b) ∧ ∀ b : Nat, b ≤ 18 → lstP s c ≤ partS s ((c : Int) + 1) b := by
  obtain ⟨⟨h1, h2⟩, h3⟩ := least_spec s ((c : Int) + 1) 19
  obtain ⟨b, hb⟩ := Int.eq_ofNat_of_zero_le h1
  unfold lstP
  refine ⟨⟨b, by omega, by rw [hb]⟩, fun k hk => h3 k (by omega)⟩
theorem most_lst {s : Sh} (hs : ShOk s) : mostS s = sumTo 99 (lstP s) := most_parts hs 99 (great_99 hs) _ fun c _ => lstP_spec s c
def twiceS (x : Sh) : Sh := ⟨x.stacks ++ x.stacks, 2 * x.hands, x.rain⟩
theorem at_app_right {α : Type} [Inhabited α] (l r : List α) (i : Nat) : at_ (l ++ r) (l.length + i) = at_ r i := by
  simp [at_, List.getD, List.getElem?_append_right]
theorem twice_part (x : Sh) (c b : Int) : partS (twiceS x) c b = 2 * partS x c b := by
  have hlen : (twiceS x).stacks.length = x.stacks.length + x.stacks.length := by simp [twiceS]
  have e1 : ∀ i, i < x.stacks.length → (spS (twiceS x) i = spS x i ∧ chS (twiceS x) i = chS x i) := fun i hi => by
    unfold spS chS twiceS
    rw [Int.toNat_natCast]
    dsimp only
    rw [at_append_left hi]
    exact ⟨rfl, rfl⟩
  have e2 : ∀ i, (spS (twiceS x) (x.stacks.length + i : Nat) = spS x i ∧ chS (twiceS x) (x.stacks.length + i : Nat) = chS x i) := fun i => by
    unfold spS chS twiceS
    rw [Int.toNat_natCast, Int.toNat_natCast]
    dsimp only
    rw [at_app_right]
    exact ⟨rfl, rfl⟩
  unfold partS partN
  rw [hlen, cnt_add]
  rw [cnt_congr (p := fun i => decide (c ≤ chS (twiceS x) i) && decide (b < spS (twiceS x) i)) (q := fun i => decide (c ≤ chS x i) && decide (b < spS x i)) (fun i hi => by rw [(e1 i hi).1, (e1 i hi).2])]
  rw [cnt_congr (p := fun i => decide (c ≤ chS (twiceS x) (x.stacks.length + i : Nat)) && decide (b < spS (twiceS x) (x.stacks.length + i : Nat))) (q := fun i => decide (c ≤ chS x i) && decide (b < spS x i)) (fun i hi => by rw [(e2 i).1, (e2 i).2])]
  have e3 : (twiceS x).hands * b = 2 * (x.hands * b) := by show 2 * x.hands * b = _; rw [Int.mul_assoc]
  have e4 : ∀ a k : Int, 2 * a + (k + k) = 2 * (a + k) := fun a k => by omega
  rw [e3]
  exact e4 _ _
theorem twice_most {x : Sh} (hx : ShOk x) (hy : ShOk (twiceS x)) : mostS (twiceS x) = 2 * mostS x := by
  rw [most_lst hx, ← sumTo_two, most_parts hy 99 (great_99 hy) (fun c => 2 * lstP x c)]
  intro c _
  obtain ⟨⟨b, hb, e⟩, h2⟩ := lstP_spec x c
  refine ⟨⟨b, hb, by show 2 * lstP x c = _; rw [e, twice_part]⟩, fun k hk => ?_⟩
  show 2 * lstP x c ≤ _
  rw [twice_part]
  exact Int.mul_le_mul_of_nonneg_left (h2 k hk) (by omega)
def firstS (s : Sh) : Sh := ⟨s.stacks.take (min 4 s.stacks.length), min 1 s.hands, s.rain⟩
theorem first_ok {s : Sh} (hs : ShOk s) : ShOk (firstS s) ∧ ShOk (twiceS (firstS s)) := by
  have h0 := hs.h0
  have h3 := hs.h3
  have hl := hs.len
  have hm : ∀ x ∈ s.stacks.take (min 4 s.stacks.length), x ∈ s.stacks := fun x hx => List.mem_of_mem_take hx
  have hlen : (s.stacks.take (min 4 s.stacks.length)).length ≤ 4 := by rw [List.length_take]; omega
  refine ⟨⟨?_, ?_, ?_, hs.r, fun x hx => hs.st x (hm x hx)⟩, ⟨?_, ?_, ?_, hs.r, fun x hx => hs.st x (hm x ?_)⟩⟩
  · show (s.stacks.take (min 4 s.stacks.length)).length ≤ 8; omega
  · show 0 ≤ min 1 s.hands; omega
  · show min 1 s.hands ≤ 3; omega
  · show (s.stacks.take (min 4 s.stacks.length) ++ s.stacks.take (min 4 s.stacks.length)).length ≤ 8; rw [List.length_append]; omega
  · show 0 ≤ 2 * min 1 s.hands; omega
  · show 2 * min 1 s.hands ≤ 3; omega
  · have hx : x ∈ s.stacks.take (min 4 s.stacks.length) ++ s.stacks.take (min 4 s.stacks.length) := hx
    rcases List.mem_append.1 hx with q | q <;> exact q
theorem most_of_parts {s x : Sh} (hs : ShOk s) (hx : ShOk x) (h : ∀ c b : Int, partS x c b = partS s c b) : mostS x = mostS s := by
  rw [most_lst hs]
  refine most_parts hx 99 (great_99 hx) _ fun c _ => ?_
  simp only [h]
  exact lstP_spec s c
theorem cnt_drop {n a : Nat} (p : Nat → Bool) (ha : a < n) : cnt n p = cnt n (fun i => p i && !decide (i = a)) + if p a = true then 1 else 0 := by
  rw [cnt_split n p (fun i => decide (i = a))]
  have e : cnt n (fun i => p i && decide (i = a)) = if p a = true then 1 else 0 := by
    induction n with
    | zero => omega
    | succ n ih =>
      show cnt n _ + (if (p n && decide (n = a)) = true then 1 else 0) = _
      by_cases q : a = n
      · subst q
        rw [cnt_zero fun i hi => by rw [Bool.and_eq_false_iff, decide_eq_false_iff_not]; omega]
        simp
      · rw [ih (by omega)]
        have : decide (n = a) = false := by simp; omega
        rw [this]
        simp
  omega
theorem cnt_swap {n a b : Nat} {p q : Nat → Bool} (ha : a < n) (hb : b < n) (h1 : q a = p b) (h2 : q b = p a) (h : ∀ i, i ≠ a → i ≠ b → q i = p i) : cnt n q = cnt n p := by
  by_cases e : a = b
  · subst e
    refine cnt_congr fun i hi => ?_
    by_cases e : i = a
    · subst e; exact h1
    · exact h i e e
  · rw [cnt_drop q ha, cnt_drop p ha, cnt_drop (fun i => q i && !decide (i = a)) hb, cnt_drop (fun i => p i && !decide (i = a)) hb, h1, h2]
    have e1 : decide (b = a) = false := by simp; omega
    rw [e1]
    simp only [Bool.not_false, Bool.and_true]
    rw [cnt_congr (p := fun i => (q i && !decide (i = a)) && !decide (i = b)) (q := fun i => (p i && !decide (i = a)) && !decide (i = b)) fun i hi => ?_]
    · omega
    · by_cases q1 : i = a
      · simp [q1]
      · by_cases q2 : i = b
        · simp [q2]
        · rw [h i q1 q2]
def swapL (l : List Sk) (a b : Nat) : List Sk := (l.set a (at_ l b)).set b (at_ l a)
def swapS (s : Sh) (a b : Nat) : Sh := ⟨swapL s.stacks a b, s.hands, s.rain⟩
theorem swapL_len (l : List Sk) (a b : Nat) : (swapL l a b).length = l.length := by simp [swapL]
theorem swapL_at {l : List Sk} {a b i : Nat} (hi : i < l.length) : at_ (swapL l a b) i = if i = b then at_ l a else if i = a then at_ l b else at_ l i := by
  unfold swapL
  rw [at_set_eq' (by simpa using hi), at_set_eq' hi]
  simp only [eq_comm (a := i)]
theorem swap_ok {s : Sh} (hs : ShOk s) {a b : Nat} (ha : a < s.stacks.length) (hb : b < s.stacks.length) : ShOk (swapS s a b) := by
  refine ⟨by show (swapL s.stacks a b).length ≤ 8; rw [swapL_len]; exact hs.len, hs.h0, hs.h3, hs.r, fun x hx => ?_⟩
  have hx : x ∈ swapL s.stacks a b := hx
  obtain ⟨i, hi, rfl⟩ := mem_at hx
  rw [swapL_len] at hi
  rw [swapL_at hi]
  split
  · exact hs.st _ (at_mem ha)
  · split
    · exact hs.st _ (at_mem hb)
    · exact hs.st _ (at_mem hi)
theorem swap_part (s : Sh) {a b : Nat} (ha : a < s.stacks.length) (hb : b < s.stacks.length) (c k : Int) : partS (swapS s a b) c k = partS s c k := by
  have hl : (swapS s a b).stacks.length = s.stacks.length := swapL_len _ _ _
  have e : ∀ i, i < s.stacks.length → at_ (swapS s a b).stacks i = if i = b then at_ s.stacks a else if i = a then at_ s.stacks b else at_ s.stacks i := fun i hi => swapL_at hi
  unfold partS partN
  rw [hl]
  congr 1
  rw [cnt_congr (q := fun i => if i < s.stacks.length then decide (c ≤ chS (swapS s a b) i) && decide (k < spS (swapS s a b) i) else decide (c ≤ chS s i) && decide (k < spS s i)) fun i hi => by rw [if_pos hi]]
  have eC : ∀ (i j : Nat), at_ (swapS s a b).stacks i = at_ s.stacks j → chS (swapS s a b) i = chS s j ∧ spS (swapS s a b) i = spS s j := fun i j h => by
    have hr : (swapS s a b).rain = s.rain := rfl
    unfold chS spS
    rw [Int.toNat_natCast, Int.toNat_natCast, h, hr]
    exact ⟨rfl, rfl⟩
  refine cnt_swap ha hb ?_ ?_ fun i h1 h2 => ?_
  · have h := e a ha
    have : at_ (swapS s a b).stacks a = at_ s.stacks b := by
      rw [h]
      by_cases q : a = b
      · rw [if_pos q, q]
      · rw [if_neg q, if_pos rfl]
    obtain ⟨q1, q2⟩ := eC _ _ this
    dsimp only
    rw [if_pos ha, q1, q2]
  · have h := e b hb
    rw [if_pos rfl] at h
    obtain ⟨q1, q2⟩ := eC _ _ h
    dsimp only
    rw [if_pos hb, q1, q2]
  · dsimp only
    split
    · rename_i hi
      have h := e i hi
      rw [if_neg h2, if_neg h1] at h
      obtain ⟨q1, q2⟩ := eC _ _ h
      rw [q1, q2]
    · rfl
theorem swap_most {s : Sh} (hs : ShOk s) {a b : Nat} (ha : a < s.stacks.length) (hb : b < s.stacks.length) : mostS (swapS s a b) = mostS s :=
  most_of_parts hs (swap_ok hs ha hb) (swap_part s ha hb)
theorem ext_at {l r : List Sk} (hl : l.length = r.length) (h : ∀ i, i < l.length → at_ l i = at_ r i) : l = r := by
  refine List.ext_getElem hl fun i h1 h2 => ?_
  have := h i h1
  rwa [at_get h1, at_get h2] at this
theorem swap_without (s : Sh) {a b : Nat} (ha : a < s.stacks.length) (hb : b < s.stacks.length) : withoutS (swapS s a b) [(b : Int)] = swapS (withoutS s [(a : Int)]) a b := by
  have e1 : (withoutS (swapS s a b) [(b : Int)]) = ⟨(swapL s.stacks a b).set b ⟨0, (at_ (swapL s.stacks a b) b).leak⟩, s.hands, s.rain⟩ := rfl
  have e2 : swapS (withoutS s [(a : Int)]) a b = ⟨swapL (s.stacks.set a ⟨0, (at_ s.stacks a).leak⟩) a b, s.hands, s.rain⟩ := rfl
  rw [e1, e2]
  congr 1
  refine ext_at (by simp [swapL_len]) fun i hi => ?_
  simp only [List.length_set, swapL_len] at hi
  rw [at_set_eq' (by simpa [swapL_len] using hi), swapL_at hi, swapL_at hb, swapL_at (l := s.stacks.set a _) (by simpa using hi), if_pos rfl, at_set_eq' ha, at_set_eq' hb, at_set_eq' hi, if_pos rfl]
  by_cases q : b = i
  · subst q; simp
  · have q' : ¬ i = b := fun e => q e.symm
    rw [if_neg q, if_neg q', if_neg q']
    by_cases q2 : a = i
    · subst q2
      rw [if_pos rfl, if_pos rfl]
      have : ¬ a = b := q'
      rw [if_neg this]
    · have q2' : ¬ i = a := fun e => q2 e.symm
      rw [if_neg q2', if_neg q2', if_neg q2]
theorem swap_worth {s : Sh} (hs : ShOk s) {a b : Nat} (ha : a < s.stacks.length) (hb : b < s.stacks.length) : worthS (swapS s a b) b = worthS s a := by
  unfold worthS
  rw [swap_most hs ha hb, swap_without s ha hb, swap_most (drop_ok hs ha) (by rw [drop_len]; exact ha) (by rw [drop_len]; exact hb)]
end Go.Proofs
namespace Go.Proofs
open Go.Fs
set_option linter.unusedVariables false
set_option linter.constructorNameAsVariable false
set_option maxRecDepth 100000
instance : EncE Rg where
  cs m := [.int .i64 m.lo, .int .i64 m.hi]
  dcs
    | [.int .i64 a, .int .i64 b] => some ⟨a, b⟩
    | _ => none
  law v x h := by
    split at h
    · cases h; rfl
    · cases h
  inv _ := rfl
  dep := 1
  sz := 2
  len _ := rfl
  ok x := by simp [pureN]
theorem cells_int : Try.prog.cellsOf 3 = 1 := by kernel_rfl
theorem rdE_int' : RdE Try.prog 3 Int (InR .i64) := rdE_int Try.underlying3 cells_int
def RgIn (r : Rg) : Prop := InR .i64 r.lo ∧ InR .i64 r.hi
def SkIn (m : Sk) : Prop := InR .i64 m.chairs ∧ RgIn m.leak
theorem trod_one {H : Type} {enc : TypeId × Value → H} {w : World} {base : Nat} {spare : Nat → Bool} {held : Bool} {n : Nat} {c : Value} {y : DataW H × List MemPlace}
    (h : DataW.trod enc Try.prog w base spare held n 3 [c] = some y) : ∃ a, c = .int .i64 a ∧ InR .i64 a := by
  obtain ⟨a, e, _, hw⟩ := DataW.trod_int Try.underlying3 h
  simp only [List.cons.injEq, and_true] at e
  exact ⟨a, e, inR_of_wf hw⟩
theorem rdE_rg : RdE Try.prog 24 Rg RgIn :=
  ⟨by kernel_rfl, fun enc w base spare held fuel cs x h => by
    obtain ⟨hl, xs, _, _, hf⟩ := rd_field Try.underlying24 h
    have hl : cs.length = 2 := hl.trans (by kernel_rfl)
    match cs, hl with
    | [c0, c1], _ =>
      obtain ⟨n0, y0, _, h0⟩ := hf 0 _ rfl
      obtain ⟨n1, y1, _, h1⟩ := hf 1 _ rfl
      simp only [cells_int, List.getElem_toArray, List.getElem_cons_zero, List.getElem_cons_succ, List.drop_zero, List.drop_succ_cons, List.take_succ_cons, List.take_zero] at h0 h1
      obtain ⟨a, rfl, ha⟩ := trod_one h0
      obtain ⟨b, rfl, hb⟩ := trod_one h1
      refine ⟨⟨a, b⟩, ⟨ha, hb⟩, rfl, fun i hi => ?_⟩
      match i, hi with
      | 0, _ => exact .int _ _
      | 1, _ => exact .int _ _⟩
theorem cells_rg : Try.prog.cellsOf 24 = 2 := by kernel_rfl
theorem rdE_sk : RdE Try.prog 34 Sk SkIn :=
  ⟨by kernel_rfl, fun enc w base spare held fuel cs x h => by
    obtain ⟨hl, xs, _, _, hf⟩ := rd_field Try.underlying34 h
    have hl : cs.length = 3 := hl.trans (by kernel_rfl)
    match cs, hl with
    | [c0, c2, c3], _ =>
      obtain ⟨n0, y0, _, h0⟩ := hf 0 _ rfl
      obtain ⟨n2, y2, _, h2⟩ := hf 1 _ rfl
      simp only [cells_int, cells_rg, List.getElem_toArray, List.getElem_cons_zero, List.getElem_cons_succ, List.drop_zero, List.drop_succ_cons, List.take_succ_cons, List.take_zero] at h0 h2
      obtain ⟨a, rfl, ha⟩ := trod_one h0
      obtain ⟨r, hr, hr2⟩ := rdE_rg.rd _ _ _ _ _ _ _ _ h2
      have e2 := hr2.2 0 (by show 0 < 2; omega)
      have e3 := hr2.2 1 (by show 1 < 2; omega)
      have e2' := Rep.int_inv (k := .i64) (n := r.lo) e2
      have e3' := Rep.int_inv (k := .i64) (n := r.hi) e3
      simp at e2' e3'
      subst e2' e3'
      refine ⟨⟨a, r⟩, ⟨ha, hr⟩, rfl, fun i hi => ?_⟩
      match i, hi with
      | 0, _ => exact .int _ _
      | 1, _ => exact .int _ _
      | 2, _ => exact .int _ _⟩
theorem cells_sl1 : Try.prog.cellsOf 22 = 1 := by kernel_rfl
theorem cells_sl2 : Try.prog.cellsOf 30 = 1 := by kernel_rfl
theorem bytes_1 : Try.prog.bytesOf 34 = 24 := by kernel_rfl
theorem bytes_2 : Try.prog.bytesOf 3 = 8 := by kernel_rfl
structure ShIn (s : Sh) : Prop where
  st : ∀ k ∈ s.stacks, SkIn k
  hands : InR .i64 s.hands
  rain : RgIn s.rain
  len : s.stacks.length * 24 ≤ reachBytes
structure TrIn (s : Tr) : Prop where
  rain : InR .i64 s.rain
  leaks : ∀ k ∈ s.leaks, InR .i64 k
  len : s.leaks.length * 8 ≤ reachBytes
theorem rdV_sh : RdV Try.prog 26 Sh ShIn := fun enc w base v d ps hv ⟨fuel, h⟩ hw => by
  obtain ⟨cs, rfl, hsz, hrow⟩ := okWide_row Try.underlying26 hv
  have hsz : cs.size = 4 := hsz.trans (by kernel_rfl)
  obtain ⟨hl, xs, hx, _, hf⟩ := rd_field Try.underlying26 h
  obtain ⟨l⟩ := cs
  match l, hsz with
  | [c0, c1, c2, c3], _ =>
    obtain ⟨n0, y0, q0, h0⟩ := hf 0 _ rfl
    obtain ⟨n1, y1, _, h1⟩ := hf 1 _ rfl
    obtain ⟨n2, y2, _, h2⟩ := hf 2 _ rfl
    simp only [Value.cells, cells_int, cells_sl1, cells_rg, List.getElem_toArray, List.getElem_cons_zero, List.getElem_cons_succ, List.drop_zero, List.drop_succ_cons, List.take_succ_cons, List.take_zero] at h0 h1 h2
    have hwt : (y0.1.weights Try.prog 22).all (· ≤ reachBytes) = true := by
      rw [List.all_eq_true] at hw ⊢
      intro n hn
      apply hw
      simp only at hx
      rw [hx]
      simp only [DataW.weights, Try.underlying26]
      exact DataW.weights_mem_each (ts := [22, 3, 24]) (j := 0) rfl (by rw [List.getElem?_map, q0]; rfl) n hn
    obtain ⟨b, rfl, hb⟩ := trod_one h1
    obtain ⟨lh, g1, g2, g3⟩ := rd_slice rdE_sk Try.underlying22 h0 (fun a l c e => rowOk_spot hrow (i := 0) (by rw [e]; rfl))
    have r1 := g3 reachBytes hwt
    rw [bytes_1] at r1
    obtain ⟨r, hr, hr2⟩ := rdE_rg.rd _ _ _ _ _ _ _ _ h2
    have e2 := hr2.2 0 (by show 0 < 2; omega)
    have e3 := hr2.2 1 (by show 1 < 2; omega)
    have e2' := Rep.int_inv (k := .i64) (n := r.lo) e2
    have e3' := Rep.int_inv (k := .i64) (n := r.hi) e3
    simp at e2' e3'
    subst e2' e3'
    refine ⟨⟨lh, b, r⟩, ⟨g1, hb, hr, r1⟩, .agg _ _ rfl fun i hi => ?_⟩
    match i, hi with
    | 0, _ => exact g2
    | 1, _ => exact .int _ _
    | 2, _ => exact .int _ _
    | 3, _ => exact .int _ _
theorem rdV_sk : RdV Try.prog 34 Sk SkIn := fun enc w base v d ps hv ⟨fuel, h⟩ hw => by
  obtain ⟨cs, rfl, hsz, hrow⟩ := okWide_row Try.underlying34 hv
  have hsz : cs.size = 3 := hsz.trans (by kernel_rfl)
  obtain ⟨y, h1, h2, h3⟩ := rdE_sk.rd _ _ _ _ _ _ _ _ h
  refine ⟨y, h1, .agg _ _ hsz fun i hi => ?_⟩
  have := h3 i hi
  simpa [Value.cells, cs_sk] using this
theorem own : ownKnob Try.prog.godebug = none := by kernel_rfl
theorem laidOut : laidOutB Try.prog = true := by kernel_rfl
end Go.Proofs
namespace Go.Proofs
open Go.Fs
set_option linter.unusedSimpArgs false
set_option linter.unusedVariables false
set_option maxHeartbeats 1000000
set_option maxRecDepth 8000
theorem one_yld (a) : (AV.yld a).one = true := rfl
theorem one_arr (a b c d) : (AV.arr a b c d).one = true := rfl
theorem one_vec (a b c d e) : (AV.vec a b c d e).one = true := rfl
theorem one_vp (a b c d) : (AV.vp a b c d).one = true := rfl
attribute [go_sem] one_yld one_arr one_vec one_vp
theorem vc_assoc {P : Program} {Φ : Specs} {a b c : Code} {Q : QA} {st : St} : vc P Φ (.seq (.seq a b) c) Q st = vc P Φ (.seq a (.seq b c)) Q st := by
  simp only [vc]
  have : (thenA (vc P Φ b (thenA (vc P Φ c Q) Q)) (thenA (vc P Φ c Q) Q)) = thenA (vc P Φ b (thenA (vc P Φ c Q) Q)) Q := by
    funext e st
    cases e <;> rfl
  rw [this]
end Go.Proofs
