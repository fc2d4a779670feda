/- The texts S30, S31, M4, M5, M6, M7, M8, R1, joined. -/
import Derived.Test.YtcbicheohgdlmaaGreatG13
import Derived.Test.YtcbicheohgdlmaaGreatG7
import Derived.Test.YtcbicheohgdlmaaGreatG6
import Derived.Test.YtcbicheohgdlmaaGreatRows
set_option linter.all false
namespace Go.Proofs
open Go.Fs
set_option linter.unusedSimpArgs false
set_option linter.unusedVariables false
set_option maxHeartbeats 4000000
set_option maxRecDepth 8000
theorem saves_sav {c : Int} (h : -1 ≤ c) (w : Int) : savesB c w = savP c w := by
  unfold savesB savP
  congr 1
  rw [decide_eq_decide]
  omega
theorem fold_nextW (c : Int) : ∀ (W : List Int) (a : Bool × Bool), W.foldl (nextW c) a = (a.1 || W.any (savesB c), a.2 || W.any (fun w => !savesB c w))
  | [], a => by simp
  | w :: W, a => by
    rw [List.foldl_cons, fold_nextW c W]
    simp [nextW, Bool.or_assoc]
theorem water_ne {s : Sh} (hs : ShOk s) {i : Nat} (hi : i < s.stacks.length) : waterL s i ≠ [] := by
  have hr := hs.r
  have hst := (hs.st _ (at_mem hi)).2
  intro e
  have := waterN_len (at_ s.stacks i).leak s.rain.lo (szR s.rain)
  have h2 : waterN (at_ s.stacks i).leak s.rain.lo (szR s.rain) = [] := e
  rw [h2] at this
  have h3 : 0 < szR s.rain * szR (at_ s.stacks i).leak := Nat.mul_pos (by unfold szR; omega) (by unfold szR; omega)
  simp at this
  unfold szR at this h3
  omega
theorem verdict_eq {s : Sh} (hs : ShOk s) {plan : List Int} {i : Nat} (hi : i < s.stacks.length) (hc : -1 ≤ at_ plan i) : verdictW s plan i = verdictR s plan i := by
  unfold verdictW verdictR
  rw [Int.toNat_natCast]
  have hne := water_ne hs hi
  obtain ⟨W, hW⟩ : ∃ W, waterL s i = W := ⟨_, rfl⟩
  obtain ⟨c, hce⟩ : ∃ c, at_ plan i = c := ⟨_, rfl⟩
  rw [hW] at hne
  rw [hce] at hc
  rw [hW, hce, fold_nextW]
  have hsv : savesB c = savP c := funext fun w => saves_sav hc w
  rw [hsv]
  simp only [Bool.false_or]
  have h1 : (W.any (fun w => !savP c w) = false) ↔ W.countP (savP c) = W.length := by
    rw [List.countP_eq_length, List.any_eq_false]
    simp
  have h2 : (W.any (savP c) = false) ↔ W.countP (savP c) = 0 := by
    rw [List.countP_eq_zero, List.any_eq_false]
  simp only [h1, h2]
theorem manyL_neg {plan : List Int} {p : Int} (h : p < 0) : manyL plan p = 0 := by
  unfold manyL
  rw [List.countP_eq_zero]
  intro q _
  simp only [Bool.and_eq_true, decide_eq_true_eq]
  omega
theorem manyL_pos {plan : List Int} {p : Int} (h : 0 ≤ p) : manyL plan p = plan.countP fun q => decide (q = p) := by
  unfold manyL
  refine List.countP_congr fun q _ => ?_
  simp only [Bool.and_eq_true, decide_eq_true_eq]
  omega
theorem busy_plan {s : Sh} (hs : ShOk s) (plan : List Int) : (busyQ s plan).2 = planB s plan := by
  have h0 := hs.h0
  unfold busyQ planB
  by_cases c1 : plan.length = s.stacks.length
  · rw [if_neg (by simpa using c1)]
    by_cases c2 : (plan.all fun p => inB p (-1) 17) = true
    · rw [if_pos c2]
      simp only [c1, decide_true, Bool.true_and]
      rw [Bool.eq_iff_iff, List.all_eq_true, List.all_eq_true]
      constructor
      · intro h p hp
        have hb := (inB_iff _ _ _).1 (List.all_eq_true.1 c2 p hp)
        rw [List.all_eq_true.1 c2 p hp, Bool.true_and, decide_eq_true_eq]
        by_cases e : p < 0
        · rw [manyL_neg e]; simpa using h0
        · obtain ⟨k, rfl⟩ := Int.eq_ofNat_of_zero_le (show 0 ≤ p by omega)
          rw [manyL_pos (by omega)]
          have h1 := h _ (at_mem (l := hcnt plan) (i := k) (by rw [hcnt_len]; omega))
          rw [hcnt_at _ (by omega)] at h1
          simpa using h1
      · intro h n hn
        obtain ⟨k, hk, rfl⟩ := mem_at hn
        rw [hcnt_len] at hk
        rw [hcnt_at _ hk, decide_eq_true_eq]
        by_cases e : (k : Int) ∈ plan
        · have h1 := h _ e
          simp only [Bool.and_eq_true, decide_eq_true_eq] at h1
          rw [manyL_pos (by omega)] at h1
          exact h1.2
        · have : plan.countP (fun q => decide (q = (k : Int))) = 0 := by
            rw [List.countP_eq_zero]
            intro q hq
            simp only [decide_eq_true_eq]
            intro e2; exact e (e2 ▸ hq)
          rw [this]; simpa using h0
    · rw [if_neg c2]
      have c2' : (plan.all fun p => inB p (-1) 17) = false := by simpa using c2
      show false = _
      symm
      rw [Bool.and_eq_false_iff]
      right
      rw [List.all_eq_false] at c2' ⊢
      obtain ⟨p, hp, hq⟩ := c2'
      exact ⟨p, hp, fun e => hq (by simp only [Bool.and_eq_true] at e; exact e.1)⟩
  · rw [if_pos (by simpa using c1)]
    simp [c1]
theorem plan_ge {s : Sh} {plan : List Int} (h : planB s plan = true) : plan.length = s.stacks.length ∧ ∀ x ∈ plan, -1 ≤ x ∧ x ≤ 17 := by
  unfold planB at h
  simp only [Bool.and_eq_true, decide_eq_true_eq, List.all_eq_true] at h
  exact ⟨h.1, fun x hx => (inB_iff _ _ _).1 (h.2 x hx).1⟩
theorem planned_eq {s : Sh} (hs : ShOk s) (plan : List Int) : plannedQ s plan = if planB s plan = true then 0 else 2 := by
  unfold plannedQ
  rw [if_neg (by rw [ok_fault hs]; simp), busy_plan hs]
def wordL (ws : List (Uk .u16)) (n : Int) : Int := if ws = [] then 0 else (at_ ws (n % (ws.length : Int)).toNat).n
def WsOk (ws : List (Uk .u16)) : Prop := ∀ u ∈ ws, InR .u16 u.n
theorem wordL_bd {ws : List (Uk .u16)} (h : WsOk ws) (n : Int) : 0 ≤ wordL ws n ∧ wordL ws n ≤ 65535 := by
  unfold wordL
  split
  · omega
  · rename_i hne
    have hl : 0 < ws.length := by
      cases ws with
      | nil => exact absurd rfl hne
      | cons _ _ => simp
    have h1 := Int.emod_nonneg n (show (ws.length : Int) ≠ 0 by omega)
    have h2 := Int.emod_lt_of_pos n (show (0 : Int) < ws.length by omega)
    exact h _ (at_mem (by omega))
def P47 : Specs := addSpec 16 (spec1 (fun s : Sh => ShOk s) mostS) (P46)
theorem P47_app (g : FuncId) : P47 g = (addSpec 16 (spec1 (fun s : Sh => ShOk s) mostS) (P46)) g := rfl
theorem P47_ok : SpecsOk Tryz.prog P47 := addSpec_ok (spec1_ok Most_call) (P46_ok)
attribute [go_sem] P47_app
theorem P47_flag (d : Option Nat) : flagOf P47 d = none := (flagOf_add (by decide) d).trans (P46_flag d)
attribute [go_sem] P47_flag
theorem word_call (ws : List (Uk .u16)) (n : Int) (h : WsOk ws ∧ 0 ≤ n) : CallP Tryz.prog 51 [Enc.enc ws, Enc.enc n] (· = Enc.enc (wordL ws n)) := by
  have hb := wordL_bd h.1 n
  have hn := h.2
  unfold wordL at hb ⊢
  by_cases c : ws = []
  · rw [if_pos c]
    have c' : decide ((ws.length : Int) = 0) = true := by rw [c]; rfl
    simp only [enc_fnl, enc_fnb, enc_fnc, enc_refc, enc_arr, enc_int, enc_bool, enc_list, enc_sk, enc_sp, enc_rg, enc_sh, enc_tr, enc_refs, enc_fns, enc_wks]
    refine callP_of_vc (Φ := P47) Tryz.func51 rfl (by rfl) (by rw [Tryz.ntmps51]; simp) mixed P47_ok (by simp [AV.strip, AV.strip1, Tk.strip]) ?_
    rw [Tryz.ntmps51]
    simp only [Tryz.f51, startSt, tmFrom]
    simp (maxSteps := 4000000) only [go_sem, AV.one, drawV, intsOf, keyIdx, over, putO, memAt, List.map_cons, List.length_cons, ↓reduceIte, zdrop, one_i, one_b, one_sl, one_ptr, one_ref, one_nilp, one_mp, one_fn, one_nilf, dep_uk, c']
  · have hl : 0 < ws.length := by
      cases ws with
      | nil => exact absurd rfl c
      | cons _ _ => simp
    rw [if_neg c] at hb ⊢
    have c' : decide ((ws.length : Int) = 0) = false := by rw [decide_eq_false_iff_not]; omega
    have h1 := Int.emod_nonneg n (show (ws.length : Int) ≠ 0 by omega)
    have h2 := Int.emod_lt_of_pos n (show (0 : Int) < ws.length by omega)
    obtain ⟨k, ek⟩ := Int.eq_ofNat_of_zero_le h1
    rw [ek] at h2 hb ⊢
    have hg : (ws.map EncE.cs).getD k [] = [AV.int .u16 (at_ ws k).n] := by rw [getD_mapA (by omega)]; rfl
    rw [Int.toNat_natCast] at hb ⊢
    simp only [enc_fnl, enc_fnb, enc_fnc, enc_refc, enc_arr, enc_int, enc_bool, enc_list, enc_sk, enc_sp, enc_rg, enc_sh, enc_tr, enc_refs, enc_fns, enc_wks]
    refine callP_of_vc (Φ := P47) Tryz.func51 rfl (by rfl) (by rw [Tryz.ntmps51]; simp) mixed P47_ok (by simp [AV.strip, AV.strip1, Tk.strip]) ?_
    rw [Tryz.ntmps51]
    simp only [Tryz.f51, startSt, tmFrom]
    simp (maxSteps := 4000000) only [go_sem, AV.one, drawV, intsOf, keyIdx, over, putO, memAt, List.map_cons, List.length_cons, ↓reduceIte, zdrop, one_i, one_b, one_sl, one_ptr, one_ref, one_nilp, one_mp, one_fn, one_nilf, dep_uk, c', ek, hg]
    all_goals (repeat' (first | with_reducible rfl | with_reducible apply And.intro | ((with_reducible show drawOK _ _ = true); rfl))) <;> (try first | omega | (simp only [InR]; omega) | with_reducible assumption)
def P48 : Specs := addSpec 51 (spec2 (fun (ws : List (Uk .u16)) (n : Int) => WsOk ws ∧ 0 ≤ n) wordL) (P47)
theorem P48_app (g : FuncId) : P48 g = (addSpec 51 (spec2 (fun (ws : List (Uk .u16)) (n : Int) => WsOk ws ∧ 0 ≤ n) wordL) (P47)) g := rfl
theorem P48_ok : SpecsOk Tryz.prog P48 := addSpec_ok (spec2_ok word_call) (P47_ok)
attribute [go_sem] P48_app
theorem P48_flag (d : Option Nat) : flagOf P48 d = none := (flagOf_add (by decide) d).trans (P47_flag d)
attribute [go_sem] P48_flag
def hourW (s : Sh) (ws : List (Uk .u16)) (i : Nat) : Int := wordL ws i / 8 % (spS s i + 3) - 1
def closeW (s : Sh) (out : List Int) (h : Int) : Int := if 17 < h ∨ s.hands ≤ out.countP (fun q => decide (q = h)) then -1 else h
def planW (s : Sh) (ws : List (Uk .u16)) : Nat → List Int
  | 0 => []
  | i + 1 => planW s ws i ++ [closeW s (planW s ws i) (hourW s ws i)]
theorem planW_len (s : Sh) (ws : List (Uk .u16)) : ∀ n, (planW s ws n).length = n
  | 0 => rfl
  | n + 1 => by unfold planW; rw [List.length_append, planW_len s ws n]; rfl
theorem hourW_bd {s : Sh} (hs : ShOk s) {ws : List (Uk .u16)} (hw : WsOk ws) {i : Nat} (hi : i < s.stacks.length) : (0 ≤ wordL ws i / 8 ∧ wordL ws i / 8 ≤ 65535) ∧ -1 ≤ hourW s ws i ∧ hourW s ws i ≤ 19 := by
  have h1 := wordL_bd hw i
  have h2 := hs.sp hi
  have h3 := Int.emod_nonneg (wordL ws i / 8) (show spS s i + 3 ≠ 0 by omega)
  have h4 := Int.emod_lt_of_pos (wordL ws i / 8) (show 0 < spS s i + 3 by omega)
  unfold hourW
  omega
theorem planW_ok {s : Sh} (hs : ShOk s) {ws : List (Uk .u16)} (hw : WsOk ws) : ∀ n, n ≤ s.stacks.length → (∀ x ∈ planW s ws n, -1 ≤ x ∧ x ≤ 17) ∧ ∀ p : Int, 0 ≤ p → ((planW s ws n).countP fun q => decide (q = p) : Nat) ≤ s.hands
  | 0, _ => ⟨fun x hx => (by cases hx), fun p _ => by simpa [planW] using hs.h0⟩
  | n + 1, hn => by
    obtain ⟨h1, h2⟩ := planW_ok hs hw n (by omega)
    have hb := (hourW_bd hs hw (show n < s.stacks.length by omega)).2
    unfold planW closeW
    obtain ⟨h, hh⟩ : ∃ h, hourW s ws n = h := ⟨_, rfl⟩
    rw [hh] at hb
    rw [hh]
    by_cases c : 17 < h ∨ s.hands ≤ (planW s ws n).countP (fun q => decide (q = h))
    · rw [if_pos c]
      refine ⟨fun x hx => ?_, fun p hp => ?_⟩
      · rcases List.mem_append.1 hx with q | q
        · exact h1 x q
        · simp only [List.mem_singleton] at q
          omega
      · rw [List.countP_append, List.countP_singleton, if_neg (by simp only [decide_eq_true_eq]; omega), Nat.add_zero]
        exact h2 p hp
    · rw [if_neg c]
      refine ⟨fun x hx => ?_, fun p hp => ?_⟩
      · rcases List.mem_append.1 hx with q | q
        · exact h1 x q
        · simp only [List.mem_singleton] at q
          omega
      · rw [List.countP_append, List.countP_singleton]
        have h3 := h2 p hp
        by_cases e : h = p
        · subst e
          rw [if_pos (by simp)]
          omega
        · rw [if_neg (by simpa using e), Nat.add_zero]
          exact h3
theorem planW_plan {s : Sh} (hs : ShOk s) {ws : List (Uk .u16)} (hw : WsOk ws) : planB s (planW s ws s.stacks.length) = true := by
  obtain ⟨h1, h2⟩ := planW_ok hs hw _ (Nat.le_refl _)
  unfold planB
  simp only [Bool.and_eq_true, decide_eq_true_eq, List.all_eq_true, planW_len, true_and]
  intro p hp
  refine ⟨(inB_iff _ _ _).2 (h1 p hp), ?_⟩
  by_cases e : p < 0
  · rw [manyL_neg e]; simpa using hs.h0
  · rw [manyL_pos (by omega)]; exact h2 p (by omega)
theorem Planned_call (s : Sh) (ws : List (Uk .u16)) (h : ShOk s ∧ WsOk ws) : CallP Tryz.prog 20 [Enc.enc s, Enc.enc ws] (· = Enc.enc (planW s ws s.stacks.length)) := by
  obtain ⟨hs, hw⟩ := h
  have h8 := hs.len
  simp only [enc_fnl, enc_fnb, enc_fnc, enc_refc, enc_arr, enc_int, enc_bool, enc_list, enc_sk, enc_sp, enc_rg, enc_sh, enc_tr, enc_refs, enc_fns, enc_wks]
  refine callP_of_vc (Φ := P48) Tryz.func20 rfl (by rfl) (by rw [Tryz.ntmps20]; simp) mixed P48_ok (by simp [AV.strip, AV.strip1, Tk.strip]) ?_
  rw [Tryz.ntmps20]
  simp only [Tryz.f20, startSt, tmFrom]
  simp (maxSteps := 4000000) only [go_sem, AV.one, drawV, intsOf, keyIdx, over, putO, memAt, List.map_cons, List.length_cons, ↓reduceIte, zdrop, one_i, one_b, one_sl, one_ptr, one_ref, one_nilp, one_mp, one_fn, one_nilf, dep_uk]
  all_goals (repeat' (first | with_reducible rfl | with_reducible apply And.intro | ((with_reducible show drawOK _ _ = true); rfl))) <;> (try first | omega | (simp only [InR]; omega) | with_reducible assumption)
  refine loopN (s.stacks.length) [.slot 5 1] [1, 2, 4] (fun i => [(6, .int .i64 i), (5, .sl ((planW s ws i).map EncE.cs) (.own 1))]) (fun i m => m.set 1 (.tok i 1)) (fun _ => True) ?_ ?_ ?_ ?_
  · trivial
  · simp [AV.bare, bel_ints, cs_arr, dep_arr, cs_int, cs_bool, cs_list, cs_sk, cs_sp, AtHead, Same, AllO, Begins, LtAll, headSt, tokz_nil, tokz_cons, tokz1, lk, dep_int, dep_bool, dep_list, dep_sk, dep_sp, memAt, bel_map, bel_mapF, bel_mapO, bel_undef, bel_int, bel_boolv, bel_nilp, bel_nilf, bel_ptr, bel_arr, bel_mp, bel_yld, bel_agg, bel_tup, bel_ref, bel_only, bel_mpr, bel_fn, bel_sl_nil, bel_sl_nilF, bel_sl_nilO, bel_sl_cons, bel_sl_app, belO_cells, belO_tok, belO_dead, belO_deferred, belO_map, belO_iter, belO_loop, bel_vec, bel_vp, belO_vecM, belO_vec, planW, dep_uk, -List.map_map]
  · intro i hi _
    have hi' := Int.ofNat_lt.2 hi
    have hpl := planW_len s ws i
    have hsp := hs.sp hi
    obtain ⟨hq, hhb⟩ := hourW_bd hs hw hi
    have hhe : wordL ws i / 8 % (spS s i + 3) - 1 = hourW s ws i := rfl
    have hps : planW s ws (i + 1) = planW s ws i ++ [closeW s (planW s ws i) (hourW s ws i)] := rfl
    obtain ⟨P, hP⟩ : ∃ P, planW s ws i = P := ⟨_, rfl⟩
    rw [hP] at hpl hps
    rw [hP]
    simp (maxSteps := 4000000) only [go_sem, AV.one, drawV, intsOf, keyIdx, over, putO, memAt, List.map_cons, List.length_cons, ↓reduceIte, zdrop, one_i, one_b, one_sl, one_ptr, one_ref, one_nilp, one_mp, one_fn, one_nilf, dep_uk, hi', hhe]
    all_goals (repeat' (first | with_reducible rfl | with_reducible apply And.intro | ((with_reducible show drawOK _ _ = true); rfl))) <;> (try first | omega | (simp only [InR]; omega) | with_reducible assumption)
    refine loopN (P.length) [] [1, 2, 4, 5, 6, 7, 8, 11, 12, 13, 14, 18, 19, 20, 21, 22, 23, 24, 25, 26, 27, 28] (fun k => [(10, .int .i64 k), (9, .int .i64 ((P.take k).countP (fun q => decide (q = hourW s ws i)) : Nat))]) (fun _ m => m) (fun _ => True) ?_ ?_ ?_ ?_
    · trivial
    · simp [AV.bare, bel_ints, cs_arr, dep_arr, cs_int, cs_bool, cs_list, cs_sk, cs_sp, AtHead, Same, AllO, Begins, LtAll, headSt, tokz_nil, tokz_cons, tokz1, lk, dep_int, dep_bool, dep_list, dep_sk, dep_sp, memAt, bel_map, bel_mapF, bel_mapO, bel_undef, bel_int, bel_boolv, bel_nilp, bel_nilf, bel_ptr, bel_arr, bel_mp, bel_yld, bel_agg, bel_tup, bel_ref, bel_only, bel_mpr, bel_fn, bel_sl_nil, bel_sl_nilF, bel_sl_nilO, bel_sl_cons, bel_sl_app, belO_cells, belO_tok, belO_dead, belO_deferred, belO_map, belO_iter, belO_loop, bel_vec, bel_vp, belO_vecM, belO_vec, dep_uk, -List.map_map]
    · intro k hk _
      have hk' := Int.ofNat_lt.2 hk
      have hct := List.countP_le_length (l := P.take k) (p := fun q => decide (q = hourW s ws i))
      rw [List.length_take] at hct
      have hts := take_succ_at hk
      cases c1 : decide (at_ P k = hourW s ws i)
      · have hcs : (P.take (k + 1)).countP (fun q => decide (q = hourW s ws i)) = (P.take k).countP (fun q => decide (q = hourW s ws i)) := by rw [hts, List.countP_append, List.countP_singleton, c1]; simp
        simp (maxSteps := 4000000) only [go_sem, AV.one, drawV, intsOf, keyIdx, over, putO, memAt, List.map_cons, List.length_cons, ↓reduceIte, zdrop, one_i, one_b, one_sl, one_ptr, one_ref, one_nilp, one_mp, one_fn, one_nilf, dep_uk, hk', getD_mapA hk, c1]
        all_goals (repeat' (first | with_reducible rfl | with_reducible apply And.intro | ((with_reducible show drawOK _ _ = true); rfl))) <;> (try first | omega | (simp only [InR]; omega) | with_reducible assumption)
        refine nxt hk trivial ?_
        simp [AV.bare, bel_ints, cs_arr, dep_arr, cs_int, cs_bool, cs_list, cs_sk, cs_sp, AtHead, Same, AllO, Begins, LtAll, headSt, tokz_nil, tokz_cons, tokz1, lk, dep_int, dep_bool, dep_list, dep_sk, dep_sp, memAt, bel_map, bel_mapF, bel_mapO, bel_undef, bel_int, bel_boolv, bel_nilp, bel_nilf, bel_ptr, bel_arr, bel_mp, bel_yld, bel_agg, bel_tup, bel_ref, bel_only, bel_mpr, bel_fn, bel_sl_nil, bel_sl_nilF, bel_sl_nilO, bel_sl_cons, bel_sl_app, belO_cells, belO_tok, belO_dead, belO_deferred, belO_map, belO_iter, belO_loop, bel_vec, bel_vp, belO_vecM, belO_vec, hcs, dep_uk, -List.map_map]
      · have hcs : (P.take (k + 1)).countP (fun q => decide (q = hourW s ws i)) = (P.take k).countP (fun q => decide (q = hourW s ws i)) + 1 := by rw [hts, List.countP_append, List.countP_singleton, c1]; simp
        simp (maxSteps := 4000000) only [go_sem, AV.one, drawV, intsOf, keyIdx, over, putO, memAt, List.map_cons, List.length_cons, ↓reduceIte, zdrop, one_i, one_b, one_sl, one_ptr, one_ref, one_nilp, one_mp, one_fn, one_nilf, dep_uk, hk', getD_mapA hk, c1]
        all_goals (repeat' (first | with_reducible rfl | with_reducible apply And.intro | ((with_reducible show drawOK _ _ = true); rfl))) <;> (try first | omega | (simp only [InR]; omega) | with_reducible assumption)
        refine nxt hk trivial ?_
        simp [AV.bare, bel_ints, cs_arr, dep_arr, cs_int, cs_bool, cs_list, cs_sk, cs_sp, AtHead, Same, AllO, Begins, LtAll, headSt, tokz_nil, tokz_cons, tokz1, lk, dep_int, dep_bool, dep_list, dep_sk, dep_sp, memAt, bel_map, bel_mapF, bel_mapO, bel_undef, bel_int, bel_boolv, bel_nilp, bel_nilf, bel_ptr, bel_arr, bel_mp, bel_yld, bel_agg, bel_tup, bel_ref, bel_only, bel_mpr, bel_fn, bel_sl_nil, bel_sl_nilF, bel_sl_nilO, bel_sl_cons, bel_sl_app, belO_cells, belO_tok, belO_dead, belO_deferred, belO_map, belO_iter, belO_loop, bel_vec, bel_vp, belO_vecM, belO_vec, hcs, dep_uk, -List.map_map]
    · intro _
      rw [List.take_length]
      have hcl : closeW s P (hourW s ws i) = if 17 < hourW s ws i ∨ s.hands ≤ P.countP (fun q => decide (q = hourW s ws i)) then -1 else hourW s ws i := rfl
      cases c1 : decide (hourW s ws i > 17)
      · cases c2 : decide ((P.countP (fun q => decide (q = hourW s ws i)) : Int) ≥ s.hands)
        · have hcv : closeW s P (hourW s ws i) = hourW s ws i := by
            have e1 := of_decide_eq_false c1
            have e2 := of_decide_eq_false c2
            rw [hcl, if_neg (by omega)]
          rw [hcv] at hps
          simp (maxSteps := 4000000) only [go_sem, AV.one, drawV, intsOf, keyIdx, over, putO, memAt, List.map_cons, List.length_cons, ↓reduceIte, zdrop, one_i, one_b, one_sl, one_ptr, one_ref, one_nilp, one_mp, one_fn, one_nilf, dep_uk, Int.lt_irrefl, c1, c2, hpl]
          all_goals (repeat' (first | with_reducible rfl | with_reducible apply And.intro | ((with_reducible show drawOK _ _ = true); rfl))) <;> (try first | omega | (simp only [InR]; omega) | with_reducible assumption)
          refine nxt hi trivial ?_
          simp [AV.bare, bel_ints, cs_arr, dep_arr, cs_int, cs_bool, cs_list, cs_sk, cs_sp, AtHead, Same, AllO, Begins, LtAll, headSt, tokz_nil, tokz_cons, tokz1, lk, dep_int, dep_bool, dep_list, dep_sk, dep_sp, memAt, bel_map, bel_mapF, bel_mapO, bel_undef, bel_int, bel_boolv, bel_nilp, bel_nilf, bel_ptr, bel_arr, bel_mp, bel_yld, bel_agg, bel_tup, bel_ref, bel_only, bel_mpr, bel_fn, bel_sl_nil, bel_sl_nilF, bel_sl_nilO, bel_sl_cons, bel_sl_app, belO_cells, belO_tok, belO_dead, belO_deferred, belO_map, belO_iter, belO_loop, bel_vec, bel_vp, belO_vecM, belO_vec, hps, dep_uk, -List.map_map]
        · have hcv : closeW s P (hourW s ws i) = -1 := by
            have e2 := of_decide_eq_true c2
            rw [hcl, if_pos (by omega)]
          rw [hcv] at hps
          simp (maxSteps := 4000000) only [go_sem, AV.one, drawV, intsOf, keyIdx, over, putO, memAt, List.map_cons, List.length_cons, ↓reduceIte, zdrop, one_i, one_b, one_sl, one_ptr, one_ref, one_nilp, one_mp, one_fn, one_nilf, dep_uk, Int.lt_irrefl, c1, c2, hpl]
          all_goals (repeat' (first | with_reducible rfl | with_reducible apply And.intro | ((with_reducible show drawOK _ _ = true); rfl))) <;> (try first | omega | (simp only [InR]; omega) | with_reducible assumption)
          refine nxt hi trivial ?_
          simp [AV.bare, bel_ints, cs_arr, dep_arr, cs_int, cs_bool, cs_list, cs_sk, cs_sp, AtHead, Same, AllO, Begins, LtAll, headSt, tokz_nil, tokz_cons, tokz1, lk, dep_int, dep_bool, dep_list, dep_sk, dep_sp, memAt, bel_map, bel_mapF, bel_mapO, bel_undef, bel_int, bel_boolv, bel_nilp, bel_nilf, bel_ptr, bel_arr, bel_mp, bel_yld, bel_agg, bel_tup, bel_ref, bel_only, bel_mpr, bel_fn, bel_sl_nil, bel_sl_nilF, bel_sl_nilO, bel_sl_cons, bel_sl_app, belO_cells, belO_tok, belO_dead, belO_deferred, belO_map, belO_iter, belO_loop, bel_vec, bel_vp, belO_vecM, belO_vec, hps, dep_uk, -List.map_map]
      · have hcv : closeW s P (hourW s ws i) = -1 := by
          have e1 := of_decide_eq_true c1
          rw [hcl, if_pos (by omega)]
        rw [hcv] at hps
        simp (maxSteps := 4000000) only [go_sem, AV.one, drawV, intsOf, keyIdx, over, putO, memAt, List.map_cons, List.length_cons, ↓reduceIte, zdrop, one_i, one_b, one_sl, one_ptr, one_ref, one_nilp, one_mp, one_fn, one_nilf, dep_uk, Int.lt_irrefl, c1, hpl]
        all_goals (repeat' (first | with_reducible rfl | with_reducible apply And.intro | ((with_reducible show drawOK _ _ = true); rfl))) <;> (try first | omega | (simp only [InR]; omega) | with_reducible assumption)
        refine nxt hi trivial ?_
        simp [AV.bare, bel_ints, cs_arr, dep_arr, cs_int, cs_bool, cs_list, cs_sk, cs_sp, AtHead, Same, AllO, Begins, LtAll, headSt, tokz_nil, tokz_cons, tokz1, lk, dep_int, dep_bool, dep_list, dep_sk, dep_sp, memAt, bel_map, bel_mapF, bel_mapO, bel_undef, bel_int, bel_boolv, bel_nilp, bel_nilf, bel_ptr, bel_arr, bel_mp, bel_yld, bel_agg, bel_tup, bel_ref, bel_only, bel_mpr, bel_fn, bel_sl_nil, bel_sl_nilF, bel_sl_nilO, bel_sl_cons, bel_sl_app, belO_cells, belO_tok, belO_dead, belO_deferred, belO_map, belO_iter, belO_loop, bel_vec, bel_vp, belO_vecM, belO_vec, hps, dep_uk, -List.map_map]
  · intro _
    simp (maxSteps := 4000000) only [go_sem, AV.one, drawV, intsOf, keyIdx, over, putO, memAt, List.map_cons, List.length_cons, ↓reduceIte, zdrop, one_i, one_b, one_sl, one_ptr, one_ref, one_nilp, one_mp, one_fn, one_nilf, dep_uk, Int.lt_irrefl]
    all_goals (repeat' (first | with_reducible rfl | with_reducible apply And.intro | ((with_reducible show drawOK _ _ = true); rfl))) <;> (try first | omega | (simp only [InR]; omega) | with_reducible assumption)
end Go.Proofs
namespace Go.Proofs
open Go.Fs
set_option linter.unusedSimpArgs false
set_option linter.unusedVariables false
set_option maxHeartbeats 4000000
set_option maxRecDepth 8000
def P49 : Specs := addSpec 20 (spec2 (fun (s : Sh) (ws : List (Uk .u16)) => ShOk s ∧ WsOk ws) (fun s ws => planW s ws s.stacks.length)) (P48)
theorem P49_app (g : FuncId) : P49 g = (addSpec 20 (spec2 (fun (s : Sh) (ws : List (Uk .u16)) => ShOk s ∧ WsOk ws) (fun s ws => planW s ws s.stacks.length)) (P48)) g := rfl
theorem P49_ok : SpecsOk Tryz.prog P49 := addSpec_ok (spec2_ok Planned_call) (P48_ok)
attribute [go_sem] P49_app
theorem P49_flag (d : Option Nat) : flagOf P49 d = none := (flagOf_add (by decide) d).trans (P48_flag d)
attribute [go_sem] P49_flag
theorem thin_len {s : Sh} (h : thinB s = true) : s.stacks.length ≤ 10 := by unfold thinB at h; simpa using h
theorem best_good {s : Sh} (hs : ShOk s) : bestQ s = ⟨bestS s, mostS s, 0⟩ := by unfold bestQ; rw [if_neg (by rw [ok_fault hs]; simp)]
theorem play_good {s : Sh} (hs : ShOk s) (plan : List Int) (t : Tr) : playQ s plan t = if (planB s plan && truthB s t) = true then ((List.range plan.length).map fun i => savesB (at_ plan i) (t.rain + at_ t.leaks i), 0) else ([], 2) := by
  unfold playQ; rw [if_neg (by rw [ok_fault hs]; simp), busy_plan hs]
theorem saved_good {s : Sh} (hs : ShOk s) {plan : List Int} (h : planB s plan = true) : savedQ s plan = ((List.range plan.length).map (verdictW s plan), 0) := by
  unfold savedQ; rw [planned_eq hs, if_pos h, if_neg (by simp)]
theorem sure_good {s : Sh} (hs : ShOk s) {plan : List Int} (h : planB s plan = true) : sureQ s plan = (sureS s plan, 0) := by
  unfold sureQ; rw [planned_eq hs, if_pos h, if_neg (by simp)]
theorem countP_set_le {q : Int → Bool} {a : Int} : ∀ (l : List Int) (i : Nat), (l.set i a).countP q ≤ l.countP q + if q a = true then 1 else 0
  | [], i => by simp
  | x :: l, 0 => by
    rw [List.set_cons_zero, List.countP_cons, List.countP_cons]
    split <;> split <;> omega
  | x :: l, i + 1 => by
    rw [List.set_cons_succ, List.countP_cons, List.countP_cons]
    have := countP_set_le l i (q := q) (a := a)
    rw [Nat.add_right_comm]
    exact Nat.add_le_add_right this _
theorem planN_count {H : Int} {o : List Int} {n : Nat} {p : Int} (hp : 0 ≤ p) : ∀ m, (((planN H o n m).countP fun q => decide (q = p) : Nat) : Int) ≤ cnt m (fun k => decide ((k : Int) / H = p))
  | 0 => by
    have : (List.replicate n (-1 : Int)).countP (fun q => decide (q = p)) = 0 := by
      rw [List.countP_eq_zero]
      intro q hq
      rw [(List.mem_replicate.1 hq).2]
      simp only [decide_eq_true_eq]
      omega
    show (((List.replicate n (-1 : Int)).countP _ : Nat) : Int) ≤ 0
    rw [this]; simp
  | m + 1 => by
    rw [planN_succ]
    have h1 := planN_count (H := H) (o := o) (n := n) hp m
    have h2 := countP_set_le (q := fun q => decide (q = p)) (a := (m : Int) / H) (planN H o n m) (at_ o m).toNat
    have h3 : cnt (m + 1) (fun k => decide ((k : Int) / H = p)) = cnt m (fun k => decide ((k : Int) / H = p)) + if decide ((m : Int) / H = p) = true then 1 else 0 := rfl
    rw [h3]
    split <;> split at h2 <;> simp_all <;> omega
theorem cnt_div {H p : Int} (hH : 1 ≤ H) (hp : 0 ≤ p) : ∀ m : Nat, cnt m (fun k => decide ((k : Int) / H = p)) ≤ H ∧ cnt m (fun k => decide ((k : Int) / H = p)) ≤ max 0 ((m : Int) - H * p)
  | 0 => by simp [cnt]; omega
  | m + 1 => by
    obtain ⟨h1, h2⟩ := cnt_div hH hp m
    have h3 : cnt (m + 1) (fun k => decide ((k : Int) / H = p)) = cnt m (fun k => decide ((k : Int) / H = p)) + if decide ((m : Int) / H = p) = true then 1 else 0 := rfl
    rw [h3]
    by_cases e : (m : Int) / H = p
    · have h4 := Int.mul_ediv_add_emod (m : Int) H
      have h5 := Int.emod_nonneg (m : Int) (show H ≠ 0 by omega)
      have h6 := Int.emod_lt_of_pos (m : Int) (show 0 < H by omega)
      rw [e] at h4
      rw [if_pos (by simpa using e)]
      omega
    · rw [if_neg (by simpa using e)]
      omega
theorem best_count {s : Sh} (hs : ShOk s) (p : Int) (hp : 0 ≤ p) : (((bestS s).countP fun q => decide (q = p) : Nat) : Int) ≤ s.hands := by
  have h0 := hs.h0
  unfold bestS
  by_cases hk : keptS s = []
  · have : sortS (spS s) (keptS s) = [] := by rw [hk]; rfl
    rw [this]
    have := planN_count (H := s.hands) (o := []) (n := s.stacks.length) hp 0
    have e : cnt 0 (fun k => decide ((k : Int) / s.hands = p)) = 0 := rfl
    simp only [List.length_nil]
    omega
  · have hH := kept_hands hs hk
    have h1 := planN_count (H := s.hands) (o := sortS (spS s) (keptS s)) (n := s.stacks.length) hp (sortS (spS s) (keptS s)).length
    have h2 := (cnt_div hH hp (sortS (spS s) (keptS s)).length).1
    omega
theorem best_plan {s : Sh} (hs : ShOk s) : planB s (bestS s) = true := by
  have hl := best_len s
  obtain ⟨k1, k2, k3, _⟩ := kept_spec hs
  have hbd : ∀ i, i < s.stacks.length → -1 ≤ at_ (bestS s) i ∧ at_ (bestS s) i ≤ 17 := fun i hi => by
    obtain ⟨h1, h2⟩ := best_at hs hi
    have hsp := hs.sp hi
    cases c : memB (keptS s) i
    · have := h2 c; omega
    · have := h1 c; omega
  have hmem : ∀ x ∈ bestS s, -1 ≤ x ∧ x ≤ 17 := fun x hx => by
    obtain ⟨i, hi, rfl⟩ := mem_at hx
    exact hbd i (by omega)
  unfold planB
  simp only [Bool.and_eq_true, decide_eq_true_eq, List.all_eq_true]
  refine ⟨hl, fun p hp => ⟨(inB_iff _ _ _).2 (hmem p hp), ?_⟩⟩
  by_cases e : p < 0
  · rw [manyL_neg e]; simpa using hs.h0
  · rw [manyL_pos (by omega)]
    exact best_count hs p (by omega)
end Go.Proofs
namespace Go.Proofs
open Go.Fs
set_option linter.unusedSimpArgs false
set_option linter.unusedVariables false
set_option maxHeartbeats 4000000
set_option maxRecDepth 8000
def moreS (s : Sh) (x : Sk) : Sh := ⟨s.stacks ++ [x], s.hands, s.rain⟩
theorem weight_le {s : Sh} (hs : ShOk s) (A : Nat → Bool) : weightS s A ≤ totalS s := by
  unfold weightS totalS
  exact wsum_mono (fun _ _ _ => rfl) fun i hi => (hs.ch hi).1
theorem most_total {s : Sh} (hs : ShOk s) : mostS s ≤ totalS s := weight_le hs _
end Go.Proofs
namespace Go.Proofs
open Go.Fs
set_option linter.unusedSimpArgs false
set_option linter.unusedVariables false
set_option maxHeartbeats 4000000
set_option maxRecDepth 8000
def worthS (s : Sh) (i : Nat) : Int := mostS s - mostS (withoutS s [(i : Int)])
end Go.Proofs
namespace Go.Proofs
open Go.Fs
set_option linter.unusedSimpArgs false
set_option linter.unusedVariables false
set_option maxHeartbeats 4000000
set_option maxRecDepth 8000
theorem cnt_take {l : List Int} (q : Int → Bool) : ∀ n, n ≤ l.length → cnt n (fun i => q (at_ l i)) = (((l.take n).countP q : Nat) : Int)
  | 0, _ => by simp [cnt]
  | n + 1, h => by
    have ih := cnt_take (l := l) q n (by omega)
    rw [take_succ_at (by omega), List.countP_append, List.countP_singleton]
    show cnt n _ + (if q (at_ l n) = true then 1 else 0) = _
    rw [ih]
    split <;> simp
theorem cnt_countP (l : List Int) (q : Int → Bool) : cnt l.length (fun i => q (at_ l i)) = ((l.countP q : Nat) : Int) := by
  have := cnt_take (l := l) q l.length (Nat.le_refl _)
  rwa [List.take_length] at this
theorem cnt_hours {plan : List Int} {H : Int} (hH : ∀ p : Int, 0 ≤ p → ((plan.countP fun q => decide (q = p) : Nat) : Int) ≤ H) {h : Int} (h0 : 0 ≤ h) :
    ∀ b : Nat, cnt plan.length (fun i => decide (h ≤ at_ plan i) && decide (at_ plan i < h + b)) ≤ H * b
  | 0 => by
    rw [cnt_zero fun i hi => ?_]
    · simp
    · rw [Bool.and_eq_false_iff, decide_eq_false_iff_not, decide_eq_false_iff_not]; omega
  | b + 1 => by
    have h1 := cnt_hours hH h0 b
    have h2 := hH (h + b) (by omega)
    rw [cnt_split _ _ (fun i => decide (at_ plan i < h + b))]
    have e1 : cnt plan.length (fun i => (decide (h ≤ at_ plan i) && decide (at_ plan i < h + ((b + 1 : Nat) : Int))) && decide (at_ plan i < h + b)) ≤ cnt plan.length (fun i => decide (h ≤ at_ plan i) && decide (at_ plan i < h + b)) :=
      cnt_mono fun i hi hq => by simp only [Bool.and_eq_true, decide_eq_true_eq] at hq ⊢; omega
    have e2 : cnt plan.length (fun i => (decide (h ≤ at_ plan i) && decide (at_ plan i < h + ((b + 1 : Nat) : Int))) && !decide (at_ plan i < h + b)) ≤ cnt plan.length (fun i => decide (at_ plan i = h + b)) :=
      cnt_mono fun i hi hq => by simp only [Bool.and_eq_true, Bool.not_eq_true', decide_eq_true_eq, decide_eq_false_iff_not] at hq ⊢; omega
    have e3 : cnt plan.length (fun i => decide (at_ plan i = h + b)) = ((plan.countP fun q => decide (q = h + b) : Nat) : Int) := cnt_countP plan (fun q => decide (q = h + b))
    have e4 : H * ((b + 1 : Nat) : Int) = H * b + H := by rw [Int.natCast_succ, Int.mul_add, Int.mul_one]
    omega
theorem plan_hours {s : Sh} (hs : ShOk s) {plan : List Int} (h : planB s plan = true) (p : Int) (hp : 0 ≤ p) : ((plan.countP fun q => decide (q = p) : Nat) : Int) ≤ s.hands := by
  by_cases e : p ∈ plan
  · unfold planB at h
    rw [Bool.and_eq_true, List.all_eq_true] at h
    have h1 := h.2 p e
    rw [Bool.and_eq_true, decide_eq_true_eq] at h1
    have h2 := h1.2
    rw [manyL_pos hp] at h2
    exact h2
  · have : plan.countP (fun q => decide (q = p)) = 0 := by
      rw [List.countP_eq_zero]
      intro q hq
      simp only [decide_eq_true_eq]
      intro e2; exact e (e2 ▸ hq)
    rw [this]; exact hs.h0
def restS (s : Sh) (plan : List Int) (hour : Int) : Sh := withoutS (dryS s) (closedL plan hour plan.length)
def closedN (s : Sh) (plan : List Int) (hour : Int) : Int := wsum plan.length (fun i => chS s i) (fun i => savesB (at_ plan i) hour)
end Go.Proofs
namespace Go.Proofs
open Go.Fs
set_option linter.unusedSimpArgs false
set_option linter.unusedVariables false
set_option maxHeartbeats 4000000
set_option maxRecDepth 8000
def lstP (s : Sh) (c : Nat) : Int := partS s ((c : Int) + 1) (leastS s ((c : Int) + 1) 19)
def twiceS (x : Sh) : Sh := ⟨x.stacks ++ x.stacks, 2 * x.hands, x.rain⟩
def firstS (s : Sh) : Sh := ⟨s.stacks.take (min 4 s.stacks.length), min 1 s.hands, s.rain⟩
def swapL (l : List Sk) (a b : Nat) : List Sk := (l.set a (at_ l b)).set b (at_ l a)
def swapS (s : Sh) (a b : Nat) : Sh := ⟨swapL s.stacks a b, s.hands, s.rain⟩
end Go.Proofs
namespace Go.Proofs
open Go.Fs
set_option linter.unusedSimpArgs false
set_option linter.unusedVariables false
set_option maxHeartbeats 4000000
set_option maxRecDepth 8000
theorem sure_most {s : Sh} (hs : ShOk s) {plan : List Int} (hp : planB s plan = true) : sureS s plan ≤ mostS s := by
  obtain ⟨hl, hge⟩ := plan_ge hp
  have hF : FeasS s (fun i => savesB (at_ plan i) (spS s i)) := fun b hb => by
    have hc := cnt_hours (plan_hours hs hp) (h := 0) (by omega) b
    rw [hl] at hc
    refine Int.le_trans (cnt_mono fun i hi hq => ?_) hc
    have hg := (hge _ (at_mem (show i < plan.length by omega))).1
    unfold savesB at hq
    simp only [Bool.and_eq_true, decide_eq_true_eq] at hq ⊢
    omega
  have h2 := feas_le hs hF
  unfold sureS
  rw [hl]
  exact h2
def oneS (s : Sh) (x : Sk) : Sh := ⟨[x], s.hands, s.rain⟩
theorem one_ok {s : Sh} (hs : ShOk s) {x : Sk} (hx : x ∈ s.stacks) : ShOk (oneS s x) := ⟨by simp [oneS], hs.h0, hs.h3, hs.r, fun y hy => by
  have : y = x := by simpa [oneS] using hy
  rw [this]; exact hs.st x hx⟩
theorem one_most {s : Sh} (hs : ShOk s) {i : Nat} (hi : i < s.stacks.length) (hc : 0 < chS s i) : mostS (oneS s (at_ s.stacks i)) = 0 ↔ minL [s.hands, spS s i] = 0 := by
  have hx := one_ok hs (at_mem hi)
  have hsp : spS (oneS s (at_ s.stacks i)) ((0 : Nat) : Int) = spS s i := by simp [spS, oneS, at_]
  have hch : chS (oneS s (at_ s.stacks i)) ((0 : Nat) : Int) = chS s i := by simp [chS, oneS, at_]
  have hs0 := hs.sp hi
  have hh0 := hs.h0
  have hw : ∀ A, weightS (oneS s (at_ s.stacks i)) A = if A 0 = true then chS s i else 0 := fun A => by
    show (0 : Int) + (if A 0 = true then chS (oneS s (at_ s.stacks i)) ((0 : Nat) : Int) else 0) = _
    rw [hch, Int.zero_add]
  have hcn : ∀ (A : Nat → Bool) (b : Int), cnt (oneS s (at_ s.stacks i)).stacks.length (fun k => A k && decide (spS (oneS s (at_ s.stacks i)) (k : Nat) ≤ b)) = if (A 0 && decide (spS s i ≤ b)) = true then 1 else 0 := fun A b => by
    show (0 : Int) + (if (A 0 && decide (spS (oneS s (at_ s.stacks i)) ((0 : Nat) : Int) ≤ b)) = true then 1 else 0) = _
    rw [hsp, Int.zero_add]
  rw [minL_two]
  constructor
  · intro h0
    by_cases c : s.hands = 0 ∨ spS s i = 0
    · omega
    · exfalso
      have hF : FeasS (oneS s (at_ s.stacks i)) (fun _ => true) := fun b hb => by
        rw [hcn]
        show _ ≤ s.hands * b
        have hn : 0 ≤ s.hands * (b : Int) := Int.mul_nonneg hh0 (by omega)
        split
        · rename_i q
          simp only [Bool.true_and, decide_eq_true_eq] at q
          have := Int.mul_le_mul (show 1 ≤ s.hands by omega) (show 1 ≤ (b : Int) by omega) (by omega) (by omega)
          omega
        · exact hn
      have := feas_le hx hF
      rw [hw, if_pos rfl] at this
      omega
  · intro h0
    obtain ⟨_, _, hF, _⟩ := kept_spec hx
    have hm : mostS (oneS s (at_ s.stacks i)) = weightS (oneS s (at_ s.stacks i)) (memB (keptS (oneS s (at_ s.stacks i)))) := rfl
    rw [hm, hw]
    split
    · rename_i q
      exfalso
      obtain ⟨b, hb⟩ := Int.eq_ofNat_of_zero_le hs0.1
      have h1 := hF b (by omega)
      rw [hcn, q, if_pos (by simp; omega)] at h1
      have h2 : (oneS s (at_ s.stacks i)).hands * (b : Int) = 0 := by
        rcases (show s.hands = 0 ∨ spS s i = 0 by omega) with e | e
        · show s.hands * (b : Int) = 0; rw [e, Int.zero_mul]
        · rw [show (b : Int) = 0 by omega, Int.mul_zero]
      omega
    · rfl
def handsR (s : Sh) : Nat → Nat → Int
  | 0, _ => -1
  | f + 1, n => if mostS ⟨s.stacks, n, s.rain⟩ = totalS s then (n : Int) else handsR s f (n + 1)
theorem handsR_eq {s : Sh} (hs : ShOk s) : ∀ f n : Nat, n + f ≤ 4 → -1 ≤ handsR s f n ∧ handsF s f n = if handsR s f n < 0 then (0, 10) else (handsR s f n, 0)
  | 0, n, _ => ⟨by simp [handsR], by simp [handsR, handsF]⟩
  | f + 1, n, h => by
    obtain ⟨h1, h2⟩ := handsR_eq hs f (n + 1) (by omega)
    have h3 := most_total (withH_ok hs (n := (n : Int)) (by omega) (by omega))
    have h4 : totalS ⟨s.stacks, (n : Int), s.rain⟩ = totalS s := rfl
    rw [h4] at h3
    unfold handsR handsF
    rw [h4]
    by_cases c : mostS ⟨s.stacks, (n : Int), s.rain⟩ = totalS s
    · rw [if_pos c, if_neg (by omega), if_neg (by omega)]
      exact ⟨by omega, rfl⟩
    · rw [if_neg c, if_pos (by omega)]
      exact ⟨h1, h2⟩
def leakW (s : Sh) (ws : List (Uk .u16)) (i : Nat) : Int := (at_ s.stacks i).leak.lo + wordL ws ((i : Int) + 3) / 64 % ((at_ s.stacks i).leak.hi - (at_ s.stacks i).leak.lo + 1)
def leaksW (s : Sh) (ws : List (Uk .u16)) : Nat → List Int
  | 0 => []
  | i + 1 => leaksW s ws i ++ [leakW s ws i]
def rainW (s : Sh) (ws : List (Uk .u16)) : Int := s.rain.lo + wordL ws 11 % (s.rain.hi - s.rain.lo + 1)
def trulyS (s : Sh) (ws : List (Uk .u16)) : Tr := ⟨rainW s ws, leaksW s ws s.stacks.length⟩
theorem leaksW_len (s : Sh) (ws : List (Uk .u16)) : ∀ n, (leaksW s ws n).length = n
  | 0 => rfl
  | n + 1 => by unfold leaksW; rw [List.length_append, leaksW_len s ws n]; rfl
theorem leaksW_at (s : Sh) (ws : List (Uk .u16)) : ∀ n i, i < n → at_ (leaksW s ws n) i = leakW s ws i
  | 0, i, h => by omega
  | n + 1, i, h => by
    have hl := leaksW_len s ws n
    unfold leaksW
    by_cases e : i = n
    · subst e
      rw [at_get (by simp [hl]), List.getElem_append_right (by omega)]
      simp [hl]
    · rw [at_get (by simp [hl]; omega), List.getElem_append_left (by omega), ← at_get (by omega)]
      exact leaksW_at s ws n i (by omega)
theorem leakW_bd {s : Sh} (hs : ShOk s) (ws : List (Uk .u16)) {i : Nat} (hi : i < s.stacks.length) : (at_ s.stacks i).leak.lo ≤ leakW s ws i ∧ leakW s ws i ≤ (at_ s.stacks i).leak.hi := by
  have h := (hs.st _ (at_mem hi)).2
  have h1 := Int.emod_nonneg (wordL ws ((i : Int) + 3) / 64) (show (at_ s.stacks i).leak.hi - (at_ s.stacks i).leak.lo + 1 ≠ 0 by omega)
  have h2 := Int.emod_lt_of_pos (wordL ws ((i : Int) + 3) / 64) (show 0 < (at_ s.stacks i).leak.hi - (at_ s.stacks i).leak.lo + 1 by omega)
  unfold leakW
  omega
theorem rainW_bd {s : Sh} (hs : ShOk s) (ws : List (Uk .u16)) : s.rain.lo ≤ rainW s ws ∧ rainW s ws ≤ s.rain.hi := by
  have h := hs.r
  have h1 := Int.emod_nonneg (wordL ws 11) (show s.rain.hi - s.rain.lo + 1 ≠ 0 by omega)
  have h2 := Int.emod_lt_of_pos (wordL ws 11) (show 0 < s.rain.hi - s.rain.lo + 1 by omega)
  unfold rainW
  omega
theorem truly_ok {s : Sh} (hs : ShOk s) (ws : List (Uk .u16)) : truthB s (trulyS s ws) = true := by
  have hl := leaksW_len s ws s.stacks.length
  unfold truthB trulyS
  simp only [Bool.and_eq_true, decide_eq_true_eq, List.all_eq_true, List.mem_range]
  refine ⟨⟨(inB_iff _ _ _).2 (rainW_bd hs ws), hl⟩, fun i hi => ?_⟩
  rw [hl] at hi
  rw [leaksW_at s ws _ i hi]
  exact (inB_iff _ _ _).2 (leakW_bd hs ws hi)
def gotB (plan : List Int) (t : Tr) (i : Nat) : Bool := savesB (at_ plan i) (t.rain + at_ t.leaks i)
def gotL (plan : List Int) (t : Tr) : List Bool := (List.range plan.length).map (gotB plan t)
theorem got_len (plan : List Int) (t : Tr) : (gotL plan t).length = plan.length := by simp [gotL]
theorem got_at (plan : List Int) (t : Tr) {i : Nat} (hi : i < plan.length) : at_ (gotL plan t) i = gotB plan t i := by
  unfold gotL
  rw [at_get (by simpa using hi)]
  simp
def sumB' (s : Sh) (b : List Bool) (n : Nat) : Int := wsum n (fun i => chS s i) (fun i => at_ b i)
def chairsQ (s : Sh) (b : List Bool) : Int × Bool := if b.length = s.stacks.length then (sumB' s b b.length, true) else (0, false)
theorem sumB'_bd {s : Sh} (hs : ShOk s) (b : List Bool) {n : Nat} (hn : n ≤ s.stacks.length) : 0 ≤ sumB' s b n ∧ sumB' s b n ≤ 8 * 99 := by
  have := wsum_bd (n := n) (f := fun i => chS s i) (m := 99) (fun i => at_ b i) (by omega) (fun j hj => hs.ch (by omega))
  have h8 := hs.len
  unfold sumB'
  omega
theorem got_sure {s : Sh} (hs : ShOk s) {plan : List Int} (hp : planB s plan = true) (ws : List (Uk .u16)) :
    playQ s plan (trulyS s ws) = (gotL plan (trulyS s ws), 0) ∧ chairsQ s (gotL plan (trulyS s ws)) = (sumB' s (gotL plan (trulyS s ws)) plan.length, true) ∧ sureS s plan ≤ sumB' s (gotL plan (trulyS s ws)) plan.length := by
  obtain ⟨hl, hge⟩ := plan_ge hp
  refine ⟨?_, ?_, ?_⟩
  · rw [play_good hs, hp, truly_ok hs ws]; rfl
  · unfold chairsQ; rw [got_len, if_pos hl]
  · unfold sureS sumB'
    refine wsum_mono (fun i hi hq => ?_) fun i hi => (hs.ch (by omega)).1
    rw [got_at _ _ hi]
    have h1 := rainW_bd hs ws
    have h2 := leakW_bd hs ws (show i < s.stacks.length by omega)
    have h3 : at_ (trulyS s ws).leaks i = leakW s ws i := leaksW_at s ws _ i (by omega)
    have h4 : spS s i = s.rain.lo + (at_ s.stacks i).leak.lo := by unfold spS; rw [Int.toNat_natCast]
    have h5 : (trulyS s ws).rain = rainW s ws := rfl
    unfold gotB
    rw [h3, h5]
    unfold savesB at hq ⊢
    simp only [Bool.and_eq_true, decide_eq_true_eq] at hq ⊢
    omega
theorem mem_water {s : Sh} {i : Nat} {a b : Int} (h1 : s.rain.lo ≤ a ∧ a ≤ s.rain.hi) (h2 : (at_ s.stacks i).leak.lo ≤ b ∧ b ≤ (at_ s.stacks i).leak.hi) : a + b ∈ waterL s i := by
  unfold waterL waterN leakL szR
  simp only [List.mem_flatMap, List.mem_range, List.mem_map]
  exact ⟨(a - s.rain.lo).toNat, by omega, (b - (at_ s.stacks i).leak.lo).toNat, by omega, by omega⟩
theorem verdict_truth {s : Sh} (hs : ShOk s) {plan : List Int} (hp : planB s plan = true) (ws : List (Uk .u16)) {i : Nat} (hi : i < s.stacks.length) :
    (verdictW s plan i = 1 ∧ gotB plan (trulyS s ws) i = true) ∨ (verdictW s plan i = 2 ∧ gotB plan (trulyS s ws) i = false) ∨ verdictW s plan i = 3 := by
  obtain ⟨hl, hge⟩ := plan_ge hp
  have hc := (hge _ (at_mem (show i < plan.length by omega))).1
  rw [verdict_eq hs hi hc]
  have h1 := rainW_bd hs ws
  have h2 := leakW_bd hs ws hi
  have h3 : at_ (trulyS s ws).leaks i = leakW s ws i := leaksW_at s ws _ i (by omega)
  have h5 : (trulyS s ws).rain = rainW s ws := rfl
  have hm := mem_water h1 h2
  have hg : gotB plan (trulyS s ws) i = savP (at_ plan i) (rainW s ws + leakW s ws i) := by unfold gotB; rw [h3, h5, saves_sav hc]
  rw [hg]
  unfold verdictR
  rw [Int.toNat_natCast]
  split
  · rename_i q
    exact .inl ⟨rfl, List.countP_eq_length.1 q _ hm⟩
  · split
    · rename_i q
      refine .inr (.inl ⟨rfl, ?_⟩)
      have := List.countP_eq_zero.1 q _ hm
      simpa using this
    · exact .inr (.inr rfl)
def chW (ws : List (Uk .u16)) : Nat → Int
  | 0 => 0
  | i + 1 => chW ws i + (wordL ws ((i : Int) + 1) % 20 + 1)
def provenN (ws : List (Uk .u16)) : Nat → List Sp
  | 0 => []
  | i + 1 => provenN ws i ++ [⟨chW ws (i + 1), wordL ws ((i : Int) + 1) / 32 % 19⟩]
def manyW (ws : List (Uk .u16)) : Nat := (wordL ws 0 % 4 + 1).toNat
def provenS (ws : List (Uk .u16)) : List Sp := provenN ws (manyW ws)
theorem manyW_bd (ws : List (Uk .u16)) : (1 ≤ manyW ws ∧ manyW ws ≤ 4) ∧ ((manyW ws : Nat) : Int) = wordL ws 0 % 4 + 1 := by
  have h1 := Int.emod_nonneg (wordL ws 0) (show (4 : Int) ≠ 0 by omega)
  have h2 := Int.emod_lt_of_pos (wordL ws 0) (show (0 : Int) < 4 by omega)
  unfold manyW
  omega
theorem chW_bd (ws : List (Uk .u16)) : ∀ n : Nat, (n : Int) ≤ chW ws n ∧ chW ws n ≤ 20 * n
  | 0 => by simp [chW]
  | n + 1 => by
    have h := chW_bd ws n
    have h1 := Int.emod_nonneg (wordL ws ((n : Int) + 1)) (show (20 : Int) ≠ 0 by omega)
    have h2 := Int.emod_lt_of_pos (wordL ws ((n : Int) + 1)) (show (0 : Int) < 20 by omega)
    unfold chW
    omega
theorem provenN_len (ws : List (Uk .u16)) : ∀ n, (provenN ws n).length = n
  | 0 => rfl
  | n + 1 => by unfold provenN; rw [List.length_append, provenN_len ws n]; rfl
theorem rising_snoc (y : Sp) : ∀ l : List Sp, risingB l = true → (∀ x ∈ l, x.chairs < y.chairs) → risingB (l ++ [y]) = true
  | [], _, _ => rfl
  | [x], _, h => by
    show (decide (x.chairs < y.chairs) && risingB [y]) = true
    rw [decide_eq_true (h x (by simp))]; rfl
  | x :: z :: r, h, h2 => by
    show (decide (x.chairs < z.chairs) && risingB (z :: r ++ [y])) = true
    have h3 : (decide (x.chairs < z.chairs) && risingB (z :: r)) = true := h
    rw [Bool.and_eq_true] at h3 ⊢
    exact ⟨h3.1, rising_snoc y (z :: r) h3.2 fun q hq => h2 q (by simp [hq])⟩
theorem provenN_ok (ws : List (Uk .u16)) : ∀ n, n ≤ 4 → risingB (provenN ws n) = true ∧ (∀ x ∈ provenN ws n, spOk x = true ∧ x.chairs ≤ chW ws n)
  | 0, _ => ⟨rfl, fun x hx => by simp [provenN] at hx⟩
  | n + 1, hn => by
    obtain ⟨h1, h2⟩ := provenN_ok ws n (by omega)
    have hb := chW_bd ws (n + 1)
    have hb0 := chW_bd ws n
    have hs : chW ws (n + 1) = chW ws n + (wordL ws ((n : Int) + 1) % 20 + 1) := rfl
    have q1 := Int.emod_nonneg (wordL ws ((n : Int) + 1)) (show (20 : Int) ≠ 0 by omega)
    have q2 := Int.emod_nonneg (wordL ws ((n : Int) + 1) / 32) (show (19 : Int) ≠ 0 by omega)
    have q3 := Int.emod_lt_of_pos (wordL ws ((n : Int) + 1) / 32) (show (0 : Int) < 19 by omega)
    unfold provenN
    refine ⟨rising_snoc _ _ h1 fun x hx => by have := (h2 x hx).2; dsimp only; omega, fun x hx => ?_⟩
    rcases List.mem_append.1 hx with q | q
    · have := h2 x q
      exact ⟨this.1, by omega⟩
    · simp only [List.mem_singleton] at q
      subst q
      refine ⟨?_, Int.le_refl _⟩
      unfold spOk
      simp only [Bool.and_eq_true, decide_eq_true_eq]
      omega
theorem proven_proof (ws : List (Uk .u16)) : proofB (provenS ws) = true := by
  obtain ⟨hm, _⟩ := manyW_bd ws
  obtain ⟨h1, h2⟩ := provenN_ok ws (manyW ws) hm.2
  unfold proofB provenS
  simp only [Bool.and_eq_true, decide_eq_true_eq, List.all_eq_true, provenN_len]
  exact ⟨⟨by omega, fun x hx => (h2 x hx).1⟩, h1⟩
theorem proof_sps {p : List Sp} (h : proofB p = true) (hl : p.length ≤ 4096) : SpsOk p := by
  unfold proofB at h
  simp only [Bool.and_eq_true, decide_eq_true_eq, List.all_eq_true] at h
  exact ⟨fun e => by rw [e] at h; simp at h, hl, h.1.2⟩
end Go.Proofs
namespace Go.Proofs
open Go.Fs
set_option linter.unusedVariables false
set_option linter.constructorNameAsVariable false
set_option maxRecDepth 100000
instance : EncE Rg where
  cs m := [.int .i64 m.lo, .int .i64 m.hi]
  dcs
    | [.int .i64 a, .int .i64 b] => some ⟨a, b⟩
    | _ => none
  law v x h := by
    split at h
    · cases h; rfl
    · cases h
  inv _ := rfl
  dep := 1
  sz := 2
  len _ := rfl
  ok x := by simp [pureN]
theorem cells_int : Tryz.prog.cellsOf 3 = 1 := by kernel_rfl
def RgIn (r : Rg) : Prop := InR .i64 r.lo ∧ InR .i64 r.hi
def SkIn (m : Sk) : Prop := InR .i64 m.chairs ∧ RgIn m.leak
theorem trod_one {H : Type} {enc : TypeId × Value → H} {w : World} {base : Nat} {spare : Nat → Bool} {held : Bool} {n : Nat} {c : Value} {y : DataW H × List MemPlace}
    (h : DataW.trod enc Tryz.prog w base spare held n 3 [c] = some y) : ∃ a, c = .int .i64 a ∧ InR .i64 a := by
  obtain ⟨a, e, _, hw⟩ := DataW.trod_int Tryz.underlying3 h
  simp only [List.cons.injEq, and_true] at e
  exact ⟨a, e, inR_of_wf hw⟩
theorem rdE_rg : RdE Tryz.prog 24 Rg RgIn :=
  ⟨by kernel_rfl, fun enc w base spare held fuel cs x h => by
    obtain ⟨hl, xs, _, _, hf⟩ := rd_field Tryz.underlying24 h
    have hl : cs.length = 2 := hl.trans (by kernel_rfl)
    match cs, hl with
    | [c0, c1], _ =>
      obtain ⟨n0, y0, _, h0⟩ := hf 0 _ rfl
      obtain ⟨n1, y1, _, h1⟩ := hf 1 _ rfl
      simp only [cells_int, List.getElem_toArray, List.getElem_cons_zero, List.getElem_cons_succ, List.drop_zero, List.drop_succ_cons, List.take_succ_cons, List.take_zero] at h0 h1
      obtain ⟨a, rfl, ha⟩ := trod_one h0
      obtain ⟨b, rfl, hb⟩ := trod_one h1
      refine ⟨⟨a, b⟩, ⟨ha, hb⟩, rfl, fun i hi => ?_⟩
      match i, hi with
      | 0, _ => exact .int _ _
      | 1, _ => exact .int _ _⟩
theorem cells_rg : Tryz.prog.cellsOf 24 = 2 := by kernel_rfl
theorem rdE_sk : RdE Tryz.prog 95 Sk SkIn :=
  ⟨by kernel_rfl, fun enc w base spare held fuel cs x h => by
    obtain ⟨hl, xs, _, _, hf⟩ := rd_field Tryz.underlying95 h
    have hl : cs.length = 3 := hl.trans (by kernel_rfl)
    match cs, hl with
    | [c0, c2, c3], _ =>
      obtain ⟨n0, y0, _, h0⟩ := hf 0 _ rfl
      obtain ⟨n2, y2, _, h2⟩ := hf 1 _ rfl
      simp only [cells_int, cells_rg, List.getElem_toArray, List.getElem_cons_zero, List.getElem_cons_succ, List.drop_zero, List.drop_succ_cons, List.take_succ_cons, List.take_zero] at h0 h2
      obtain ⟨a, rfl, ha⟩ := trod_one h0
      obtain ⟨r, hr, hr2⟩ := rdE_rg.rd _ _ _ _ _ _ _ _ h2
      have e2 := hr2.2 0 (by show 0 < 2; omega)
      have e3 := hr2.2 1 (by show 1 < 2; omega)
      have e2' := Rep.int_inv (k := .i64) (n := r.lo) e2
      have e3' := Rep.int_inv (k := .i64) (n := r.hi) e3
      simp at e2' e3'
      subst e2' e3'
      refine ⟨⟨a, r⟩, ⟨ha, hr⟩, rfl, fun i hi => ?_⟩
      match i, hi with
      | 0, _ => exact .int _ _
      | 1, _ => exact .int _ _
      | 2, _ => exact .int _ _⟩
theorem cells_sl1 : Tryz.prog.cellsOf 22 = 1 := by kernel_rfl
theorem bytes_1 : Tryz.prog.bytesOf 95 = 24 := by kernel_rfl
structure ShIn (s : Sh) : Prop where
  st : ∀ k ∈ s.stacks, SkIn k
  hands : InR .i64 s.hands
  rain : RgIn s.rain
  len : s.stacks.length * 24 ≤ reachBytes
structure TrIn (s : Tr) : Prop where
  rain : InR .i64 s.rain
  leaks : ∀ k ∈ s.leaks, InR .i64 k
  len : s.leaks.length * 8 ≤ reachBytes
theorem rdV_sh : RdV Tryz.prog 26 Sh ShIn := fun enc w base v d ps hv ⟨fuel, h⟩ hw => by
  obtain ⟨cs, rfl, hsz, hrow⟩ := okWide_row Tryz.underlying26 hv
  have hsz : cs.size = 4 := hsz.trans (by kernel_rfl)
  obtain ⟨hl, xs, hx, _, hf⟩ := rd_field Tryz.underlying26 h
  obtain ⟨l⟩ := cs
  match l, hsz with
  | [c0, c1, c2, c3], _ =>
    obtain ⟨n0, y0, q0, h0⟩ := hf 0 _ rfl
    obtain ⟨n1, y1, _, h1⟩ := hf 1 _ rfl
    obtain ⟨n2, y2, _, h2⟩ := hf 2 _ rfl
    simp only [Value.cells, cells_int, cells_sl1, cells_rg, List.getElem_toArray, List.getElem_cons_zero, List.getElem_cons_succ, List.drop_zero, List.drop_succ_cons, List.take_succ_cons, List.take_zero] at h0 h1 h2
    have hwt : (y0.1.weights Tryz.prog 22).all (· ≤ reachBytes) = true := by
      rw [List.all_eq_true] at hw ⊢
      intro n hn
      apply hw
      simp only at hx
      rw [hx]
      simp only [DataW.weights, Tryz.underlying26]
      exact DataW.weights_mem_each (ts := [22, 3, 24]) (j := 0) rfl (by rw [List.getElem?_map, q0]; rfl) n hn
    obtain ⟨b, rfl, hb⟩ := trod_one h1
    obtain ⟨lh, g1, g2, g3⟩ := rd_slice rdE_sk Tryz.underlying22 h0 (fun a l c e => rowOk_spot hrow (i := 0) (by rw [e]; rfl))
    have r1 := g3 reachBytes hwt
    rw [bytes_1] at r1
    obtain ⟨r, hr, hr2⟩ := rdE_rg.rd _ _ _ _ _ _ _ _ h2
    have e2 := hr2.2 0 (by show 0 < 2; omega)
    have e3 := hr2.2 1 (by show 1 < 2; omega)
    have e2' := Rep.int_inv (k := .i64) (n := r.lo) e2
    have e3' := Rep.int_inv (k := .i64) (n := r.hi) e3
    simp at e2' e3'
    subst e2' e3'
    refine ⟨⟨lh, b, r⟩, ⟨g1, hb, hr, r1⟩, .agg _ _ rfl fun i hi => ?_⟩
    match i, hi with
    | 0, _ => exact g2
    | 1, _ => exact .int _ _
    | 2, _ => exact .int _ _
    | 3, _ => exact .int _ _
theorem own : ownKnob Tryz.prog.godebug = none := by kernel_rfl
theorem laidOut : laidOutB Tryz.prog = true := by kernel_rfl
end Go.Proofs
