/- The law ShelterSaved. -/
import Derived.Test.YtcbicheohgdlmaaG14
set_option linter.all false
namespace Go.Proofs
open Go.Fs
set_option linter.unusedSimpArgs false
set_option linter.unusedVariables false
set_option maxHeartbeats 4000000
set_option maxRecDepth 8000

theorem ShelterSaved_true (s : Sh) (plan : List Int) (many : Int) : CallP Try.prog 4 [Enc.enc s, Enc.enc plan, Enc.enc many] (· = Enc.enc true) := by
  cases c1 : thinB s
  · simp only [enc_fnl, enc_fnb, enc_fnc, enc_refc, enc_arr, enc_int, enc_bool, enc_list, enc_sk, enc_sp, enc_rg, enc_sh, enc_tr, enc_refs, enc_fns, enc_wks]
    refine callP_of_vc (Φ := P49) Try.func4 rfl (by rfl) (by rw [Try.ntmps4]; simp) mixed P49_ok (by simp [AV.strip, AV.strip1, Tk.strip]) ?_
    rw [Try.ntmps4]
    simp only [Try.f4, startSt, tmFrom]
    simp (maxSteps := 4000000) only [go_sem, AV.one, drawV, intsOf, keyIdx, over, putO, memAt, List.map_cons, List.length_cons, ↓reduceIte, zdrop, one_i, one_b, one_sl, one_ptr, one_ref, one_nilp, one_mp, one_fn, one_nilf, dep_uk, c1]
    all_goals (repeat' (first | with_reducible rfl | with_reducible apply And.intro | ((with_reducible show drawOK _ = true); rfl))) <;> (try first | omega | (simp only [InR]; omega) | with_reducible assumption)
  have hl := thin_len c1
  by_cases c0 : (12 : Int) < plan.length
  · simp only [enc_fnl, enc_fnb, enc_fnc, enc_refc, enc_arr, enc_int, enc_bool, enc_list, enc_sk, enc_sp, enc_rg, enc_sh, enc_tr, enc_refs, enc_fns, enc_wks]
    refine callP_of_vc (Φ := P49) Try.func4 rfl (by rfl) (by rw [Try.ntmps4]; simp) mixed P49_ok (by simp [AV.strip, AV.strip1, Tk.strip]) ?_
    rw [Try.ntmps4]
    simp only [Try.f4, startSt, tmFrom]
    simp (maxSteps := 4000000) only [go_sem, AV.one, drawV, intsOf, keyIdx, over, putO, memAt, List.map_cons, List.length_cons, ↓reduceIte, zdrop, one_i, one_b, one_sl, one_ptr, one_ref, one_nilp, one_mp, one_fn, one_nilf, dep_uk, c1, c0]
    all_goals (repeat' (first | with_reducible rfl | with_reducible apply And.intro | ((with_reducible show drawOK _ = true); rfl))) <;> (try first | omega | (simp only [InR]; omega) | with_reducible assumption)
  have hl2 : plan.length ≤ 12 := by omega
  have hpv : proveSureB s plan many = (decide ((sureQ s plan).2 = 0) && decide (many ≤ (sureQ s plan).1)) := rfl
  by_cases c2 : faultS s = 0
  case neg =>
    have e1 := saved_bad plan c2
    have e2 := sure_bad plan c2
    have e3 : proveSureB s plan many = false := by rw [hpv, e2]; simp [c2]
    simp only [enc_fnl, enc_fnb, enc_fnc, enc_refc, enc_arr, enc_int, enc_bool, enc_list, enc_sk, enc_sp, enc_rg, enc_sh, enc_tr, enc_refs, enc_fns, enc_wks]
    refine callP_of_vc (Φ := P49) Try.func4 rfl (by rfl) (by rw [Try.ntmps4]; simp) mixed P49_ok (by simp [AV.strip, AV.strip1, Tk.strip]) ?_
    rw [Try.ntmps4]
    simp only [Try.f4, startSt, tmFrom]
    simp (maxSteps := 4000000) only [go_sem, AV.one, drawV, intsOf, keyIdx, over, putO, memAt, List.map_cons, List.length_cons, ↓reduceIte, zdrop, one_i, one_b, one_sl, one_ptr, one_ref, one_nilp, one_mp, one_fn, one_nilf, dep_uk, c1, c0, c2, e1, e2, e3, Bool.true_bne, Bool.false_bne]
    all_goals (repeat' (first | with_reducible rfl | with_reducible apply And.intro | ((with_reducible show drawOK _ = true); rfl))) <;> (try first | omega | (simp only [InR]; omega) | with_reducible assumption)
  have hs := fault_ok c2
  cases c3 : planB s plan
  · have e1 := saved_no hs c3
    have e2 := sure_no hs c3
    have e3 : proveSureB s plan many = false := by rw [hpv, e2]; rfl
    simp only [enc_fnl, enc_fnb, enc_fnc, enc_refc, enc_arr, enc_int, enc_bool, enc_list, enc_sk, enc_sp, enc_rg, enc_sh, enc_tr, enc_refs, enc_fns, enc_wks]
    refine callP_of_vc (Φ := P49) Try.func4 rfl (by rfl) (by rw [Try.ntmps4]; simp) mixed P49_ok (by simp [AV.strip, AV.strip1, Tk.strip]) ?_
    rw [Try.ntmps4]
    simp only [Try.f4, startSt, tmFrom]
    simp (maxSteps := 4000000) only [go_sem, AV.one, drawV, intsOf, keyIdx, over, putO, memAt, List.map_cons, List.length_cons, ↓reduceIte, zdrop, one_i, one_b, one_sl, one_ptr, one_ref, one_nilp, one_mp, one_fn, one_nilf, dep_uk, c1, c0, c2, c3, e1, e2, e3, Bool.true_bne, Bool.false_bne]
    all_goals (repeat' (first | with_reducible rfl | with_reducible apply And.intro | ((with_reducible show drawOK _ = true); rfl))) <;> (try first | omega | (simp only [InR]; omega) | with_reducible assumption)
  obtain ⟨p1, p2⟩ := plan_ge c3
  have e2 := sure_good hs c3
  have e3 : proveSureB s plan many = decide (many ≤ sureS s plan) := by rw [hpv, e2]; rfl
  have e4 := sure_eq hs p1 (fun x hx => (p2 x hx).1)
  obtain ⟨V, hV⟩ : ∃ V, (List.range plan.length).map (verdictW s plan) = V := ⟨_, rfl⟩
  have e1 : savedQ s plan = (V, 0) := by rw [saved_good hs c3, hV]
  have hVl : V.length = plan.length := by rw [← hV]; simp
  cases c4 : decide (many ≤ sureS s plan)
  all_goals
    rw [c4] at e3
    simp only [enc_fnl, enc_fnb, enc_fnc, enc_refc, enc_arr, enc_int, enc_bool, enc_list, enc_sk, enc_sp, enc_rg, enc_sh, enc_tr, enc_refs, enc_fns, enc_wks]
    refine callP_of_vc (Φ := P49) Try.func4 rfl (by rfl) (by rw [Try.ntmps4]; simp) mixed P49_ok (by simp [AV.strip, AV.strip1, Tk.strip]) ?_
    rw [Try.ntmps4]
    simp only [Try.f4, startSt, tmFrom]
    simp (maxSteps := 4000000) only [go_sem, AV.one, drawV, intsOf, keyIdx, over, putO, memAt, List.map_cons, List.length_cons, ↓reduceIte, zdrop, one_i, one_b, one_sl, one_ptr, one_ref, one_nilp, one_mp, one_fn, one_nilf, dep_uk, c1, c0, c2, c3, c4, e1, e2, e3, e4, hVl, Bool.true_bne, Bool.false_bne]
    all_goals (repeat' (first | with_reducible rfl | with_reducible apply And.intro | ((with_reducible show drawOK _ = true); rfl))) <;> (try first | omega | (simp only [InR]; omega) | with_reducible assumption)
    refine loopN (V.length) [] [1, 3, 6, 7] (fun i => [(13, .int .i64 i)]) (fun _ m => m) (fun _ => True) ?_ ?_ ?_ ?_
    · trivial
    · simp [AV.bare, bel_ints, cs_arr, dep_arr, cs_int, cs_bool, cs_list, cs_sk, cs_sp, AtHead, Same, AllO, Begins, LtAll, headSt, tokz_nil, tokz_cons, tokz1, lk, dep_int, dep_bool, dep_list, dep_sk, dep_sp, memAt, bel_map, bel_mapF, bel_mapO, bel_undef, bel_int, bel_boolv, bel_nilp, bel_nilf, bel_ptr, bel_arr, bel_mp, bel_yld, bel_agg, bel_tup, bel_ref, bel_only, bel_mpr, bel_fn, bel_sl_nil, bel_sl_nilF, bel_sl_nilO, bel_sl_cons, bel_sl_app, belO_cells, belO_tok, belO_dead, belO_deferred, belO_map, belO_iter, belO_loop, bel_vec, bel_vp, belO_vecM, belO_vec, -List.map_map]
    · intro i hi _
      have hi' := Int.ofNat_lt.2 hi
      have hi2 : i < plan.length := by omega
      have hix : idxOk s i := ⟨by omega, by omega⟩
      have hVi : at_ V i = verdictR s plan i := by
        rw [← hV]
        simp only [at_, List.getD, List.getElem?_map, List.getElem?_range hi2, Option.map_some, Option.getD_some]
        exact verdict_eq hs (by omega) (p2 _ (at_mem hi2)).1
      simp (maxSteps := 4000000) only [go_sem, AV.one, drawV, intsOf, keyIdx, over, putO, memAt, List.map_cons, List.length_cons, ↓reduceIte, zdrop, one_i, one_b, one_sl, one_ptr, one_ref, one_nilp, one_mp, one_fn, one_nilf, dep_uk, getD_mapA hi, hi', hVi]
      all_goals (repeat' (first | with_reducible rfl | with_reducible apply And.intro | ((with_reducible show drawOK _ = true); rfl))) <;> (try first | omega | (simp only [InR]; omega) | with_reducible assumption)
      refine nxt hi trivial ?_
      simp [AV.bare, bel_ints, cs_arr, dep_arr, cs_int, cs_bool, cs_list, cs_sk, cs_sp, AtHead, Same, AllO, Begins, LtAll, headSt, tokz_nil, tokz_cons, tokz1, lk, dep_int, dep_bool, dep_list, dep_sk, dep_sp, memAt, bel_map, bel_mapF, bel_mapO, bel_undef, bel_int, bel_boolv, bel_nilp, bel_nilf, bel_ptr, bel_arr, bel_mp, bel_yld, bel_agg, bel_tup, bel_ref, bel_only, bel_mpr, bel_fn, bel_sl_nil, bel_sl_nilF, bel_sl_nilO, bel_sl_cons, bel_sl_app, belO_cells, belO_tok, belO_dead, belO_deferred, belO_map, belO_iter, belO_loop, bel_vec, bel_vp, belO_vecM, belO_vec, -List.map_map]
    · intro _
      simp (maxSteps := 4000000) only [go_sem, AV.one, drawV, intsOf, keyIdx, over, putO, memAt, List.map_cons, List.length_cons, ↓reduceIte, zdrop, one_i, one_b, one_sl, one_ptr, one_ref, one_nilp, one_mp, one_fn, one_nilf, dep_uk, Int.lt_irrefl]
      all_goals (repeat' (first | with_reducible rfl | with_reducible apply And.intro | ((with_reducible show drawOK _ = true); rfl))) <;> (try first | omega | (simp only [InR]; omega) | with_reducible assumption)
end Go.Proofs
