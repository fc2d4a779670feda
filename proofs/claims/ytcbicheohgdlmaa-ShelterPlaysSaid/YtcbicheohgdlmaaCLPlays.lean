/- The law ShelterPlays. -/
import Derived.Test.YtcbicheohgdlmaaG14
set_option linter.all false
namespace Go.Proofs
open Go.Fs
set_option linter.unusedSimpArgs false
set_option linter.unusedVariables false
set_option maxHeartbeats 4000000
set_option maxRecDepth 8000

theorem ShelterPlays_true (s : Sh) (plan : List Int) (t : Tr) : CallP Try.prog 3 [Enc.enc s, Enc.enc plan, Enc.enc t] (· = Enc.enc true) := by
  cases c1 : thinB s
  · simp only [enc_fnl, enc_fnb, enc_fnc, enc_refc, enc_arr, enc_int, enc_bool, enc_list, enc_sk, enc_sp, enc_rg, enc_sh, enc_tr, enc_refs, enc_fns, enc_wks]
    refine callP_of_vc (Φ := P49) Try.func3 rfl (by rfl) (by rw [Try.ntmps3]; simp) mixed P49_ok (by simp [AV.strip, AV.strip1, Tk.strip]) ?_
    rw [Try.ntmps3]
    simp only [Try.f3, startSt, tmFrom]
    simp (maxSteps := 4000000) only [go_sem, AV.one, drawV, intsOf, keyIdx, over, putO, memAt, List.map_cons, List.length_cons, ↓reduceIte, zdrop, one_i, one_b, one_sl, one_ptr, one_ref, one_nilp, one_mp, one_fn, one_nilf, dep_uk, c1]
    all_goals (repeat' (first | with_reducible rfl | with_reducible apply And.intro | ((with_reducible show drawOK _ = true); rfl))) <;> (try first | omega | (simp only [InR]; omega) | with_reducible assumption)
  have hl := thin_len c1
  by_cases c0 : (12 : Int) < plan.length
  · simp only [enc_fnl, enc_fnb, enc_fnc, enc_refc, enc_arr, enc_int, enc_bool, enc_list, enc_sk, enc_sp, enc_rg, enc_sh, enc_tr, enc_refs, enc_fns, enc_wks]
    refine callP_of_vc (Φ := P49) Try.func3 rfl (by rfl) (by rw [Try.ntmps3]; simp) mixed P49_ok (by simp [AV.strip, AV.strip1, Tk.strip]) ?_
    rw [Try.ntmps3]
    simp only [Try.f3, startSt, tmFrom]
    simp (maxSteps := 4000000) only [go_sem, AV.one, drawV, intsOf, keyIdx, over, putO, memAt, List.map_cons, List.length_cons, ↓reduceIte, zdrop, one_i, one_b, one_sl, one_ptr, one_ref, one_nilp, one_mp, one_fn, one_nilf, dep_uk, c1, c0]
    all_goals (repeat' (first | with_reducible rfl | with_reducible apply And.intro | ((with_reducible show drawOK _ = true); rfl))) <;> (try first | omega | (simp only [InR]; omega) | with_reducible assumption)
  by_cases c01 : (12 : Int) < t.leaks.length
  · simp only [enc_fnl, enc_fnb, enc_fnc, enc_refc, enc_arr, enc_int, enc_bool, enc_list, enc_sk, enc_sp, enc_rg, enc_sh, enc_tr, enc_refs, enc_fns, enc_wks]
    refine callP_of_vc (Φ := P49) Try.func3 rfl (by rfl) (by rw [Try.ntmps3]; simp) mixed P49_ok (by simp [AV.strip, AV.strip1, Tk.strip]) ?_
    rw [Try.ntmps3]
    simp only [Try.f3, startSt, tmFrom]
    simp (maxSteps := 4000000) only [go_sem, AV.one, drawV, intsOf, keyIdx, over, putO, memAt, List.map_cons, List.length_cons, ↓reduceIte, zdrop, one_i, one_b, one_sl, one_ptr, one_ref, one_nilp, one_mp, one_fn, one_nilf, dep_uk, c1, c0, c01]
    all_goals (repeat' (first | with_reducible rfl | with_reducible apply And.intro | ((with_reducible show drawOK _ = true); rfl))) <;> (try first | omega | (simp only [InR]; omega) | with_reducible assumption)
  have hl2 : plan.length ≤ 12 := by omega
  have hl3 : t.leaks.length ≤ 12 := by omega
  by_cases c2 : faultS s = 0
  case neg =>
    have e1 := play_bad plan t c2
    simp only [enc_fnl, enc_fnb, enc_fnc, enc_refc, enc_arr, enc_int, enc_bool, enc_list, enc_sk, enc_sp, enc_rg, enc_sh, enc_tr, enc_refs, enc_fns, enc_wks]
    refine callP_of_vc (Φ := P49) Try.func3 rfl (by rfl) (by rw [Try.ntmps3]; simp) mixed P49_ok (by simp [AV.strip, AV.strip1, Tk.strip]) ?_
    rw [Try.ntmps3]
    simp only [Try.f3, startSt, tmFrom]
    simp (maxSteps := 4000000) only [go_sem, AV.one, drawV, intsOf, keyIdx, over, putO, memAt, List.map_cons, List.length_cons, ↓reduceIte, zdrop, one_i, one_b, one_sl, one_ptr, one_ref, one_nilp, one_mp, one_fn, one_nilf, dep_uk, c1, c0, c01, c2, e1, Bool.true_bne, Bool.false_bne]
    all_goals (repeat' (first | with_reducible rfl | with_reducible apply And.intro | ((with_reducible show drawOK _ = true); rfl))) <;> (try first | omega | (simp only [InR]; omega) | with_reducible assumption)
  have hs := fault_ok c2
  have hpg := play_good hs plan t
  cases c3 : planB s plan
  · have e1 : playQ s plan t = ([], 2) := by rw [hpg, c3]; rfl
    simp only [enc_fnl, enc_fnb, enc_fnc, enc_refc, enc_arr, enc_int, enc_bool, enc_list, enc_sk, enc_sp, enc_rg, enc_sh, enc_tr, enc_refs, enc_fns, enc_wks]
    refine callP_of_vc (Φ := P49) Try.func3 rfl (by rfl) (by rw [Try.ntmps3]; simp) mixed P49_ok (by simp [AV.strip, AV.strip1, Tk.strip]) ?_
    rw [Try.ntmps3]
    simp only [Try.f3, startSt, tmFrom]
    simp (maxSteps := 4000000) only [go_sem, AV.one, drawV, intsOf, keyIdx, over, putO, memAt, List.map_cons, List.length_cons, ↓reduceIte, zdrop, one_i, one_b, one_sl, one_ptr, one_ref, one_nilp, one_mp, one_fn, one_nilf, dep_uk, c1, c0, c01, c2, c3, e1, Bool.true_bne, Bool.false_bne]
    all_goals (repeat' (first | with_reducible rfl | with_reducible apply And.intro | ((with_reducible show drawOK _ = true); rfl))) <;> (try first | omega | (simp only [InR]; omega) | with_reducible assumption)
  cases c4 : truthB s t
  · have e1 : playQ s plan t = ([], 2) := by rw [hpg, c3, c4]; rfl
    simp only [enc_fnl, enc_fnb, enc_fnc, enc_refc, enc_arr, enc_int, enc_bool, enc_list, enc_sk, enc_sp, enc_rg, enc_sh, enc_tr, enc_refs, enc_fns, enc_wks]
    refine callP_of_vc (Φ := P49) Try.func3 rfl (by rfl) (by rw [Try.ntmps3]; simp) mixed P49_ok (by simp [AV.strip, AV.strip1, Tk.strip]) ?_
    rw [Try.ntmps3]
    simp only [Try.f3, startSt, tmFrom]
    simp (maxSteps := 4000000) only [go_sem, AV.one, drawV, intsOf, keyIdx, over, putO, memAt, List.map_cons, List.length_cons, ↓reduceIte, zdrop, one_i, one_b, one_sl, one_ptr, one_ref, one_nilp, one_mp, one_fn, one_nilf, dep_uk, c1, c0, c01, c2, c3, c4, e1, Bool.true_bne, Bool.false_bne]
    all_goals (repeat' (first | with_reducible rfl | with_reducible apply And.intro | ((with_reducible show drawOK _ = true); rfl))) <;> (try first | omega | (simp only [InR]; omega) | with_reducible assumption)
  obtain ⟨B, hB⟩ : ∃ B, (List.range plan.length).map (fun i => savesB (at_ plan i) (t.rain + at_ t.leaks i)) = B := ⟨_, rfl⟩
  have e1 : playQ s plan t = (B, 0) := by rw [hpg, c3, c4, hB]; rfl
  have hBl : B.length = plan.length := by rw [← hB]; simp
  obtain ⟨b1, b2, b3⟩ := truth_bd hs c4
  obtain ⟨p1, p2⟩ := plan_ge c3
  simp only [enc_fnl, enc_fnb, enc_fnc, enc_refc, enc_arr, enc_int, enc_bool, enc_list, enc_sk, enc_sp, enc_rg, enc_sh, enc_tr, enc_refs, enc_fns, enc_wks]
  refine callP_of_vc (Φ := P49) Try.func3 rfl (by rfl) (by rw [Try.ntmps3]; simp) mixed P49_ok (by simp [AV.strip, AV.strip1, Tk.strip]) ?_
  rw [Try.ntmps3]
  simp only [Try.f3, startSt, tmFrom]
  simp (maxSteps := 4000000) only [go_sem, AV.one, drawV, intsOf, keyIdx, over, putO, memAt, List.map_cons, List.length_cons, ↓reduceIte, zdrop, one_i, one_b, one_sl, one_ptr, one_ref, one_nilp, one_mp, one_fn, one_nilf, dep_uk, c1, c0, c01, c2, c3, c4, e1, hBl, Bool.true_bne, Bool.false_bne]
  all_goals (repeat' (first | with_reducible rfl | with_reducible apply And.intro | ((with_reducible show drawOK _ = true); rfl))) <;> (try first | omega | (simp only [InR]; omega) | with_reducible assumption)
  refine loopN (B.length) [] [1, 5, 6, 7] (fun i => [(10, .int .i64 i)]) (fun _ m => m) (fun _ => True) ?_ ?_ ?_ ?_
  · trivial
  · simp [AV.bare, bel_ints, cs_arr, dep_arr, cs_int, cs_bool, cs_list, cs_sk, cs_sp, AtHead, Same, AllO, Begins, LtAll, headSt, tokz_nil, tokz_cons, tokz1, lk, dep_int, dep_bool, dep_list, dep_sk, dep_sp, memAt, bel_map, bel_mapF, bel_mapO, bel_undef, bel_int, bel_boolv, bel_nilp, bel_nilf, bel_ptr, bel_arr, bel_mp, bel_yld, bel_agg, bel_tup, bel_ref, bel_only, bel_mpr, bel_fn, bel_sl_nil, bel_sl_nilF, bel_sl_nilO, bel_sl_cons, bel_sl_app, belO_cells, belO_tok, belO_dead, belO_deferred, belO_map, belO_iter, belO_loop, bel_vec, bel_vp, belO_vecM, belO_vec, -List.map_map]
  · intro i hi _
    have hi' := Int.ofNat_lt.2 hi
    have hi2 : i < plan.length := by omega
    have hBi : at_ B i = savedB plan t i := by
      rw [← hB]
      unfold savedB
      simp only [at_, List.getD, List.getElem?_map, List.getElem?_range hi2, Option.map_some, Option.getD_some, Int.toNat_natCast]
      exact saves_sav (p2 _ (at_mem hi2)).1 _
    have hlb := b3 i (by omega)
    simp (maxSteps := 4000000) only [go_sem, AV.one, drawV, intsOf, keyIdx, over, putO, memAt, List.map_cons, List.length_cons, ↓reduceIte, zdrop, one_i, one_b, one_sl, one_ptr, one_ref, one_nilp, one_mp, one_fn, one_nilf, dep_uk, getD_mapA hi, hi', hBi, bne_self_eq_false]
    all_goals (repeat' (first | with_reducible rfl | with_reducible apply And.intro | ((with_reducible show drawOK _ = true); rfl))) <;> (try first | omega | (simp only [InR]; omega) | with_reducible assumption)
    refine nxt hi trivial ?_
    simp [AV.bare, bel_ints, cs_arr, dep_arr, cs_int, cs_bool, cs_list, cs_sk, cs_sp, AtHead, Same, AllO, Begins, LtAll, headSt, tokz_nil, tokz_cons, tokz1, lk, dep_int, dep_bool, dep_list, dep_sk, dep_sp, memAt, bel_map, bel_mapF, bel_mapO, bel_undef, bel_int, bel_boolv, bel_nilp, bel_nilf, bel_ptr, bel_arr, bel_mp, bel_yld, bel_agg, bel_tup, bel_ref, bel_only, bel_mpr, bel_fn, bel_sl_nil, bel_sl_nilF, bel_sl_nilO, bel_sl_cons, bel_sl_app, belO_cells, belO_tok, belO_dead, belO_deferred, belO_map, belO_iter, belO_loop, bel_vec, bel_vp, belO_vecM, belO_vec, -List.map_map]
  · intro _
    simp (maxSteps := 4000000) only [go_sem, AV.one, drawV, intsOf, keyIdx, over, putO, memAt, List.map_cons, List.length_cons, ↓reduceIte, zdrop, one_i, one_b, one_sl, one_ptr, one_ref, one_nilp, one_mp, one_fn, one_nilf, dep_uk, Int.lt_irrefl]
    all_goals (repeat' (first | with_reducible rfl | with_reducible apply And.intro | ((with_reducible show drawOK _ = true); rfl))) <;> (try first | omega | (simp only [InR]; omega) | with_reducible assumption)
end Go.Proofs
