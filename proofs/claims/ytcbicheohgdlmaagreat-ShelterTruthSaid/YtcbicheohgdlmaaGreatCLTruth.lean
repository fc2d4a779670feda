/- The law ShelterTruth. -/
import Derived.Test.YtcbicheohgdlmaaGreatCLShows
set_option linter.all false
namespace Go.Proofs
open Go.Fs
set_option linter.unusedSimpArgs false
set_option linter.unusedVariables false
set_option maxHeartbeats 4000000
set_option maxRecDepth 8000
theorem ShelterTruth_true (s : Sh) (ws : List (Uk .u16)) (hw : WsOk ws) : CallP Tryz.prog 4 [Enc.enc s, Enc.enc ws] (· = Enc.enc true) := by
  cases c1 : thinB s
  · simp only [enc_fnl, enc_fnb, enc_fnc, enc_refc, enc_arr, enc_int, enc_bool, enc_list, enc_sk, enc_sp, enc_rg, enc_sh, enc_tr, enc_refs, enc_fns, enc_wks]
    refine callP_of_vc (Φ := P51) Tryz.func4 rfl (by rfl) (by rw [Tryz.ntmps4]; simp) mixed P51_ok (by simp [AV.strip, AV.strip1, Tk.strip]) ?_
    rw [Tryz.ntmps4]
    simp only [Tryz.f4, startSt, tmFrom]
    simp (maxSteps := 4000000) only [go_sem, AV.one, drawV, intsOf, keyIdx, over, putO, memAt, List.map_cons, List.length_cons, ↓reduceIte, zdrop, one_i, one_b, one_sl, one_ptr, one_ref, one_nilp, one_mp, one_fn, one_nilf, dep_uk, c1]
    all_goals (repeat' (first | with_reducible rfl | with_reducible apply And.intro | ((with_reducible show drawOK _ _ = true); rfl))) <;> (try first | omega | (simp only [InR]; omega) | with_reducible assumption)
  have hl := thin_len c1
  cases c2 : decide (faultS s = 0)
  · simp only [enc_fnl, enc_fnb, enc_fnc, enc_refc, enc_arr, enc_int, enc_bool, enc_list, enc_sk, enc_sp, enc_rg, enc_sh, enc_tr, enc_refs, enc_fns, enc_wks]
    refine callP_of_vc (Φ := P51) Tryz.func4 rfl (by rfl) (by rw [Tryz.ntmps4]; simp) mixed P51_ok (by simp [AV.strip, AV.strip1, Tk.strip]) ?_
    rw [Tryz.ntmps4]
    simp only [Tryz.f4, startSt, tmFrom]
    simp (maxSteps := 4000000) only [go_sem, AV.one, drawV, intsOf, keyIdx, over, putO, memAt, List.map_cons, List.length_cons, ↓reduceIte, zdrop, one_i, one_b, one_sl, one_ptr, one_ref, one_nilp, one_mp, one_fn, one_nilf, dep_uk, c1, c2]
    all_goals (repeat' (first | with_reducible rfl | with_reducible apply And.intro | ((with_reducible show drawOK _ _ = true); rfl))) <;> (try first | omega | (simp only [InR]; omega) | with_reducible assumption)
  have hf : faultS s = 0 := by simpa using c2
  have hs := fault_ok hf
  have h8 := hs.len
  have m1 := best_good hs
  have hp := planW_plan hs hw
  obtain ⟨P, hP⟩ : ∃ P, planW s ws s.stacks.length = P := ⟨_, rfl⟩
  rw [hP] at hp
  have hpl := (plan_ge hp).1
  have e1 := sure_good hs hp
  have hle := sure_most hs hp
  obtain ⟨g1, g2, g3⟩ := got_sure hs hp ws
  have hv := fun i (hi : i < s.stacks.length) => verdict_truth hs hp ws hi
  have hq := best_plan hs
  obtain ⟨k1, k2, k3⟩ := got_sure hs hq ws
  rw [sure_best hs] at k3
  have e5 := sure_good hs hq
  rw [sure_best hs] at e5
  have hbl := best_len s
  have htl : (trulyS s ws).leaks.length = s.stacks.length := leaksW_len s ws _
  have hBl := got_len P (trulyS s ws)
  have hBa := fun i (hi : i < P.length) => got_at P (trulyS s ws) hi
  have hCl := got_len (bestS s) (trulyS s ws)
  obtain ⟨V, hV⟩ : ∃ V, (List.range P.length).map (verdictW s P) = V := ⟨_, rfl⟩
  have e2 : savedQ s P = (V, 0) := by rw [saved_good hs hp, hV]
  have hVl : V.length = P.length := by rw [← hV]; simp
  have hVa : ∀ i, i < P.length → at_ V i = verdictW s P i := fun i hi => by
    rw [← hV]
    simp only [at_, List.getD, List.getElem?_map, List.getElem?_range hi, Option.map_some, Option.getD_some]
  obtain ⟨q, hqe⟩ : ∃ q, bestS s = q := ⟨_, rfl⟩
  rw [hqe] at m1 hq k1 k2 k3 e5 hbl hCl
  have e6 : proveSureB s q (mostS s) = true := by unfold proveSureB; rw [e5]; simp
  have x1 := show_good hs
  have x2 := show_proof hs
  have x3 := show_bound hs
  have x4 : (showS s).length ≤ 9 := by unfold showS; rw [List.length_map]; exact num_len hs
  obtain ⟨X, hX⟩ : ∃ X, showS s = X := ⟨_, rfl⟩
  rw [hX] at x1 x2 x3 x4
  have e7 : proveBoundB s X (mostS s) = true := by rw [pbound_good hs x2, x3]; simp
  obtain ⟨T, hT⟩ : ∃ T, trulyS s ws = T := ⟨_, rfl⟩
  rw [hT] at g1 g2 g3 hv k1 k2 k3 htl hBl hBa hCl
  obtain ⟨B, hB⟩ : ∃ B, gotL P T = B := ⟨_, rfl⟩
  rw [hB] at g1 g2 g3 hBl hBa
  obtain ⟨C, hC⟩ : ∃ C, gotL q T = C := ⟨_, rfl⟩
  rw [hC] at k1 k2 k3 hCl
  obtain ⟨N, hN⟩ : ∃ N, sumB' s B P.length = N := ⟨_, rfl⟩
  rw [hN] at g2 g3
  obtain ⟨N2, hN2⟩ : ∃ N2, sumB' s C q.length = N2 := ⟨_, rfl⟩
  rw [hN2] at k2 k3
  have d1 : decide (N < sureS s P) = false := decide_eq_false (by omega)
  have d2 : decide (mostS s < sureS s P) = false := decide_eq_false (by omega)
  have d3 : decide (N2 ≥ mostS s) = true := decide_eq_true k3
  have d4 : decide ((V.length : Int) = B.length) = true := decide_eq_true (by omega)
  simp only [enc_fnl, enc_fnb, enc_fnc, enc_refc, enc_arr, enc_int, enc_bool, enc_list, enc_sk, enc_sp, enc_rg, enc_sh, enc_tr, enc_refs, enc_fns, enc_wks]
  refine callP_of_vc (Φ := P51) Tryz.func4 rfl (by rfl) (by rw [Tryz.ntmps4]; simp) mixed P51_ok (by simp [AV.strip, AV.strip1, Tk.strip]) ?_
  rw [Tryz.ntmps4]
  simp only [Tryz.f4, startSt, tmFrom]
  simp (maxSteps := 4000000) only [go_sem, AV.one, drawV, intsOf, keyIdx, over, putO, memAt, List.map_cons, List.length_cons, ↓reduceIte, zdrop, one_i, one_b, one_sl, one_ptr, one_ref, one_nilp, one_mp, one_fn, one_nilf, dep_uk, c1, c2, hP, hT, g1, g2, e1, e2, d1, d4, Bool.true_bne, Bool.false_bne]
  all_goals (repeat' (first | with_reducible rfl | with_reducible apply And.intro | ((with_reducible show drawOK _ _ = true); rfl))) <;> (try first | omega | (simp only [InR]; omega) | with_reducible assumption)
  refine loopN (V.length) [] [2, 4, 5, 7, 9, 11] (fun i => [(15, .int .i64 i)]) (fun _ m => m) (fun _ => True) ?_ ?_ ?_ ?_
  · trivial
  · simp [AV.bare, bel_ints, cs_arr, dep_arr, cs_int, cs_bool, cs_list, cs_sk, cs_sp, AtHead, Same, AllO, Begins, LtAll, headSt, tokz_nil, tokz_cons, tokz1, lk, dep_int, dep_bool, dep_list, dep_sk, dep_sp, memAt, bel_map, bel_mapF, bel_mapO, bel_undef, bel_int, bel_boolv, bel_nilp, bel_nilf, bel_ptr, bel_arr, bel_mp, bel_yld, bel_agg, bel_tup, bel_ref, bel_only, bel_mpr, bel_fn, bel_sl_nil, bel_sl_nilF, bel_sl_nilO, bel_sl_cons, bel_sl_app, belO_cells, belO_tok, belO_dead, belO_deferred, belO_map, belO_iter, belO_loop, bel_vec, bel_vp, belO_vecM, belO_vec, dep_uk, -List.map_map]
  · intro i hi _
    have hi' := Int.ofNat_lt.2 hi
    have hib : i < B.length := by omega
    have hVi := hVa i (by omega)
    have hBi := hBa i (by omega)
    have hn12 : decide ((1 : Int) = 2) = false := rfl
    have hn21 : decide ((2 : Int) = 1) = false := rfl
    have hn31 : decide ((3 : Int) = 1) = false := rfl
    have hn32 : decide ((3 : Int) = 2) = false := rfl
    have i1 : inB 1 1 3 = true := rfl
    have i2 : inB 2 1 3 = true := rfl
    have i3 : inB 3 1 3 = true := rfl
    rcases hv i (by omega) with ⟨v1, v2⟩ | ⟨v1, v2⟩ | v1
    · rw [v1] at hVi
      rw [v2] at hBi
      simp (maxSteps := 4000000) only [go_sem, AV.one, drawV, intsOf, keyIdx, over, putO, memAt, List.map_cons, List.length_cons, ↓reduceIte, zdrop, one_i, one_b, one_sl, one_ptr, one_ref, one_nilp, one_mp, one_fn, one_nilf, dep_uk, getD_mapA hi, getD_mapA hib, hi', hVi, hBi, i1, hn12]
      all_goals (repeat' (first | with_reducible rfl | with_reducible apply And.intro | ((with_reducible show drawOK _ _ = true); rfl))) <;> (try first | omega | (simp only [InR]; omega) | with_reducible assumption)
      refine nxt hi trivial ?_
      simp [AV.bare, bel_ints, cs_arr, dep_arr, cs_int, cs_bool, cs_list, cs_sk, cs_sp, AtHead, Same, AllO, Begins, LtAll, headSt, tokz_nil, tokz_cons, tokz1, lk, dep_int, dep_bool, dep_list, dep_sk, dep_sp, memAt, bel_map, bel_mapF, bel_mapO, bel_undef, bel_int, bel_boolv, bel_nilp, bel_nilf, bel_ptr, bel_arr, bel_mp, bel_yld, bel_agg, bel_tup, bel_ref, bel_only, bel_mpr, bel_fn, bel_sl_nil, bel_sl_nilF, bel_sl_nilO, bel_sl_cons, bel_sl_app, belO_cells, belO_tok, belO_dead, belO_deferred, belO_map, belO_iter, belO_loop, bel_vec, bel_vp, belO_vecM, belO_vec, dep_uk, -List.map_map]
    · rw [v1] at hVi
      rw [v2] at hBi
      simp (maxSteps := 4000000) only [go_sem, AV.one, drawV, intsOf, keyIdx, over, putO, memAt, List.map_cons, List.length_cons, ↓reduceIte, zdrop, one_i, one_b, one_sl, one_ptr, one_ref, one_nilp, one_mp, one_fn, one_nilf, dep_uk, getD_mapA hi, getD_mapA hib, hi', hVi, hBi, i2, hn21]
      all_goals (repeat' (first | with_reducible rfl | with_reducible apply And.intro | ((with_reducible show drawOK _ _ = true); rfl))) <;> (try first | omega | (simp only [InR]; omega) | with_reducible assumption)
      refine nxt hi trivial ?_
      simp [AV.bare, bel_ints, cs_arr, dep_arr, cs_int, cs_bool, cs_list, cs_sk, cs_sp, AtHead, Same, AllO, Begins, LtAll, headSt, tokz_nil, tokz_cons, tokz1, lk, dep_int, dep_bool, dep_list, dep_sk, dep_sp, memAt, bel_map, bel_mapF, bel_mapO, bel_undef, bel_int, bel_boolv, bel_nilp, bel_nilf, bel_ptr, bel_arr, bel_mp, bel_yld, bel_agg, bel_tup, bel_ref, bel_only, bel_mpr, bel_fn, bel_sl_nil, bel_sl_nilF, bel_sl_nilO, bel_sl_cons, bel_sl_app, belO_cells, belO_tok, belO_dead, belO_deferred, belO_map, belO_iter, belO_loop, bel_vec, bel_vp, belO_vecM, belO_vec, dep_uk, -List.map_map]
    · rw [v1] at hVi
      simp (maxSteps := 4000000) only [go_sem, AV.one, drawV, intsOf, keyIdx, over, putO, memAt, List.map_cons, List.length_cons, ↓reduceIte, zdrop, one_i, one_b, one_sl, one_ptr, one_ref, one_nilp, one_mp, one_fn, one_nilf, dep_uk, getD_mapA hi, getD_mapA hib, hi', hVi, hBi, i3, hn31, hn32]
      all_goals (repeat' (first | with_reducible rfl | with_reducible apply And.intro | ((with_reducible show drawOK _ _ = true); rfl))) <;> (try first | omega | (simp only [InR]; omega) | with_reducible assumption)
      refine nxt hi trivial ?_
      simp [AV.bare, bel_ints, cs_arr, dep_arr, cs_int, cs_bool, cs_list, cs_sk, cs_sp, AtHead, Same, AllO, Begins, LtAll, headSt, tokz_nil, tokz_cons, tokz1, lk, dep_int, dep_bool, dep_list, dep_sk, dep_sp, memAt, bel_map, bel_mapF, bel_mapO, bel_undef, bel_int, bel_boolv, bel_nilp, bel_nilf, bel_ptr, bel_arr, bel_mp, bel_yld, bel_agg, bel_tup, bel_ref, bel_only, bel_mpr, bel_fn, bel_sl_nil, bel_sl_nilF, bel_sl_nilO, bel_sl_cons, bel_sl_app, belO_cells, belO_tok, belO_dead, belO_deferred, belO_map, belO_iter, belO_loop, bel_vec, bel_vp, belO_vecM, belO_vec, dep_uk, -List.map_map]
  · intro _
    simp (maxSteps := 4000000) only [go_sem, AV.one, drawV, intsOf, keyIdx, over, putO, memAt, List.map_cons, List.length_cons, ↓reduceIte, zdrop, one_i, one_b, one_sl, one_ptr, one_ref, one_nilp, one_mp, one_fn, one_nilf, dep_uk, Int.lt_irrefl, m1, x1, e6, e7, d2, k1, k2, d3, Bool.true_bne, Bool.false_bne]
    all_goals (repeat' (first | with_reducible rfl | with_reducible apply And.intro | ((with_reducible show drawOK _ _ = true); rfl))) <;> (try first | omega | (simp only [InR]; omega) | with_reducible assumption)
end Go.Proofs
