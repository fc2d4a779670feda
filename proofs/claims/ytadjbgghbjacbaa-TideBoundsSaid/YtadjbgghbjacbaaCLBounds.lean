/- The law TideBounds. -/
import Derived.Test.YtadjbgghbjacbaaG13
set_option linter.all false
namespace Go.Proofs
open Go.Fs
set_option linter.unusedSimpArgs false
set_option linter.unusedVariables false
set_option maxHeartbeats 4000000
set_option maxRecDepth 8000

theorem bnd_getD (L : List (List Int)) {n i : Nat} (h : i < n) : (((List.range n).map fun i : Nat => boundsL L i).map EncE.cs).getD i [] = EncE.cs (boundsL L i) := by
  rw [getD_mapA (by simpa using h)]
  congr 1
  simp [at_, h]
theorem TideBounds_true (t : Tb) (row hour : Int) : CallP Try.prog 3 [Enc.enc t, Enc.enc row, Enc.enc hour] (· = Enc.enc true) := by
  cases c1 : thinB t
  · simp only [enc_fnl, enc_fnb, enc_fnc, enc_refc, enc_arr, enc_int, enc_bool, enc_list, enc_rg, enc_mk, enc_tb]
    refine callP_of_vc (Φ := P50) Try.func3 rfl (by rfl) (by rw [Try.ntmps3]; simp) mixed P50_ok (by simp [AV.strip, Tk.strip]) ?_
    rw [Try.ntmps3]
    simp only [Try.f3, startSt, tmFrom]
    simp (maxSteps := 4000000) only [go_sem, AV.one, drawV, intsOf, keyIdx, over, putO, memAt, List.map_cons, List.length_cons, ↓reduceIte, snap_trues, imm_trues, enc_pair, enc_iterv, zdrop, one_i, one_b, one_sl, one_ptr, one_ref, one_nilp, one_mp, one_fn, one_nilf, c1]
    all_goals (repeat' (first | with_reducible rfl | with_reducible apply And.intro | ((with_reducible show drawOK _ = true); rfl))) <;> (try first | omega | (simp only [InR]; omega) | with_reducible assumption)
  have hl := thin_len c1
  by_cases c2 : faultT t = 0
  case neg =>
    have e0 : bndQ t = ([], faultT t) := by unfold bndQ; rw [askErr_bad _ c2, if_neg c2]
    have e1 : wetQ t row hour = (0, faultT t) := by unfold wetQ; rw [askErr_bad _ c2, if_neg c2]
    have e2 := sureQ_bad c2
    simp only [enc_fnl, enc_fnb, enc_fnc, enc_refc, enc_arr, enc_int, enc_bool, enc_list, enc_rg, enc_mk, enc_tb]
    refine callP_of_vc (Φ := P50) Try.func3 rfl (by rfl) (by rw [Try.ntmps3]; simp) mixed P50_ok (by simp [AV.strip, Tk.strip]) ?_
    rw [Try.ntmps3]
    simp only [Try.f3, startSt, tmFrom]
    simp (maxSteps := 4000000) only [go_sem, AV.one, drawV, intsOf, keyIdx, over, putO, memAt, List.map_cons, List.length_cons, ↓reduceIte, snap_trues, imm_trues, enc_pair, enc_iterv, zdrop, one_i, one_b, one_sl, one_ptr, one_ref, one_nilp, one_mp, one_fn, one_nilf, c1, c2, e0, e1, e2]
    all_goals (repeat' (first | with_reducible rfl | with_reducible apply And.intro | ((with_reducible show drawOK _ = true); rfl))) <;> (try first | omega | (simp only [InR]; omega) | with_reducible assumption)
  have hv := fault_ok c2
  have hl0 := fault_l0 c2
  have hl9 := hv.l9
  have hlast := hv.last
  obtain ⟨h4, h5⟩ := truths_facts c2
  by_cases c4 : truthsL t = []
  · have e0 : bndQ t = ([], 11) := by unfold bndQ; rw [askErr_dry c2 c4, if_neg (by decide)]
    have e2 := sureQ_dry c2 c4
    cases c3 : inB row 0 (t.levels.length - 1) <;> cases c5 : inB hour 0 t.last
    case true.true =>
      have e1 : wetQ t row hour = (0, 11) := by unfold wetQ; rw [c3, c5, show (true && true) = true from rfl, askErr_dry c2 c4, if_neg (by decide)]
      simp only [enc_fnl, enc_fnb, enc_fnc, enc_refc, enc_arr, enc_int, enc_bool, enc_list, enc_rg, enc_mk, enc_tb]
      refine callP_of_vc (Φ := P50) Try.func3 rfl (by rfl) (by rw [Try.ntmps3]; simp) mixed P50_ok (by simp [AV.strip, Tk.strip]) ?_
      rw [Try.ntmps3]
      simp only [Try.f3, startSt, tmFrom]
      simp (maxSteps := 4000000) only [go_sem, AV.one, drawV, intsOf, keyIdx, over, putO, memAt, List.map_cons, List.length_cons, ↓reduceIte, snap_trues, imm_trues, enc_pair, enc_iterv, zdrop, one_i, one_b, one_sl, one_ptr, one_ref, one_nilp, one_mp, one_fn, one_nilf, c1, c2, c3, c5, e0, e1, e2]
      all_goals (repeat' (first | with_reducible rfl | with_reducible apply And.intro | ((with_reducible show drawOK _ = true); rfl))) <;> (try first | omega | (simp only [InR]; omega) | with_reducible assumption)
    all_goals
      have e1 : wetQ t row hour = (0, 2) := by unfold wetQ; rw [c3, c5]; simp only [Bool.true_and, Bool.false_and]; rw [askErr_out c2, if_neg (by decide)]
      simp only [enc_fnl, enc_fnb, enc_fnc, enc_refc, enc_arr, enc_int, enc_bool, enc_list, enc_rg, enc_mk, enc_tb]
      refine callP_of_vc (Φ := P50) Try.func3 rfl (by rfl) (by rw [Try.ntmps3]; simp) mixed P50_ok (by simp [AV.strip, Tk.strip]) ?_
      rw [Try.ntmps3]
      simp only [Try.f3, startSt, tmFrom]
      simp (maxSteps := 4000000) only [go_sem, AV.one, drawV, intsOf, keyIdx, over, putO, memAt, List.map_cons, List.length_cons, ↓reduceIte, snap_trues, imm_trues, enc_pair, enc_iterv, zdrop, one_i, one_b, one_sl, one_ptr, one_ref, one_nilp, one_mp, one_fn, one_nilf, c1, c2, c3, c5, e0, e1, e2]
      all_goals (repeat' (first | with_reducible rfl | with_reducible apply And.intro | ((with_reducible show drawOK _ = true); rfl))) <;> (try first | omega | (simp only [InR]; omega) | with_reducible assumption)
  have e0 : bndQ t = ((List.range (t.last + 1).toNat).map fun i : Nat => boundsL (truthsL t) i, 0) := by unfold bndQ; rw [askErr_ok c2 c4, if_pos rfl]
  have e2 := sureQ_ok c2 c4
  have hlr : decide ((((t.last + 1).toNat : Nat) : Int) = t.last + 1) = true := by simp; omega
  have hgd : ∀ i : Nat, i < (t.last + 1).toNat → _ := fun i hi => bnd_getD (truthsL t) hi
  have hgr : (∃ x : Int, (t.levels.map EncE.cs).getD row.toNat [] = [AV.int .i64 x]) ∨ (t.levels.map EncE.cs).getD row.toNat [] = [] := by
    by_cases z : row.toNat < t.levels.length
    · exact .inl ⟨at_ t.levels row.toNat, by rw [getD_mapA z]; rfl⟩
    · exact .inr (by simp [List.getD, z])
  cases c3 : inB row 0 (t.levels.length - 1) <;> cases c5 : inB hour 0 t.last
  case true.true =>
    have e1 : wetQ t row hour = (verdictL (truthsL t) (at_ t.levels row.toNat) hour, 0) := by unfold wetQ; rw [c3, c5, show (true && true) = true from rfl, askErr_ok c2 c4, if_pos rfl]
    obtain ⟨h6, h7, h8⟩ := row_facts c3
    have h9 := (inB_iff _ _ _).1 c5
    simp only [enc_fnl, enc_fnb, enc_fnc, enc_refc, enc_arr, enc_int, enc_bool, enc_list, enc_rg, enc_mk, enc_tb]
    refine callP_of_vc (Φ := P50) Try.func3 rfl (by rfl) (by rw [Try.ntmps3]; simp) mixed P50_ok (by simp [AV.strip, Tk.strip]) ?_
    rw [Try.ntmps3]
    simp only [Try.f3, startSt, tmFrom]
    simp (maxSteps := 4000000) only [go_sem, AV.one, drawV, intsOf, keyIdx, over, putO, memAt, List.map_cons, List.length_cons, ↓reduceIte, snap_trues, imm_trues, enc_pair, enc_iterv, zdrop, one_i, one_b, one_sl, one_ptr, one_ref, one_nilp, one_mp, one_fn, one_nilf, c1, c2, c3, c5, e0, e1, e2, List.length_range, hlr]
    all_goals (repeat' (first | with_reducible rfl | with_reducible apply And.intro | ((with_reducible show drawOK _ = true); rfl))) <;> (try first | omega | (simp only [InR]; omega) | with_reducible assumption)
    refine loopN ((t.last + 1).toNat) [] [1, 2, 3, 6, 7, 9, 11, 13] (fun i => [(14, .int .i64 i)]) (fun _ m => m) (fun _ => True) ?_ ?_ ?_ ?_
    · trivial
    · simp [bel_ints, cs_arr, dep_arr, cs_int, cs_bool, cs_list, cs_rg, cs_mk, AtHead, Same, AllO, Begins, LtAll, headSt, tokz_nil, tokz_cons, tokz1, lk, dep_int, dep_bool, dep_list, dep_rg, dep_mk, memAt, bel_map, bel_mapF, bel_mapO, bel_undef, bel_int, bel_boolv, bel_nilp, bel_nilf, bel_ptr, bel_arr, bel_mp, bel_yld, bel_agg, bel_tup, bel_ref, bel_only, bel_mpr, bel_fn, bel_sl_nil, bel_sl_nilF, bel_sl_nilO, bel_sl_cons, bel_sl_app, belO_cells, belO_tok, belO_dead, belO_deferred, belO_map, belO_iter, belO_loop, -List.map_map]
    · intro i hi _
      have hi' := Int.ofNat_lt.2 hi
      have hg := hgd i hi
      simp (maxSteps := 4000000) only [go_sem, AV.one, drawV, intsOf, keyIdx, over, putO, memAt, List.map_cons, List.length_cons, ↓reduceIte, snap_trues, imm_trues, enc_pair, enc_iterv, zdrop, one_i, one_b, one_sl, one_ptr, one_ref, one_nilp, one_mp, one_fn, one_nilf, hi', hg, List.length_range]
      all_goals (repeat' (first | with_reducible rfl | with_reducible apply And.intro | ((with_reducible show drawOK _ = true); rfl))) <;> (try first | omega | (simp only [InR]; omega) | with_reducible assumption)
      · intro l hl'; have := (h5 l hl').1; omega
      · refine nxt hi trivial ?_
        simp [bel_ints, cs_arr, dep_arr, cs_int, cs_bool, cs_list, cs_rg, cs_mk, AtHead, Same, AllO, Begins, LtAll, headSt, tokz_nil, tokz_cons, tokz1, lk, dep_int, dep_bool, dep_list, dep_rg, dep_mk, memAt, bel_map, bel_mapF, bel_mapO, bel_undef, bel_int, bel_boolv, bel_nilp, bel_nilf, bel_ptr, bel_arr, bel_mp, bel_yld, bel_agg, bel_tup, bel_ref, bel_only, bel_mpr, bel_fn, bel_sl_nil, bel_sl_nilF, bel_sl_nilO, bel_sl_cons, bel_sl_app, belO_cells, belO_tok, belO_dead, belO_deferred, belO_map, belO_iter, belO_loop, -List.map_map]
    · intro _
      simp (maxSteps := 4000000) only [go_sem, AV.one, drawV, intsOf, keyIdx, over, putO, memAt, List.map_cons, List.length_cons, ↓reduceIte, snap_trues, imm_trues, enc_pair, enc_iterv, zdrop, one_i, one_b, one_sl, one_ptr, one_ref, one_nilp, one_mp, one_fn, one_nilf, h8, List.length_range]
      all_goals (repeat' (first | with_reducible rfl | with_reducible apply And.intro | ((with_reducible show drawOK _ = true); rfl))) <;> (try first | omega | (simp only [InR]; omega) | with_reducible assumption)
      intro l hl'; have := (h5 l hl').1; omega
  all_goals
    have e1 : wetQ t row hour = (0, 2) := by unfold wetQ; rw [c3, c5]; simp only [Bool.true_and, Bool.false_and]; rw [askErr_out c2, if_neg (by decide)]
    simp only [enc_fnl, enc_fnb, enc_fnc, enc_refc, enc_arr, enc_int, enc_bool, enc_list, enc_rg, enc_mk, enc_tb]
    refine callP_of_vc (Φ := P50) Try.func3 rfl (by rfl) (by rw [Try.ntmps3]; simp) mixed P50_ok (by simp [AV.strip, Tk.strip]) ?_
    rw [Try.ntmps3]
    simp only [Try.f3, startSt, tmFrom]
    simp (maxSteps := 4000000) only [go_sem, AV.one, drawV, intsOf, keyIdx, over, putO, memAt, List.map_cons, List.length_cons, ↓reduceIte, snap_trues, imm_trues, enc_pair, enc_iterv, zdrop, one_i, one_b, one_sl, one_ptr, one_ref, one_nilp, one_mp, one_fn, one_nilf, c1, c2, c3, c5, e0, e1, e2, List.length_range, hlr]
    all_goals (repeat' (first | with_reducible rfl | with_reducible apply And.intro | ((with_reducible show drawOK _ = true); rfl))) <;> (try first | omega | (simp only [InR]; omega) | with_reducible assumption)
    refine loopN ((t.last + 1).toNat) [] [1, 2, 3, 6, 7, 9, 11, 13] (fun i => [(14, .int .i64 i)]) (fun _ m => m) (fun _ => True) ?_ ?_ ?_ ?_
    · trivial
    · simp [bel_ints, cs_arr, dep_arr, cs_int, cs_bool, cs_list, cs_rg, cs_mk, AtHead, Same, AllO, Begins, LtAll, headSt, tokz_nil, tokz_cons, tokz1, lk, dep_int, dep_bool, dep_list, dep_rg, dep_mk, memAt, bel_map, bel_mapF, bel_mapO, bel_undef, bel_int, bel_boolv, bel_nilp, bel_nilf, bel_ptr, bel_arr, bel_mp, bel_yld, bel_agg, bel_tup, bel_ref, bel_only, bel_mpr, bel_fn, bel_sl_nil, bel_sl_nilF, bel_sl_nilO, bel_sl_cons, bel_sl_app, belO_cells, belO_tok, belO_dead, belO_deferred, belO_map, belO_iter, belO_loop, -List.map_map]
    · intro i hi _
      have hi' := Int.ofNat_lt.2 hi
      have hg := hgd i hi
      simp (maxSteps := 4000000) only [go_sem, AV.one, drawV, intsOf, keyIdx, over, putO, memAt, List.map_cons, List.length_cons, ↓reduceIte, snap_trues, imm_trues, enc_pair, enc_iterv, zdrop, one_i, one_b, one_sl, one_ptr, one_ref, one_nilp, one_mp, one_fn, one_nilf, hi', hg, List.length_range]
      all_goals (repeat' (first | with_reducible rfl | with_reducible apply And.intro | ((with_reducible show drawOK _ = true); rfl))) <;> (try first | omega | (simp only [InR]; omega) | with_reducible assumption)
      · intro l hl'; have := (h5 l hl').1; omega
      · refine nxt hi trivial ?_
        simp [bel_ints, cs_arr, dep_arr, cs_int, cs_bool, cs_list, cs_rg, cs_mk, AtHead, Same, AllO, Begins, LtAll, headSt, tokz_nil, tokz_cons, tokz1, lk, dep_int, dep_bool, dep_list, dep_rg, dep_mk, memAt, bel_map, bel_mapF, bel_mapO, bel_undef, bel_int, bel_boolv, bel_nilp, bel_nilf, bel_ptr, bel_arr, bel_mp, bel_yld, bel_agg, bel_tup, bel_ref, bel_only, bel_mpr, bel_fn, bel_sl_nil, bel_sl_nilF, bel_sl_nilO, bel_sl_cons, bel_sl_app, belO_cells, belO_tok, belO_dead, belO_deferred, belO_map, belO_iter, belO_loop, -List.map_map]
    · intro _
      rcases hgr with ⟨x, hx⟩ | hx
      · simp (maxSteps := 4000000) only [go_sem, AV.one, drawV, intsOf, keyIdx, over, putO, memAt, List.map_cons, List.length_cons, ↓reduceIte, snap_trues, imm_trues, enc_pair, enc_iterv, zdrop, one_i, one_b, one_sl, one_ptr, one_ref, one_nilp, one_mp, one_fn, one_nilf, hx, List.length_range]
        all_goals (repeat' (first | with_reducible rfl | with_reducible apply And.intro | ((with_reducible show drawOK _ = true); rfl))) <;> (try first | omega | (simp only [InR]; omega) | with_reducible assumption)
      · simp (maxSteps := 4000000) only [go_sem, AV.one, drawV, intsOf, keyIdx, over, putO, memAt, List.map_cons, List.length_cons, ↓reduceIte, snap_trues, imm_trues, enc_pair, enc_iterv, zdrop, one_i, one_b, one_sl, one_ptr, one_ref, one_nilp, one_mp, one_fn, one_nilf, hx, List.length_range]
        all_goals (repeat' (first | with_reducible rfl | with_reducible apply And.intro | ((with_reducible show drawOK _ = true); rfl))) <;> (try first | omega | (simp only [InR]; omega) | with_reducible assumption)
end Go.Proofs
