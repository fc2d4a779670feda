/- The law ShelterWorth. -/
import Derived.Test.YtcbicheohgdlmaaCM5
set_option linter.all false
namespace Go.Proofs
open Go.Fs
set_option linter.unusedSimpArgs false
set_option linter.unusedVariables false
set_option maxHeartbeats 4000000
set_option maxRecDepth 8000

theorem sumTo_nonneg {m : Nat} {f : Nat → Int} (h : ∀ c, c < m → 0 ≤ f c ∧ f c ≤ 99) : 0 ≤ sumTo m f ∧ sumTo m f ≤ m * 99 := by
  induction m with
  | zero => exact ⟨Int.le_refl _, by simp [sumTo]⟩
  | succ m ih =>
    have h1 := ih fun c hc => h c (by omega)
    have h2 := h m (by omega)
    simp only [sumTo]
    omega
theorem ShelterWorth_true (s : Sh) : CallP Try.prog 9 [Enc.enc s] (· = Enc.enc true) := by
  cases c1 : thinB s
  · simp only [enc_fnl, enc_fnb, enc_fnc, enc_refc, enc_arr, enc_int, enc_bool, enc_list, enc_sk, enc_sp, enc_rg, enc_sh, enc_tr, enc_refs, enc_fns, enc_wks]
    refine callP_of_vc (Φ := P49) Try.func9 rfl (by rfl) (by rw [Try.ntmps9]; simp) mixed P49_ok (by simp [AV.strip, AV.strip1, Tk.strip]) ?_
    rw [Try.ntmps9]
    simp only [Try.f9, startSt, tmFrom]
    simp (maxSteps := 4000000) only [go_sem, AV.one, drawV, intsOf, keyIdx, over, putO, memAt, List.map_cons, List.length_cons, ↓reduceIte, zdrop, one_i, one_b, one_sl, one_ptr, one_ref, one_nilp, one_mp, one_fn, one_nilf, dep_uk, c1]
    all_goals (repeat' (first | with_reducible rfl | with_reducible apply And.intro | ((with_reducible show drawOK _ = true); rfl))) <;> (try first | omega | (simp only [InR]; omega) | with_reducible assumption)
  have hl := thin_len c1
  cases c2' : decide (faultS s = 0)
  · simp only [enc_fnl, enc_fnb, enc_fnc, enc_refc, enc_arr, enc_int, enc_bool, enc_list, enc_sk, enc_sp, enc_rg, enc_sh, enc_tr, enc_refs, enc_fns, enc_wks]
    refine callP_of_vc (Φ := P49) Try.func9 rfl (by rfl) (by rw [Try.ntmps9]; simp) mixed P49_ok (by simp [AV.strip, AV.strip1, Tk.strip]) ?_
    rw [Try.ntmps9]
    simp only [Try.f9, startSt, tmFrom]
    simp (maxSteps := 4000000) only [go_sem, AV.one, drawV, intsOf, keyIdx, over, putO, memAt, List.map_cons, List.length_cons, ↓reduceIte, zdrop, one_i, one_b, one_sl, one_ptr, one_ref, one_nilp, one_mp, one_fn, one_nilf, dep_uk, c1, c2']
    all_goals (repeat' (first | with_reducible rfl | with_reducible apply And.intro | ((with_reducible show drawOK _ = true); rfl))) <;> (try first | omega | (simp only [InR]; omega) | with_reducible assumption)
  have c2 : faultS s = 0 := by simpa using c2'
  have hs := fault_ok c2
  have h8 := hs.len
  have e1 := best_good hs
  have e2 := best_plan hs
  have hbl := best_len s
  obtain ⟨V, hV⟩ : ∃ V, (List.range (bestS s).length).map (verdictW s (bestS s)) = V := ⟨_, rfl⟩
  have e3 : savedQ s (bestS s) = (V, 0) := by rw [saved_good hs e2, hV]
  have hVl : V.length = s.stacks.length := by rw [← hV]; simp [hbl]
  have hwa := worth_all hs
  have hne : decide ((s.stacks.length : Int) = s.stacks.length) = true := by simp
  obtain ⟨B, hB⟩ : ∃ B, bestS s = B := ⟨_, rfl⟩
  rw [hB] at e1 e3 hbl
  simp only [enc_fnl, enc_fnb, enc_fnc, enc_refc, enc_arr, enc_int, enc_bool, enc_list, enc_sk, enc_sp, enc_rg, enc_sh, enc_tr, enc_refs, enc_fns, enc_wks]
  refine callP_of_vc (Φ := P49) Try.func9 rfl (by rfl) (by rw [Try.ntmps9]; simp) mixed P49_ok (by simp [AV.strip, AV.strip1, Tk.strip]) ?_
  rw [Try.ntmps9]
  simp only [Try.f9, startSt, tmFrom]
  simp (maxSteps := 4000000) only [go_sem, AV.one, drawV, intsOf, keyIdx, over, putO, memAt, List.map_cons, List.length_cons, ↓reduceIte, zdrop, one_i, one_b, one_sl, one_ptr, one_ref, one_nilp, one_mp, one_fn, one_nilf, dep_uk, c1, c2', e1, e3, hVl, Bool.true_bne, Bool.false_bne, bne_self_eq_false]
  all_goals (repeat' (first | with_reducible rfl | with_reducible apply And.intro | ((with_reducible show drawOK _ = true); rfl))) <;> (try first | omega | (simp only [InR]; omega) | with_reducible assumption)
  refine loopN (V.length) [] [1, 2, 4, 6] (fun i => [(9, .int .i64 i), (8, .int .i64 (sumTo i (worthS s)))]) (fun _ m => m) (fun _ => True) ?_ ?_ ?_ ?_
  · trivial
  · simp [AV.bare, bel_ints, cs_arr, dep_arr, cs_int, cs_bool, cs_list, cs_sk, cs_sp, AtHead, Same, AllO, Begins, LtAll, headSt, tokz_nil, tokz_cons, tokz1, lk, dep_int, dep_bool, dep_list, dep_sk, dep_sp, memAt, bel_map, bel_mapF, bel_mapO, bel_undef, bel_int, bel_boolv, bel_nilp, bel_nilf, bel_ptr, bel_arr, bel_mp, bel_yld, bel_agg, bel_tup, bel_ref, bel_only, bel_mpr, bel_fn, bel_sl_nil, bel_sl_nilF, bel_sl_nilO, bel_sl_cons, bel_sl_app, belO_cells, belO_tok, belO_dead, belO_deferred, belO_map, belO_iter, belO_loop, bel_vec, bel_vp, belO_vecM, belO_vec, sumTo, -List.map_map]
  · intro i hi _
    have hi' := Int.ofNat_lt.2 hi
    have hi2 : i < s.stacks.length := by omega
    have hw := worth_good hs hi2
    have hsp := worth_spec hs hi2
    have hch := hs.ch hi2
    have hce : chS s i = (at_ s.stacks i).chairs := by simp [chS]
    have hn := sumTo_nonneg (m := i) (f := worthS s) fun c hc => by
      have h1 := worth_spec hs (i := c) (by omega)
      have h2 := hs.ch (i := c) (by omega)
      omega
    have hVi : at_ V i ≠ 1 → worthS s i = 0 := by
      have : at_ V i = verdictW s (bestS s) i := by
        rw [← hV]
        simp only [at_, List.getD, List.getElem?_map, List.getElem?_range (show i < (bestS s).length by rw [best_len]; omega), Option.map_some, Option.getD_some]
      rw [this]
      exact best_worth hs hi2
    have hss : sumTo (i + 1) (worthS s) = sumTo i (worthS s) + worthS s i := rfl
    obtain ⟨w, hwe⟩ : ∃ w, worthS s i = w := ⟨_, rfl⟩
    obtain ⟨S0, hS0⟩ : ∃ S0, sumTo i (worthS s) = S0 := ⟨_, rfl⟩
    rw [hwe] at hw hsp hVi hss
    rw [hS0] at hn hss
    have d1 : decide (w < 0) = false := by simp; omega
    have d2 : decide ((at_ s.stacks i).chairs < w) = false := by simp; omega
    cases c3 : decide (at_ V i = 1)
    · have hw0 := hVi (by simpa using c3)
      subst hw0
      simp (maxSteps := 4000000) only [go_sem, AV.one, drawV, intsOf, keyIdx, over, putO, memAt, List.map_cons, List.length_cons, ↓reduceIte, zdrop, one_i, one_b, one_sl, one_ptr, one_ref, one_nilp, one_mp, one_fn, one_nilf, dep_uk, getD_mapA hi, getD_mapA hi2, hi', hw, d1, d2, c3, hS0, bne_self_eq_false, Bool.true_bne, Bool.false_bne]
      all_goals (repeat' (first | with_reducible rfl | with_reducible apply And.intro | ((with_reducible show drawOK _ = true); rfl))) <;> (try first | omega | (simp only [InR]; omega) | with_reducible assumption)
      refine nxt hi trivial ?_
      simp [AV.bare, bel_ints, cs_arr, dep_arr, cs_int, cs_bool, cs_list, cs_sk, cs_sp, AtHead, Same, AllO, Begins, LtAll, headSt, tokz_nil, tokz_cons, tokz1, lk, dep_int, dep_bool, dep_list, dep_sk, dep_sp, memAt, bel_map, bel_mapF, bel_mapO, bel_undef, bel_int, bel_boolv, bel_nilp, bel_nilf, bel_ptr, bel_arr, bel_mp, bel_yld, bel_agg, bel_tup, bel_ref, bel_only, bel_mpr, bel_fn, bel_sl_nil, bel_sl_nilF, bel_sl_nilO, bel_sl_cons, bel_sl_app, belO_cells, belO_tok, belO_dead, belO_deferred, belO_map, belO_iter, belO_loop, bel_vec, bel_vp, belO_vecM, belO_vec, hss, -List.map_map]
    · simp (maxSteps := 4000000) only [go_sem, AV.one, drawV, intsOf, keyIdx, over, putO, memAt, List.map_cons, List.length_cons, ↓reduceIte, zdrop, one_i, one_b, one_sl, one_ptr, one_ref, one_nilp, one_mp, one_fn, one_nilf, dep_uk, getD_mapA hi, getD_mapA hi2, hi', hw, d1, d2, c3, hS0, bne_self_eq_false, Bool.true_bne, Bool.false_bne]
      all_goals (repeat' (first | with_reducible rfl | with_reducible apply And.intro | ((with_reducible show drawOK _ = true); rfl))) <;> (try first | omega | (simp only [InR]; omega) | with_reducible assumption)
      refine nxt hi trivial ?_
      simp [AV.bare, bel_ints, cs_arr, dep_arr, cs_int, cs_bool, cs_list, cs_sk, cs_sp, AtHead, Same, AllO, Begins, LtAll, headSt, tokz_nil, tokz_cons, tokz1, lk, dep_int, dep_bool, dep_list, dep_sk, dep_sp, memAt, bel_map, bel_mapF, bel_mapO, bel_undef, bel_int, bel_boolv, bel_nilp, bel_nilf, bel_ptr, bel_arr, bel_mp, bel_yld, bel_agg, bel_tup, bel_ref, bel_only, bel_mpr, bel_fn, bel_sl_nil, bel_sl_nilF, bel_sl_nilO, bel_sl_cons, bel_sl_app, belO_cells, belO_tok, belO_dead, belO_deferred, belO_map, belO_iter, belO_loop, bel_vec, bel_vp, belO_vecM, belO_vec, hss, -List.map_map]
  · intro _
    have hd : decide (sumTo V.length (worthS s) ≤ mostS s) = true := by rw [hVl]; simpa using hwa
    simp (maxSteps := 4000000) only [go_sem, AV.one, drawV, intsOf, keyIdx, over, putO, memAt, List.map_cons, List.length_cons, ↓reduceIte, zdrop, one_i, one_b, one_sl, one_ptr, one_ref, one_nilp, one_mp, one_fn, one_nilf, dep_uk, Int.lt_irrefl, hd]
    all_goals (repeat' (first | with_reducible rfl | with_reducible apply And.intro | ((with_reducible show drawOK _ = true); rfl))) <;> (try first | omega | (simp only [InR]; omega) | with_reducible assumption)
end Go.Proofs
