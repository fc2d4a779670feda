/- The texts Z1, Z2, Z3, joined. -/
import Derived.Test.YtcbicheohgdlmaaGreatG14
set_option linter.all false
namespace Go.Proofs
open Go.Fs
set_option linter.unusedSimpArgs false
set_option linter.unusedVariables false
set_option maxHeartbeats 4000000
set_option maxRecDepth 8000
theorem proof_no {p : List Sp} {i : Nat} (hi : i < p.length) (h : spOk (at_ p i) = false) : proofB p = false := by
  unfold proofB; rw [all_false hi h]; simp
theorem proof_flat {p : List Sp} {i : Nat} (hi : i + 1 < p.length) (h : ¬ (at_ p i).chairs < (at_ p (i + 1)).chairs) : proofB p = false := by
  unfold proofB; rw [rising_false hi h, Bool.and_false]
theorem proof_yes {p : List Sp} (h : ∀ k, k < p.length → spOk (at_ p k) = true ∧ (0 < k → (at_ p (k - 1)).chairs < (at_ p k).chairs)) : proofB p = decide ((p.length : Int) > 0) := by
  have h1 : p.all spOk = true := by
    rw [List.all_eq_true]
    intro x hx
    obtain ⟨i, hi, rfl⟩ := mem_at hx
    exact (h i hi).1
  have h2 : risingB p = true := rising_true fun i hi => by
    have := (h (i + 1) hi).2 (by omega)
    simpa using this
  unfold proofB
  rw [h1, h2]
  simp
theorem IsProof_call (p : List Sp) (h : p.length ≤ 4096) : CallP Tryz.prog 14 [Enc.enc p] (· = Enc.enc (proofB p)) := by
  obtain ⟨X, hX⟩ : ∃ X, proofB p = X := ⟨_, rfl⟩
  rw [hX]
  simp only [enc_fnl, enc_fnb, enc_fnc, enc_refc, enc_arr, enc_int, enc_bool, enc_list, enc_sk, enc_sp, enc_rg, enc_sh, enc_tr, enc_refs, enc_fns, enc_wks]
  refine callP_of_vc (Φ := P49) Tryz.func14 rfl (by rfl) (by rw [Tryz.ntmps14]; simp) mixed P49_ok (by simp [AV.strip, AV.strip1, Tk.strip]) ?_
  rw [Tryz.ntmps14]
  simp only [Tryz.f14, startSt, tmFrom]
  simp (maxSteps := 4000000) only [go_sem, AV.one, drawV, intsOf, keyIdx, over, putO, memAt, List.map_cons, List.length_cons, ↓reduceIte, zdrop, one_i, one_b, one_sl, one_ptr, one_ref, one_nilp, one_mp, one_fn, one_nilf]
  refine loopN (p.length) [] [0, 2] (fun i => [(3, .int .i64 i)]) (fun _ m => m) (fun i => ∀ k, k < i → spOk (at_ p k) = true ∧ (0 < k → (at_ p (k - 1)).chairs < (at_ p k).chairs)) ?_ ?_ ?_ ?_
  · intro k hk; omega
  · simp [AV.bare, bel_ints, cs_arr, dep_arr, cs_int, cs_bool, cs_list, cs_sk, cs_sp, AtHead, Same, AllO, Begins, LtAll, headSt, tokz_nil, tokz_cons, tokz1, lk, dep_int, dep_bool, dep_list, dep_sk, dep_sp, memAt, bel_map, bel_mapF, bel_mapO, bel_undef, bel_int, bel_boolv, bel_nilp, bel_nilf, bel_ptr, bel_arr, bel_mp, bel_yld, bel_agg, bel_tup, bel_ref, bel_only, bel_mpr, bel_fn, bel_sl_nil, bel_sl_nilF, bel_sl_nilO, bel_sl_cons, bel_sl_app, belO_cells, belO_tok, belO_dead, belO_deferred, belO_map, belO_iter, belO_loop, bel_vec, bel_vp, belO_vecM, belO_vec, -List.map_map]
  · intro i hi hI
    have hi' := Int.ofNat_lt.2 hi
    have hsp : spOk (at_ p i) = (inB (at_ p i).chairs 1 99 && inB (at_ p i).before 0 18) := rfl
    have hj : ((i : Int) - 1).toNat = i - 1 := by omega
    have hj2 : i - 1 < p.length := by omega
    cases c1 : inB (at_ p i).chairs 1 99
    · rw [proof_no hi (by rw [hsp, c1]; rfl)] at hX
      subst hX
      simp (maxSteps := 4000000) only [go_sem, AV.one, drawV, intsOf, keyIdx, over, putO, memAt, List.map_cons, List.length_cons, ↓reduceIte, zdrop, one_i, one_b, one_sl, one_ptr, one_ref, one_nilp, one_mp, one_fn, one_nilf, getD_mapA hi, getD_mapA hj2, hi', hj, c1]
      all_goals (repeat' (first | with_reducible rfl | with_reducible apply And.intro | ((with_reducible show drawOK _ _ = true); rfl))) <;> (try first | omega | (simp only [InR]; omega) | with_reducible assumption)
    · cases c2 : inB (at_ p i).before 0 18
      · rw [proof_no hi (by rw [hsp, c2, Bool.and_false])] at hX
        subst hX
        simp (maxSteps := 4000000) only [go_sem, AV.one, drawV, intsOf, keyIdx, over, putO, memAt, List.map_cons, List.length_cons, ↓reduceIte, zdrop, one_i, one_b, one_sl, one_ptr, one_ref, one_nilp, one_mp, one_fn, one_nilf, getD_mapA hi, getD_mapA hj2, hi', hj, c1, c2]
        all_goals (repeat' (first | with_reducible rfl | with_reducible apply And.intro | ((with_reducible show drawOK _ _ = true); rfl))) <;> (try first | omega | (simp only [InR]; omega) | with_reducible assumption)
      · cases c3 : decide ((i : Int) > 0)
        · have hi0 : i = 0 := by have := of_decide_eq_false c3; omega
          simp (maxSteps := 4000000) only [go_sem, AV.one, drawV, intsOf, keyIdx, over, putO, memAt, List.map_cons, List.length_cons, ↓reduceIte, zdrop, one_i, one_b, one_sl, one_ptr, one_ref, one_nilp, one_mp, one_fn, one_nilf, getD_mapA hi, getD_mapA hj2, hi', hj, c1, c2, c3]
          all_goals (repeat' (first | with_reducible rfl | with_reducible apply And.intro | ((with_reducible show drawOK _ _ = true); rfl))) <;> (try first | omega | (simp only [InR]; omega) | with_reducible assumption)
          refine nxt hi (fun k hk => ⟨?_, fun h0 => ?_⟩) ?_
          · have : k = i := by omega
            subst this
            rw [hsp, c1, c2]; rfl
          · omega
          · simp [AV.bare, bel_ints, cs_arr, dep_arr, cs_int, cs_bool, cs_list, cs_sk, cs_sp, AtHead, Same, AllO, Begins, LtAll, headSt, tokz_nil, tokz_cons, tokz1, lk, dep_int, dep_bool, dep_list, dep_sk, dep_sp, memAt, bel_map, bel_mapF, bel_mapO, bel_undef, bel_int, bel_boolv, bel_nilp, bel_nilf, bel_ptr, bel_arr, bel_mp, bel_yld, bel_agg, bel_tup, bel_ref, bel_only, bel_mpr, bel_fn, bel_sl_nil, bel_sl_nilF, bel_sl_nilO, bel_sl_cons, bel_sl_app, belO_cells, belO_tok, belO_dead, belO_deferred, belO_map, belO_iter, belO_loop, bel_vec, bel_vp, belO_vecM, belO_vec, -List.map_map]
        · have hi0 : 0 < i := by have := of_decide_eq_true c3; omega
          cases c4 : decide ((at_ p i).chairs ≤ (at_ p (i - 1)).chairs)
          · simp (maxSteps := 4000000) only [go_sem, AV.one, drawV, intsOf, keyIdx, over, putO, memAt, List.map_cons, List.length_cons, ↓reduceIte, zdrop, one_i, one_b, one_sl, one_ptr, one_ref, one_nilp, one_mp, one_fn, one_nilf, getD_mapA hi, getD_mapA hj2, hi', hj, c1, c2, c3, c4]
            all_goals (repeat' (first | with_reducible rfl | with_reducible apply And.intro | ((with_reducible show drawOK _ _ = true); rfl))) <;> (try first | omega | (simp only [InR]; omega) | with_reducible assumption)
            refine nxt hi (fun k hk => ?_) ?_
            · by_cases e : k = i
              · subst e
                refine ⟨by rw [hsp, c1, c2]; rfl, fun _ => ?_⟩
                have := of_decide_eq_false c4
                omega
              · exact hI k (by omega)
            · simp [AV.bare, bel_ints, cs_arr, dep_arr, cs_int, cs_bool, cs_list, cs_sk, cs_sp, AtHead, Same, AllO, Begins, LtAll, headSt, tokz_nil, tokz_cons, tokz1, lk, dep_int, dep_bool, dep_list, dep_sk, dep_sp, memAt, bel_map, bel_mapF, bel_mapO, bel_undef, bel_int, bel_boolv, bel_nilp, bel_nilf, bel_ptr, bel_arr, bel_mp, bel_yld, bel_agg, bel_tup, bel_ref, bel_only, bel_mpr, bel_fn, bel_sl_nil, bel_sl_nilF, bel_sl_nilO, bel_sl_cons, bel_sl_app, belO_cells, belO_tok, belO_dead, belO_deferred, belO_map, belO_iter, belO_loop, bel_vec, bel_vp, belO_vecM, belO_vec, -List.map_map]
          · rw [proof_flat (i := i - 1) (by omega) (by rw [show i - 1 + 1 = i by omega]; have := of_decide_eq_true c4; omega)] at hX
            subst hX
            simp (maxSteps := 4000000) only [go_sem, AV.one, drawV, intsOf, keyIdx, over, putO, memAt, List.map_cons, List.length_cons, ↓reduceIte, zdrop, one_i, one_b, one_sl, one_ptr, one_ref, one_nilp, one_mp, one_fn, one_nilf, getD_mapA hi, getD_mapA hj2, hi', hj, c1, c2, c3, c4]
            all_goals (repeat' (first | with_reducible rfl | with_reducible apply And.intro | ((with_reducible show drawOK _ _ = true); rfl))) <;> (try first | omega | (simp only [InR]; omega) | with_reducible assumption)
  · intro hI
    rw [proof_yes hI] at hX
    subst hX
    simp (maxSteps := 4000000) only [go_sem, AV.one, drawV, intsOf, keyIdx, over, putO, memAt, List.map_cons, List.length_cons, ↓reduceIte, zdrop, one_i, one_b, one_sl, one_ptr, one_ref, one_nilp, one_mp, one_fn, one_nilf, Int.lt_irrefl]
def backS (p : List Sp) (c : Int) : Nat → Int
  | 0 => (at_ p (p.length - 1)).before
  | j + 1 => if c ≤ (at_ p (p.length - 1 - j)).chairs then (at_ p (p.length - 1 - j)).before else backS p c j
theorem backS_eq (p : List Sp) (c : Int) : ∀ j, j + 1 ≤ p.length → backS p c (j + 1) = (stepL (p.drop (p.length - 1 - j)) c).before
  | 0, h => by
    have e : p.drop (p.length - 1 - 0) = [at_ p (p.length - 1)] := by
      rw [drop_at (by omega), List.drop_eq_nil_of_le (by omega)]; simp
    rw [e, stepL_last]
    unfold backS
    simp only [Nat.sub_zero]
    split <;> rfl
  | j + 1, h => by
    have ih := backS_eq p c j (by omega)
    have e : p.drop (p.length - 1 - (j + 1)) = at_ p (p.length - 1 - (j + 1)) :: p.drop (p.length - 1 - j) := by
      rw [drop_at (by omega), show p.length - 1 - (j + 1) + 1 = p.length - 1 - j by omega]
    have hs : backS p c (j + 1 + 1) = if c ≤ (at_ p (p.length - 1 - (j + 1))).chairs then (at_ p (p.length - 1 - (j + 1))).before else backS p c (j + 1) := rfl
    rw [hs, e]
    split
    · rename_i q; rw [stepL_hit _ _ _ q]
    · rename_i q
      rw [stepL_miss _ _ _ q (fun e => by have := congrArg List.length e; simp at this; omega), ih]
theorem back_all {p : List Sp} (h : 0 < p.length) (c : Int) : backS p c p.length = (stepL p c).before := by
  obtain ⟨j, hj⟩ : ∃ j, p.length = j + 1 := ⟨p.length - 1, by omega⟩
  have h1 := backS_eq p c j (by omega)
  rw [show p.length - 1 - j = 0 by omega, List.drop_zero] at h1
  rw [← h1, hj]
theorem rBound_call (s : Sh) (p : List Sp) (h : ShOk s ∧ SpsOk p) : CallP Tryz.prog 15 [Enc.enc s, Enc.enc p] (· = Enc.enc (boundL s p)) := by
  obtain ⟨hs, hp⟩ := h
  have h8 := hs.len
  have hpl := hp.len
  have hp0 : 0 < p.length := List.length_pos_iff.2 hp.ne
  obtain ⟨hg0, hg1, hg2⟩ := great_spec s.stacks (fun x hx => (hs.st x hx).1)
  simp only [enc_fnl, enc_fnb, enc_fnc, enc_refc, enc_arr, enc_int, enc_bool, enc_list, enc_sk, enc_sp, enc_rg, enc_sh, enc_tr, enc_refs, enc_fns, enc_wks]
  refine callP_of_vc (Φ := P49) Tryz.func15 rfl (by rfl) (by rw [Tryz.ntmps15]; simp) mixed P49_ok (by simp [AV.strip, AV.strip1, Tk.strip]) ?_
  rw [Tryz.ntmps15]
  simp only [Tryz.f15, startSt, tmFrom]
  simp (maxSteps := 4000000) only [go_sem, AV.one, drawV, intsOf, keyIdx, over, putO, memAt, List.map_cons, List.length_cons, ↓reduceIte, zdrop, one_i, one_b, one_sl, one_ptr, one_ref, one_nilp, one_mp, one_fn, one_nilf]
  all_goals (repeat' (first | with_reducible rfl | with_reducible apply And.intro | ((with_reducible show drawOK _ _ = true); rfl))) <;> (try first | omega | (simp only [InR]; omega) | with_reducible assumption)
  refine loopN (s.stacks.length) [] [1, 2, 4] (fun i => [(6, .int .i64 i), (5, .int .i64 (greatS (s.stacks.take i)))]) (fun _ m => m) (fun _ => True) ?_ ?_ ?_ ?_
  · trivial
  · simp [AV.bare, bel_ints, cs_arr, dep_arr, cs_int, cs_bool, cs_list, cs_sk, cs_sp, AtHead, Same, AllO, Begins, LtAll, headSt, tokz_nil, tokz_cons, tokz1, lk, dep_int, dep_bool, dep_list, dep_sk, dep_sp, memAt, bel_map, bel_mapF, bel_mapO, bel_undef, bel_int, bel_boolv, bel_nilp, bel_nilf, bel_ptr, bel_arr, bel_mp, bel_yld, bel_agg, bel_tup, bel_ref, bel_only, bel_mpr, bel_fn, bel_sl_nil, bel_sl_nilF, bel_sl_nilO, bel_sl_cons, bel_sl_app, belO_cells, belO_tok, belO_dead, belO_deferred, belO_map, belO_iter, belO_loop, bel_vec, bel_vp, belO_vecM, belO_vec, greatS, -List.map_map]
  · intro i hi _
    have hi' := Int.ofNat_lt.2 hi
    have hgt := great_take hi
    simp (maxSteps := 4000000) only [go_sem, AV.one, drawV, intsOf, keyIdx, over, putO, memAt, List.map_cons, List.length_cons, ↓reduceIte, zdrop, one_i, one_b, one_sl, one_ptr, one_ref, one_nilp, one_mp, one_fn, one_nilf, getD_mapA hi, hi']
    all_goals (repeat' (first | with_reducible rfl | with_reducible apply And.intro | ((with_reducible show drawOK _ _ = true); rfl))) <;> (try first | omega | (simp only [InR]; omega) | with_reducible assumption)
    refine nxt hi trivial ?_
    simp [AV.bare, bel_ints, cs_arr, dep_arr, cs_int, cs_bool, cs_list, cs_sk, cs_sp, AtHead, Same, AllO, Begins, LtAll, headSt, tokz_nil, tokz_cons, tokz1, lk, dep_int, dep_bool, dep_list, dep_sk, dep_sp, memAt, bel_map, bel_mapF, bel_mapO, bel_undef, bel_int, bel_boolv, bel_nilp, bel_nilf, bel_ptr, bel_arr, bel_mp, bel_yld, bel_agg, bel_tup, bel_ref, bel_only, bel_mpr, bel_fn, bel_sl_nil, bel_sl_nilF, bel_sl_nilO, bel_sl_cons, bel_sl_app, belO_cells, belO_tok, belO_dead, belO_deferred, belO_map, belO_iter, belO_loop, bel_vec, bel_vp, belO_vecM, belO_vec, hgt, -List.map_map]
  · intro _
    rw [List.take_length]
    obtain ⟨N, hN⟩ : ∃ N : Nat, greatS s.stacks = N := ⟨(greatS s.stacks).toNat, by omega⟩
    have hbd : boundL s p = sumTo N (fun c => partS s ((c : Int) + 1) (stepL p ((c : Int) + 1)).before) := by unfold boundL; rw [hN, Int.toNat_natCast]
    rw [hbd]
    obtain ⟨f, hf⟩ : ∃ f : Nat → Int, f = fun c : Nat => partS s ((c : Int) + 1) (stepL p ((c : Int) + 1)).before := ⟨_, rfl⟩
    rw [← hf]
    have hfb : ∀ i, i < N → 0 ≤ f i ∧ f i ≤ 62 := fun i hi => by
      rw [hf]
      obtain ⟨⟨p0, p1⟩, hpe⟩ := part_bd hs (hp.step ((i : Int) + 1)) ((i : Int) + 1)
      have := later_bd s ((i : Int) + 1) (stepL p ((i : Int) + 1)).before
      dsimp only
      rw [hpe]
      omega
    rw [hN]
    simp (maxSteps := 4000000) only [go_sem, AV.one, drawV, intsOf, keyIdx, over, putO, memAt, List.map_cons, List.length_cons, ↓reduceIte, zdrop, one_i, one_b, one_sl, one_ptr, one_ref, one_nilp, one_mp, one_fn, one_nilf, Int.lt_irrefl]
    all_goals (repeat' (first | with_reducible rfl | with_reducible apply And.intro | ((with_reducible show drawOK _ _ = true); rfl))) <;> (try first | omega | (simp only [InR]; omega) | with_reducible assumption)
    refine loopN (N) [] [1, 2, 4, 5] (fun c => [(8, .int .i64 ((c : Int) + 1)), (7, .int .i64 (sumTo c f))]) (fun _ m => m) (fun _ => True) ?_ ?_ ?_ ?_
    · trivial
    · simp [AV.bare, bel_ints, cs_arr, dep_arr, cs_int, cs_bool, cs_list, cs_sk, cs_sp, AtHead, Same, AllO, Begins, LtAll, headSt, tokz_nil, tokz_cons, tokz1, lk, dep_int, dep_bool, dep_list, dep_sk, dep_sp, memAt, bel_map, bel_mapF, bel_mapO, bel_undef, bel_int, bel_boolv, bel_nilp, bel_nilf, bel_ptr, bel_arr, bel_mp, bel_yld, bel_agg, bel_tup, bel_ref, bel_only, bel_mpr, bel_fn, bel_sl_nil, bel_sl_nilF, bel_sl_nilO, bel_sl_cons, bel_sl_app, belO_cells, belO_tok, belO_dead, belO_deferred, belO_map, belO_iter, belO_loop, bel_vec, bel_vp, belO_vecM, belO_vec, sumTo, -List.map_map]
    · intro c hc _
      have hc1 : (c : Int) + 1 ≤ (N : Int) := by omega
      have hn : ((p.length : Int) - 1).toNat = p.length - 1 := by omega
      have hl1 : p.length - 1 < p.length := by omega
      have hsum := sumTo_bd (m := c) (f := f) (k := 62) (fun j hj => hfb j (by omega))
      have hfs : sumTo (c + 1) f = sumTo c f + f c := rfl
      obtain ⟨n, hne⟩ : ∃ n, (c : Int) + 1 = n := ⟨_, rfl⟩
      have hfc : f c = partS s n (stepL p n).before := by rw [hf, ← hne]
      have hn1 : ((c + 1 : Nat) : Int) + 1 = n + 1 := by omega
      rw [hne] at hc1
      rw [hne]
      simp (maxSteps := 4000000) only [go_sem, AV.one, drawV, intsOf, keyIdx, over, putO, memAt, List.map_cons, List.length_cons, ↓reduceIte, zdrop, one_i, one_b, one_sl, one_ptr, one_ref, one_nilp, one_mp, one_fn, one_nilf, hc1, hn, getD_mapA hl1]
      all_goals (repeat' (first | with_reducible rfl | with_reducible apply And.intro | ((with_reducible show drawOK _ _ = true); rfl))) <;> (try first | omega | (simp only [InR]; omega) | with_reducible assumption)
      refine loopN (p.length) [] [1, 2, 4, 5, 7, 8, 27, 28, 32, 33, 34, 35, 36, 37, 38, 39, 40, 41] (fun j => [(10, .int .i64 ((p.length : Int) - 1 - j)), (9, .int .i64 (backS p n j))]) (fun _ m => m) (fun _ => True) ?_ ?_ ?_ ?_
      · trivial
      · simp [AV.bare, bel_ints, cs_arr, dep_arr, cs_int, cs_bool, cs_list, cs_sk, cs_sp, AtHead, Same, AllO, Begins, LtAll, headSt, tokz_nil, tokz_cons, tokz1, lk, dep_int, dep_bool, dep_list, dep_sk, dep_sp, memAt, bel_map, bel_mapF, bel_mapO, bel_undef, bel_int, bel_boolv, bel_nilp, bel_nilf, bel_ptr, bel_arr, bel_mp, bel_yld, bel_agg, bel_tup, bel_ref, bel_only, bel_mpr, bel_fn, bel_sl_nil, bel_sl_nilF, bel_sl_nilO, bel_sl_cons, bel_sl_app, belO_cells, belO_tok, belO_dead, belO_deferred, belO_map, belO_iter, belO_loop, bel_vec, bel_vp, belO_vecM, belO_vec, backS, -List.map_map]
      · intro j hj _
        have hj0 : (p.length : Int) - 1 - (j : Int) ≥ 0 := by omega
        have hjn : ((p.length : Int) - 1 - (j : Int)).toNat = p.length - 1 - j := by omega
        have hjl : p.length - 1 - j < p.length := by omega
        have hbs : backS p n (j + 1) = if n ≤ (at_ p (p.length - 1 - j)).chairs then (at_ p (p.length - 1 - j)).before else backS p n j := rfl
        have hje : (p.length : Int) - 1 - ((j : Int) + 1) = (p.length : Int) - 1 - (j : Int) - 1 := by omega
        cases c1 : decide (n ≤ (at_ p (p.length - 1 - j)).chairs)
        · rw [if_neg (by simpa using c1)] at hbs
          simp (maxSteps := 4000000) only [go_sem, AV.one, drawV, intsOf, keyIdx, over, putO, memAt, List.map_cons, List.length_cons, ↓reduceIte, zdrop, one_i, one_b, one_sl, one_ptr, one_ref, one_nilp, one_mp, one_fn, one_nilf, hj0, hjn, getD_mapA hjl, c1]
          all_goals (repeat' (first | with_reducible rfl | with_reducible apply And.intro | ((with_reducible show drawOK _ _ = true); rfl))) <;> (try first | omega | (simp only [InR]; omega) | with_reducible assumption)
          refine nxt hj trivial ?_
          simp [AV.bare, bel_ints, cs_arr, dep_arr, cs_int, cs_bool, cs_list, cs_sk, cs_sp, AtHead, Same, AllO, Begins, LtAll, headSt, tokz_nil, tokz_cons, tokz1, lk, dep_int, dep_bool, dep_list, dep_sk, dep_sp, memAt, bel_map, bel_mapF, bel_mapO, bel_undef, bel_int, bel_boolv, bel_nilp, bel_nilf, bel_ptr, bel_arr, bel_mp, bel_yld, bel_agg, bel_tup, bel_ref, bel_only, bel_mpr, bel_fn, bel_sl_nil, bel_sl_nilF, bel_sl_nilO, bel_sl_cons, bel_sl_app, belO_cells, belO_tok, belO_dead, belO_deferred, belO_map, belO_iter, belO_loop, bel_vec, bel_vp, belO_vecM, belO_vec, hbs, hje, -List.map_map]
        · rw [if_pos (by simpa using c1)] at hbs
          simp (maxSteps := 4000000) only [go_sem, AV.one, drawV, intsOf, keyIdx, over, putO, memAt, List.map_cons, List.length_cons, ↓reduceIte, zdrop, one_i, one_b, one_sl, one_ptr, one_ref, one_nilp, one_mp, one_fn, one_nilf, hj0, hjn, getD_mapA hjl, c1]
          all_goals (repeat' (first | with_reducible rfl | with_reducible apply And.intro | ((with_reducible show drawOK _ _ = true); rfl))) <;> (try first | omega | (simp only [InR]; omega) | with_reducible assumption)
          refine nxt hj trivial ?_
          simp [AV.bare, bel_ints, cs_arr, dep_arr, cs_int, cs_bool, cs_list, cs_sk, cs_sp, AtHead, Same, AllO, Begins, LtAll, headSt, tokz_nil, tokz_cons, tokz1, lk, dep_int, dep_bool, dep_list, dep_sk, dep_sp, memAt, bel_map, bel_mapF, bel_mapO, bel_undef, bel_int, bel_boolv, bel_nilp, bel_nilf, bel_ptr, bel_arr, bel_mp, bel_yld, bel_agg, bel_tup, bel_ref, bel_only, bel_mpr, bel_fn, bel_sl_nil, bel_sl_nilF, bel_sl_nilO, bel_sl_cons, bel_sl_app, belO_cells, belO_tok, belO_dead, belO_deferred, belO_map, belO_iter, belO_loop, bel_vec, bel_vp, belO_vecM, belO_vec, hbs, hje, -List.map_map]
      · intro _
        have hj0 : ¬ ((p.length : Int) - 1 - (p.length : Int) ≥ 0) := by omega
        rw [back_all hp0 n]
        obtain ⟨B, hB⟩ : ∃ B, (stepL p n).before = B := ⟨_, rfl⟩
        have hBb := hp.step n
        rw [hB] at hBb hfc
        rw [hB]
        obtain ⟨⟨p0, p1⟩, hpe⟩ := part_bd hs hBb n
        rw [hpe] at hfc
        simp (maxSteps := 4000000) only [go_sem, AV.one, drawV, intsOf, keyIdx, over, putO, memAt, List.map_cons, List.length_cons, ↓reduceIte, zdrop, one_i, one_b, one_sl, one_ptr, one_ref, one_nilp, one_mp, one_fn, one_nilf, hj0]
        all_goals (repeat' (first | with_reducible rfl | with_reducible apply And.intro | ((with_reducible show drawOK _ _ = true); rfl))) <;> (try first | omega | (simp only [InR]; omega) | with_reducible assumption)
        obtain ⟨m, hm⟩ : ∃ m, sumTo c f + s.hands * B = m := ⟨_, rfl⟩
        have hmb : 0 ≤ m ∧ m ≤ 10000 := by omega
        rw [hm]
        refine loopN (s.stacks.length) [] [1, 2, 4, 5, 8, 9, 10, 27, 28, 32, 33, 34, 35, 36, 37, 38, 39, 40, 41, 42, 44, 45, 46, 47, 48, 49, 50, 51, 53, 54, 55, 56, 57, 58, 59, 60, 61, 62, 63] (fun i => [(11, .int .i64 i), (7, .int .i64 (m + cnt i (laterB s n B)))]) (fun _ m => m) (fun _ => True) ?_ ?_ ?_ ?_
        · trivial
        · simp [AV.bare, bel_ints, cs_arr, dep_arr, cs_int, cs_bool, cs_list, cs_sk, cs_sp, AtHead, Same, AllO, Begins, LtAll, headSt, tokz_nil, tokz_cons, tokz1, lk, dep_int, dep_bool, dep_list, dep_sk, dep_sp, memAt, bel_map, bel_mapF, bel_mapO, bel_undef, bel_int, bel_boolv, bel_nilp, bel_nilf, bel_ptr, bel_arr, bel_mp, bel_yld, bel_agg, bel_tup, bel_ref, bel_only, bel_mpr, bel_fn, bel_sl_nil, bel_sl_nilF, bel_sl_nilO, bel_sl_cons, bel_sl_app, belO_cells, belO_tok, belO_dead, belO_deferred, belO_map, belO_iter, belO_loop, bel_vec, bel_vp, belO_vecM, belO_vec, cnt, -List.map_map]
        · intro i hi _
          have hi' := Int.ofNat_lt.2 hi
          have hsp := hs.sp hi
          have hch := ch_at s i
          have hc1 := cnt_nonneg i (laterB s n B)
          have hc2 := cnt_le i (laterB s n B)
          have hcs : cnt (i + 1) (laterB s n B) = cnt i (laterB s n B) + if laterB s n B i = true then 1 else 0 := rfl
          cases c1 : decide (n ≤ (at_ s.stacks i).chairs)
          · have hb : laterB s n B i = false := by unfold laterB; rw [hch, c1]; rfl
            rw [hb, if_neg (by simp), Int.add_zero] at hcs
            simp (maxSteps := 4000000) only [go_sem, AV.one, drawV, intsOf, keyIdx, over, putO, memAt, List.map_cons, List.length_cons, ↓reduceIte, zdrop, one_i, one_b, one_sl, one_ptr, one_ref, one_nilp, one_mp, one_fn, one_nilf, getD_mapA hi, hi', c1]
            all_goals (repeat' (first | with_reducible rfl | with_reducible apply And.intro | ((with_reducible show drawOK _ _ = true); rfl))) <;> (try first | omega | (simp only [InR]; omega) | with_reducible assumption)
            refine nxt hi trivial ?_
            simp [AV.bare, bel_ints, cs_arr, dep_arr, cs_int, cs_bool, cs_list, cs_sk, cs_sp, AtHead, Same, AllO, Begins, LtAll, headSt, tokz_nil, tokz_cons, tokz1, lk, dep_int, dep_bool, dep_list, dep_sk, dep_sp, memAt, bel_map, bel_mapF, bel_mapO, bel_undef, bel_int, bel_boolv, bel_nilp, bel_nilf, bel_ptr, bel_arr, bel_mp, bel_yld, bel_agg, bel_tup, bel_ref, bel_only, bel_mpr, bel_fn, bel_sl_nil, bel_sl_nilF, bel_sl_nilO, bel_sl_cons, bel_sl_app, belO_cells, belO_tok, belO_dead, belO_deferred, belO_map, belO_iter, belO_loop, bel_vec, bel_vp, belO_vecM, belO_vec, hcs, -List.map_map]
          · cases c2 : decide (B < spS s i)
            · have hb : laterB s n B i = false := by unfold laterB; rw [c2, Bool.and_false]
              rw [hb, if_neg (by simp), Int.add_zero] at hcs
              simp (maxSteps := 4000000) only [go_sem, AV.one, drawV, intsOf, keyIdx, over, putO, memAt, List.map_cons, List.length_cons, ↓reduceIte, zdrop, one_i, one_b, one_sl, one_ptr, one_ref, one_nilp, one_mp, one_fn, one_nilf, getD_mapA hi, hi', c1, c2]
              all_goals (repeat' (first | with_reducible rfl | with_reducible apply And.intro | ((with_reducible show drawOK _ _ = true); rfl))) <;> (try first | omega | (simp only [InR]; omega) | with_reducible assumption)
              refine nxt hi trivial ?_
              simp [AV.bare, bel_ints, cs_arr, dep_arr, cs_int, cs_bool, cs_list, cs_sk, cs_sp, AtHead, Same, AllO, Begins, LtAll, headSt, tokz_nil, tokz_cons, tokz1, lk, dep_int, dep_bool, dep_list, dep_sk, dep_sp, memAt, bel_map, bel_mapF, bel_mapO, bel_undef, bel_int, bel_boolv, bel_nilp, bel_nilf, bel_ptr, bel_arr, bel_mp, bel_yld, bel_agg, bel_tup, bel_ref, bel_only, bel_mpr, bel_fn, bel_sl_nil, bel_sl_nilF, bel_sl_nilO, bel_sl_cons, bel_sl_app, belO_cells, belO_tok, belO_dead, belO_deferred, belO_map, belO_iter, belO_loop, bel_vec, bel_vp, belO_vecM, belO_vec, hcs, -List.map_map]
            · have hb : laterB s n B i = true := by unfold laterB; rw [hch, c1, c2]; rfl
              rw [hb, if_pos rfl] at hcs
              simp (maxSteps := 4000000) only [go_sem, AV.one, drawV, intsOf, keyIdx, over, putO, memAt, List.map_cons, List.length_cons, ↓reduceIte, zdrop, one_i, one_b, one_sl, one_ptr, one_ref, one_nilp, one_mp, one_fn, one_nilf, getD_mapA hi, hi', c1, c2]
              all_goals (repeat' (first | with_reducible rfl | with_reducible apply And.intro | ((with_reducible show drawOK _ _ = true); rfl))) <;> (try first | omega | (simp only [InR]; omega) | with_reducible assumption)
              refine nxt hi trivial ?_
              simp [AV.bare, bel_ints, cs_arr, dep_arr, cs_int, cs_bool, cs_list, cs_sk, cs_sp, AtHead, Same, AllO, Begins, LtAll, headSt, tokz_nil, tokz_cons, tokz1, lk, dep_int, dep_bool, dep_list, dep_sk, dep_sp, memAt, bel_map, bel_mapF, bel_mapO, bel_undef, bel_int, bel_boolv, bel_nilp, bel_nilf, bel_ptr, bel_arr, bel_mp, bel_yld, bel_agg, bel_tup, bel_ref, bel_only, bel_mpr, bel_fn, bel_sl_nil, bel_sl_nilF, bel_sl_nilO, bel_sl_cons, bel_sl_app, belO_cells, belO_tok, belO_dead, belO_deferred, belO_map, belO_iter, belO_loop, bel_vec, bel_vp, belO_vecM, belO_vec, hcs, Int.add_assoc, -List.map_map]
        · intro _
          have hlb : cnt s.stacks.length (laterB s n B) = laterS s n B := rfl
          rw [hlb]
          simp (maxSteps := 4000000) only [go_sem, AV.one, drawV, intsOf, keyIdx, over, putO, memAt, List.map_cons, List.length_cons, ↓reduceIte, zdrop, one_i, one_b, one_sl, one_ptr, one_ref, one_nilp, one_mp, one_fn, one_nilf, Int.lt_irrefl]
          all_goals (repeat' (first | with_reducible rfl | with_reducible apply And.intro | ((with_reducible show drawOK _ _ = true); rfl))) <;> (try first | omega | (simp only [InR]; omega) | with_reducible assumption)
          refine nxt hc trivial ?_
          have hme : sumTo c f + f c = m + laterS s n B := by rw [hfc]; omega
          simp [AV.bare, bel_ints, cs_arr, dep_arr, cs_int, cs_bool, cs_list, cs_sk, cs_sp, AtHead, Same, AllO, Begins, LtAll, headSt, tokz_nil, tokz_cons, tokz1, lk, dep_int, dep_bool, dep_list, dep_sk, dep_sp, memAt, bel_map, bel_mapF, bel_mapO, bel_undef, bel_int, bel_boolv, bel_nilp, bel_nilf, bel_ptr, bel_arr, bel_mp, bel_yld, bel_agg, bel_tup, bel_ref, bel_only, bel_mpr, bel_fn, bel_sl_nil, bel_sl_nilF, bel_sl_nilO, bel_sl_cons, bel_sl_app, belO_cells, belO_tok, belO_dead, belO_deferred, belO_map, belO_iter, belO_loop, bel_vec, bel_vp, belO_vecM, belO_vec, hfs, hme, hne, -List.map_map]
    · intro _
      have hc1 : ¬ ((N : Int) + 1 ≤ (N : Int)) := by omega
      simp (maxSteps := 4000000) only [go_sem, AV.one, drawV, intsOf, keyIdx, over, putO, memAt, List.map_cons, List.length_cons, ↓reduceIte, zdrop, one_i, one_b, one_sl, one_ptr, one_ref, one_nilp, one_mp, one_fn, one_nilf, hc1]
      all_goals (repeat' (first | with_reducible rfl | with_reducible apply And.intro | ((with_reducible show drawOK _ _ = true); rfl))) <;> (try first | omega | (simp only [InR]; omega) | with_reducible assumption)
def P50 : Specs := addSpec 14 (spec1 (fun p : List Sp => p.length ≤ 4096) proofB) (addSpec 15 (spec2 (fun (s : Sh) (p : List Sp) => ShOk s ∧ SpsOk p) boundL) (P49))
theorem P50_app (g : FuncId) : P50 g = (addSpec 14 (spec1 (fun p : List Sp => p.length ≤ 4096) proofB) (addSpec 15 (spec2 (fun (s : Sh) (p : List Sp) => ShOk s ∧ SpsOk p) boundL) (P49))) g := rfl
theorem P50_ok : SpecsOk Tryz.prog P50 := addSpec_ok (spec1_ok IsProof_call) (addSpec_ok (spec2_ok rBound_call) (P49_ok))
attribute [go_sem] P50_app
theorem P50_flag (d : Option Nat) : flagOf P50 d = none := (flagOf_add (by decide) d).trans ((flagOf_add (by decide) d).trans (P49_flag d))
attribute [go_sem] P50_flag
end Go.Proofs
namespace Go.Proofs
open Go.Fs
set_option linter.unusedSimpArgs false
set_option linter.unusedVariables false
set_option maxHeartbeats 4000000
set_option maxRecDepth 8000
theorem steps_call (l : List Sp) (h : l.length ≤ 4096) : CallP Tryz.prog 12 [Enc.enc l] (· = Enc.enc l) := by
  simp only [enc_fnl, enc_fnb, enc_fnc, enc_refc, enc_arr, enc_int, enc_bool, enc_list, enc_sk, enc_sp, enc_rg, enc_sh, enc_tr, enc_refs, enc_fns, enc_wks]
  refine callP_of_vc (Φ := P50) Tryz.func12 rfl (by rfl) (by rw [Tryz.ntmps12]; simp) mixed P50_ok (by simp [AV.strip, AV.strip1, Tk.strip]) ?_
  rw [Tryz.ntmps12]
  simp only [Tryz.f12, startSt, tmFrom]
  simp (maxSteps := 4000000) only [go_sem, AV.one, drawV, intsOf, keyIdx, over, putO, memAt, List.map_cons, List.length_cons, ↓reduceIte, zdrop, one_i, one_b, one_sl, one_ptr, one_ref, one_nilp, one_mp, one_fn, one_nilf, dep_uk]
  all_goals (repeat' (first | with_reducible rfl | with_reducible apply And.intro | ((with_reducible show drawOK _ _ = true); rfl))) <;> (try first | omega | (simp only [InR]; omega) | with_reducible assumption)
  refine loopN (l.length) [.slot 3 2] [0, 2] (fun i => [(4, .int .i64 i), (3, .sl ((l.take i).map EncE.cs) (.own 0))]) (fun i m => m.set 0 (.tok i 2)) (fun _ => True) ?_ ?_ ?_ ?_
  · trivial
  · simp [AV.bare, bel_ints, cs_arr, dep_arr, cs_int, cs_bool, cs_list, cs_sk, cs_sp, AtHead, Same, AllO, Begins, LtAll, headSt, tokz_nil, tokz_cons, tokz1, lk, dep_int, dep_bool, dep_list, dep_sk, dep_sp, memAt, bel_map, bel_mapF, bel_mapO, bel_undef, bel_int, bel_boolv, bel_nilp, bel_nilf, bel_ptr, bel_arr, bel_mp, bel_yld, bel_agg, bel_tup, bel_ref, bel_only, bel_mpr, bel_fn, bel_sl_nil, bel_sl_nilF, bel_sl_nilO, bel_sl_cons, bel_sl_app, belO_cells, belO_tok, belO_dead, belO_deferred, belO_map, belO_iter, belO_loop, bel_vec, bel_vp, belO_vecM, belO_vec, -List.map_take]
  · intro i hi _
    have hi' := Int.ofNat_lt.2 hi
    have htk : (l.take i).length = i := by simp; omega
    have hts := take_succ_at hi
    obtain ⟨S0, hS0⟩ : ∃ S0, l.take i = S0 := ⟨_, rfl⟩
    obtain ⟨S1, hS1⟩ : ∃ S1, l.take (i + 1) = S1 := ⟨_, rfl⟩
    rw [hS0] at htk hts
    rw [hS1] at hts
    rw [hS0]
    simp (maxSteps := 4000000) only [go_sem, AV.one, drawV, intsOf, keyIdx, over, putO, memAt, List.map_cons, List.length_cons, ↓reduceIte, zdrop, one_i, one_b, one_sl, one_ptr, one_ref, one_nilp, one_mp, one_fn, one_nilf, dep_uk, getD_mapA hi, hi', htk]
    all_goals (repeat' (first | with_reducible rfl | with_reducible apply And.intro | ((with_reducible show drawOK _ _ = true); rfl))) <;> (try first | omega | (simp only [InR]; omega) | with_reducible assumption)
    refine nxt hi trivial ?_
    have e : S0.map EncE.cs ++ [[AV.int .i64 (at_ l i).chairs, AV.int .i64 (at_ l i).before]] = S1.map EncE.cs := by rw [hts, List.map_append]; rfl
    simp only [e]
    simp [AV.bare, bel_ints, cs_arr, dep_arr, cs_int, cs_bool, cs_list, cs_sk, cs_sp, AtHead, Same, AllO, Begins, LtAll, headSt, tokz_nil, tokz_cons, tokz1, lk, dep_int, dep_bool, dep_list, dep_sk, dep_sp, memAt, bel_map, bel_mapF, bel_mapO, bel_undef, bel_int, bel_boolv, bel_nilp, bel_nilf, bel_ptr, bel_arr, bel_mp, bel_yld, bel_agg, bel_tup, bel_ref, bel_only, bel_mpr, bel_fn, bel_sl_nil, bel_sl_nilF, bel_sl_nilO, bel_sl_cons, bel_sl_app, belO_cells, belO_tok, belO_dead, belO_deferred, belO_map, belO_iter, belO_loop, bel_vec, bel_vp, belO_vecM, belO_vec, hS1, -List.map_map, -List.map_take]
  · intro _
    simp (maxSteps := 4000000) only [go_sem, AV.one, drawV, intsOf, keyIdx, over, putO, memAt, List.map_cons, List.length_cons, ↓reduceIte, zdrop, one_i, one_b, one_sl, one_ptr, one_ref, one_nilp, one_mp, one_fn, one_nilf, dep_uk, Int.lt_irrefl, List.take_length]
    all_goals (repeat' (first | with_reducible rfl | with_reducible apply And.intro | ((with_reducible show drawOK _ _ = true); rfl))) <;> (try first | omega | (simp only [InR]; omega) | with_reducible assumption)
theorem back_call (l : List Sp) (h : l.length ≤ 4096) : CallP Tryz.prog 17 [Enc.enc l] (· = Enc.enc l) := by
  simp only [enc_fnl, enc_fnb, enc_fnc, enc_refc, enc_arr, enc_int, enc_bool, enc_list, enc_sk, enc_sp, enc_rg, enc_sh, enc_tr, enc_refs, enc_fns, enc_wks]
  refine callP_of_vc (Φ := P50) Tryz.func17 rfl (by rfl) (by rw [Tryz.ntmps17]; simp) mixed P50_ok (by simp [AV.strip, AV.strip1, Tk.strip]) ?_
  rw [Tryz.ntmps17]
  simp only [Tryz.f17, startSt, tmFrom]
  simp (maxSteps := 4000000) only [go_sem, AV.one, drawV, intsOf, keyIdx, over, putO, memAt, List.map_cons, List.length_cons, ↓reduceIte, zdrop, one_i, one_b, one_sl, one_ptr, one_ref, one_nilp, one_mp, one_fn, one_nilf, dep_uk]
  all_goals (repeat' (first | with_reducible rfl | with_reducible apply And.intro | ((with_reducible show drawOK _ _ = true); rfl))) <;> (try first | omega | (simp only [InR]; omega) | with_reducible assumption)
  refine loopN (l.length) [.slot 3 2] [0, 2] (fun i => [(4, .int .i64 i), (3, .sl ((l.take i).map EncE.cs) (.own 0))]) (fun i m => m.set 0 (.tok i 2)) (fun _ => True) ?_ ?_ ?_ ?_
  · trivial
  · simp [AV.bare, bel_ints, cs_arr, dep_arr, cs_int, cs_bool, cs_list, cs_sk, cs_sp, AtHead, Same, AllO, Begins, LtAll, headSt, tokz_nil, tokz_cons, tokz1, lk, dep_int, dep_bool, dep_list, dep_sk, dep_sp, memAt, bel_map, bel_mapF, bel_mapO, bel_undef, bel_int, bel_boolv, bel_nilp, bel_nilf, bel_ptr, bel_arr, bel_mp, bel_yld, bel_agg, bel_tup, bel_ref, bel_only, bel_mpr, bel_fn, bel_sl_nil, bel_sl_nilF, bel_sl_nilO, bel_sl_cons, bel_sl_app, belO_cells, belO_tok, belO_dead, belO_deferred, belO_map, belO_iter, belO_loop, bel_vec, bel_vp, belO_vecM, belO_vec, -List.map_take]
  · intro i hi _
    have hi' := Int.ofNat_lt.2 hi
    have htk : (l.take i).length = i := by simp; omega
    have hts := take_succ_at hi
    obtain ⟨S0, hS0⟩ : ∃ S0, l.take i = S0 := ⟨_, rfl⟩
    obtain ⟨S1, hS1⟩ : ∃ S1, l.take (i + 1) = S1 := ⟨_, rfl⟩
    rw [hS0] at htk hts
    rw [hS1] at hts
    rw [hS0]
    simp (maxSteps := 4000000) only [go_sem, AV.one, drawV, intsOf, keyIdx, over, putO, memAt, List.map_cons, List.length_cons, ↓reduceIte, zdrop, one_i, one_b, one_sl, one_ptr, one_ref, one_nilp, one_mp, one_fn, one_nilf, dep_uk, getD_mapA hi, hi', htk]
    all_goals (repeat' (first | with_reducible rfl | with_reducible apply And.intro | ((with_reducible show drawOK _ _ = true); rfl))) <;> (try first | omega | (simp only [InR]; omega) | with_reducible assumption)
    refine nxt hi trivial ?_
    have e : S0.map EncE.cs ++ [[AV.int .i64 (at_ l i).chairs, AV.int .i64 (at_ l i).before]] = S1.map EncE.cs := by rw [hts, List.map_append]; rfl
    simp only [e]
    simp [AV.bare, bel_ints, cs_arr, dep_arr, cs_int, cs_bool, cs_list, cs_sk, cs_sp, AtHead, Same, AllO, Begins, LtAll, headSt, tokz_nil, tokz_cons, tokz1, lk, dep_int, dep_bool, dep_list, dep_sk, dep_sp, memAt, bel_map, bel_mapF, bel_mapO, bel_undef, bel_int, bel_boolv, bel_nilp, bel_nilf, bel_ptr, bel_arr, bel_mp, bel_yld, bel_agg, bel_tup, bel_ref, bel_only, bel_mpr, bel_fn, bel_sl_nil, bel_sl_nilF, bel_sl_nilO, bel_sl_cons, bel_sl_app, belO_cells, belO_tok, belO_dead, belO_deferred, belO_map, belO_iter, belO_loop, bel_vec, bel_vp, belO_vecM, belO_vec, hS1, -List.map_map, -List.map_take]
  · intro _
    simp (maxSteps := 4000000) only [go_sem, AV.one, drawV, intsOf, keyIdx, over, putO, memAt, List.map_cons, List.length_cons, ↓reduceIte, zdrop, one_i, one_b, one_sl, one_ptr, one_ref, one_nilp, one_mp, one_fn, one_nilf, dep_uk, Int.lt_irrefl, List.take_length]
    all_goals (repeat' (first | with_reducible rfl | with_reducible apply And.intro | ((with_reducible show drawOK _ _ = true); rfl))) <;> (try first | omega | (simp only [InR]; omega) | with_reducible assumption)
theorem chairs_call (s : Sh) (b : List Bool) (h : ShOk s ∧ b.length ≤ 4096) : CallP Tryz.prog 26 [Enc.enc s, Enc.enc b] (· = Enc.enc (chairsQ s b)) := by
  obtain ⟨hs, hb⟩ := h
  have h8 := hs.len
  unfold chairsQ
  cases c0 : decide ((b.length : Int) = s.stacks.length)
  · rw [if_neg (by have := of_decide_eq_false c0; omega)]
    simp only [enc_fnl, enc_fnb, enc_fnc, enc_refc, enc_arr, enc_int, enc_bool, enc_list, enc_sk, enc_sp, enc_rg, enc_sh, enc_tr, enc_refs, enc_fns, enc_wks]
    refine callP_of_vc (Φ := P50) Tryz.func26 rfl (by rfl) (by rw [Tryz.ntmps26]; simp) mixed P50_ok (by simp [AV.strip, AV.strip1, Tk.strip]) ?_
    rw [Tryz.ntmps26]
    simp only [Tryz.f26, startSt, tmFrom]
    simp (maxSteps := 4000000) only [go_sem, AV.one, drawV, intsOf, keyIdx, over, putO, memAt, List.map_cons, List.length_cons, ↓reduceIte, zdrop, one_i, one_b, one_sl, one_ptr, one_ref, one_nilp, one_mp, one_fn, one_nilf, dep_uk, c0]
    all_goals (repeat' (first | with_reducible rfl | with_reducible apply And.intro | ((with_reducible show drawOK _ _ = true); rfl))) <;> (try first | omega | (simp only [InR]; omega) | with_reducible assumption)
  · have hl : b.length = s.stacks.length := by have := of_decide_eq_true c0; omega
    rw [if_pos hl]
    simp only [enc_fnl, enc_fnb, enc_fnc, enc_refc, enc_arr, enc_int, enc_bool, enc_list, enc_sk, enc_sp, enc_rg, enc_sh, enc_tr, enc_refs, enc_fns, enc_wks]
    refine callP_of_vc (Φ := P50) Tryz.func26 rfl (by rfl) (by rw [Tryz.ntmps26]; simp) mixed P50_ok (by simp [AV.strip, AV.strip1, Tk.strip]) ?_
    rw [Tryz.ntmps26]
    simp only [Tryz.f26, startSt, tmFrom]
    simp (maxSteps := 4000000) only [go_sem, AV.one, drawV, intsOf, keyIdx, over, putO, memAt, List.map_cons, List.length_cons, ↓reduceIte, zdrop, one_i, one_b, one_sl, one_ptr, one_ref, one_nilp, one_mp, one_fn, one_nilf, dep_uk, c0]
    all_goals (repeat' (first | with_reducible rfl | with_reducible apply And.intro | ((with_reducible show drawOK _ _ = true); rfl))) <;> (try first | omega | (simp only [InR]; omega) | with_reducible assumption)
    refine loopN (b.length) [] [1, 2, 4, 5] (fun i => [(7, .int .i64 i), (6, .int .i64 (sumB' s b i))]) (fun _ m => m) (fun _ => True) ?_ ?_ ?_ ?_
    · trivial
    · simp [AV.bare, bel_ints, cs_arr, dep_arr, cs_int, cs_bool, cs_list, cs_sk, cs_sp, AtHead, Same, AllO, Begins, LtAll, headSt, tokz_nil, tokz_cons, tokz1, lk, dep_int, dep_bool, dep_list, dep_sk, dep_sp, memAt, bel_map, bel_mapF, bel_mapO, bel_undef, bel_int, bel_boolv, bel_nilp, bel_nilf, bel_ptr, bel_arr, bel_mp, bel_yld, bel_agg, bel_tup, bel_ref, bel_only, bel_mpr, bel_fn, bel_sl_nil, bel_sl_nilF, bel_sl_nilO, bel_sl_cons, bel_sl_app, belO_cells, belO_tok, belO_dead, belO_deferred, belO_map, belO_iter, belO_loop, bel_vec, bel_vp, belO_vecM, belO_vec, sumB', wsum, -List.map_map]
    · intro i hi _
      have hi' := Int.ofNat_lt.2 hi
      have hi2 : i < s.stacks.length := by omega
      have hch := hs.ch hi2
      have hche := ch_at s i
      rw [hche] at hch
      have hbd := sumB'_bd hs b (n := i) (by omega)
      have hss : sumB' s b (i + 1) = sumB' s b i + if at_ b i = true then chS s i else 0 := rfl
      cases c1 : at_ b i
      · rw [c1, if_neg (by simp), Int.add_zero] at hss
        simp (maxSteps := 4000000) only [go_sem, AV.one, drawV, intsOf, keyIdx, over, putO, memAt, List.map_cons, List.length_cons, ↓reduceIte, zdrop, one_i, one_b, one_sl, one_ptr, one_ref, one_nilp, one_mp, one_fn, one_nilf, dep_uk, getD_mapA hi, getD_mapA hi2, hi', c1]
        all_goals (repeat' (first | with_reducible rfl | with_reducible apply And.intro | ((with_reducible show drawOK _ _ = true); rfl))) <;> (try first | omega | (simp only [InR]; omega) | with_reducible assumption)
        refine nxt hi trivial ?_
        simp [AV.bare, bel_ints, cs_arr, dep_arr, cs_int, cs_bool, cs_list, cs_sk, cs_sp, AtHead, Same, AllO, Begins, LtAll, headSt, tokz_nil, tokz_cons, tokz1, lk, dep_int, dep_bool, dep_list, dep_sk, dep_sp, memAt, bel_map, bel_mapF, bel_mapO, bel_undef, bel_int, bel_boolv, bel_nilp, bel_nilf, bel_ptr, bel_arr, bel_mp, bel_yld, bel_agg, bel_tup, bel_ref, bel_only, bel_mpr, bel_fn, bel_sl_nil, bel_sl_nilF, bel_sl_nilO, bel_sl_cons, bel_sl_app, belO_cells, belO_tok, belO_dead, belO_deferred, belO_map, belO_iter, belO_loop, bel_vec, bel_vp, belO_vecM, belO_vec, hss, -List.map_map]
      · rw [c1, if_pos rfl, hche] at hss
        simp (maxSteps := 4000000) only [go_sem, AV.one, drawV, intsOf, keyIdx, over, putO, memAt, List.map_cons, List.length_cons, ↓reduceIte, zdrop, one_i, one_b, one_sl, one_ptr, one_ref, one_nilp, one_mp, one_fn, one_nilf, dep_uk, getD_mapA hi, getD_mapA hi2, hi', c1]
        all_goals (repeat' (first | with_reducible rfl | with_reducible apply And.intro | ((with_reducible show drawOK _ _ = true); rfl))) <;> (try first | omega | (simp only [InR]; omega) | with_reducible assumption)
        refine nxt hi trivial ?_
        simp [AV.bare, bel_ints, cs_arr, dep_arr, cs_int, cs_bool, cs_list, cs_sk, cs_sp, AtHead, Same, AllO, Begins, LtAll, headSt, tokz_nil, tokz_cons, tokz1, lk, dep_int, dep_bool, dep_list, dep_sk, dep_sp, memAt, bel_map, bel_mapF, bel_mapO, bel_undef, bel_int, bel_boolv, bel_nilp, bel_nilf, bel_ptr, bel_arr, bel_mp, bel_yld, bel_agg, bel_tup, bel_ref, bel_only, bel_mpr, bel_fn, bel_sl_nil, bel_sl_nilF, bel_sl_nilO, bel_sl_cons, bel_sl_app, belO_cells, belO_tok, belO_dead, belO_deferred, belO_map, belO_iter, belO_loop, bel_vec, bel_vp, belO_vecM, belO_vec, hss, -List.map_map]
    · intro _
      simp (maxSteps := 4000000) only [go_sem, AV.one, drawV, intsOf, keyIdx, over, putO, memAt, List.map_cons, List.length_cons, ↓reduceIte, zdrop, one_i, one_b, one_sl, one_ptr, one_ref, one_nilp, one_mp, one_fn, one_nilf, dep_uk, Int.lt_irrefl]
      all_goals (repeat' (first | with_reducible rfl | with_reducible apply And.intro | ((with_reducible show drawOK _ _ = true); rfl))) <;> (try first | omega | (simp only [InR]; omega) | with_reducible assumption)
theorem proven_call (ws : List (Uk .u16)) (hw : WsOk ws) : CallP Tryz.prog 30 [Enc.enc ws] (· = Enc.enc (provenS ws)) := by
  obtain ⟨⟨hm1, hm4⟩, hm⟩ := manyW_bd ws
  have hw0 := wordL_bd hw 0
  have q0 := Int.emod_nonneg (wordL ws 0) (show (4 : Int) ≠ 0 by omega)
  unfold provenS
  obtain ⟨M, hM⟩ : ∃ M, manyW ws = M := ⟨_, rfl⟩
  rw [hM] at hm1 hm4 hm
  have hm' := hm.symm
  rw [hM]
  simp only [enc_fnl, enc_fnb, enc_fnc, enc_refc, enc_arr, enc_int, enc_bool, enc_list, enc_sk, enc_sp, enc_rg, enc_sh, enc_tr, enc_refs, enc_fns, enc_wks]
  refine callP_of_vc (Φ := P50) Tryz.func30 rfl (by rfl) (by rw [Tryz.ntmps30]; simp) mixed P50_ok (by simp [AV.strip, AV.strip1, Tk.strip]) ?_
  rw [Tryz.ntmps30]
  simp only [Tryz.f30, startSt, tmFrom]
  simp (maxSteps := 4000000) only [go_sem, AV.one, drawV, intsOf, keyIdx, over, putO, memAt, List.map_cons, List.length_cons, ↓reduceIte, zdrop, one_i, one_b, one_sl, one_ptr, one_ref, one_nilp, one_mp, one_fn, one_nilf, dep_uk]
  all_goals (repeat' (first | with_reducible rfl | with_reducible apply And.intro | ((with_reducible show drawOK _ _ = true); rfl))) <;> (try first | omega | (simp only [InR]; omega) | with_reducible assumption)
  refine loopN (M) [.slot 3 2] [0, 2] (fun i => [(5, .int .i64 i), (4, .int .i64 (chW ws i)), (3, .sl ((provenN ws i).map EncE.cs) (.own 0))]) (fun i m => m.set 0 (.tok i 2)) (fun _ => True) ?_ ?_ ?_ ?_
  · trivial
  · simp [AV.bare, bel_ints, cs_arr, dep_arr, cs_int, cs_bool, cs_list, cs_sk, cs_sp, AtHead, Same, AllO, Begins, LtAll, headSt, tokz_nil, tokz_cons, tokz1, lk, dep_int, dep_bool, dep_list, dep_sk, dep_sp, memAt, bel_map, bel_mapF, bel_mapO, bel_undef, bel_int, bel_boolv, bel_nilp, bel_nilf, bel_ptr, bel_arr, bel_mp, bel_yld, bel_agg, bel_tup, bel_ref, bel_only, bel_mpr, bel_fn, bel_sl_nil, bel_sl_nilF, bel_sl_nilO, bel_sl_cons, bel_sl_app, belO_cells, belO_tok, belO_dead, belO_deferred, belO_map, belO_iter, belO_loop, bel_vec, bel_vp, belO_vecM, belO_vec, chW, provenN, dep_uk, -List.map_map]
  · intro i hi _
    have hi' := Int.ofNat_lt.2 hi
    have hpl := provenN_len ws i
    have hwb := wordL_bd hw ((i : Int) + 1)
    have hcb := chW_bd ws i
    have hcb1 := chW_bd ws (i + 1)
    have q1 := Int.emod_nonneg (wordL ws ((i : Int) + 1)) (show (20 : Int) ≠ 0 by omega)
    have q2 := Int.emod_lt_of_pos (wordL ws ((i : Int) + 1)) (show (0 : Int) < 20 by omega)
    have h99 : chW ws (i + 1) ≤ 99 := by omega
    have hce : chW ws i + (wordL ws ((i : Int) + 1) % 20 + 1) = chW ws (i + 1) := rfl
    have hps : provenN ws (i + 1) = provenN ws i ++ [⟨chW ws (i + 1), wordL ws ((i : Int) + 1) / 32 % 19⟩] := rfl
    have hd0 : 0 ≤ wordL ws ((i : Int) + 1) / 32 ∧ wordL ws ((i : Int) + 1) / 32 ≤ 65535 := by omega
    obtain ⟨S0, hS0⟩ : ∃ S0, provenN ws i = S0 := ⟨_, rfl⟩
    obtain ⟨S1, hS1⟩ : ∃ S1, provenN ws (i + 1) = S1 := ⟨_, rfl⟩
    rw [hS0] at hpl hps
    rw [hS1] at hps
    rw [hS0]
    simp (maxSteps := 4000000) only [go_sem, AV.one, drawV, intsOf, keyIdx, over, putO, memAt, List.map_cons, List.length_cons, ↓reduceIte, zdrop, one_i, one_b, one_sl, one_ptr, one_ref, one_nilp, one_mp, one_fn, one_nilf, dep_uk, hi', hm', hce, h99, hpl]
    all_goals (repeat' (first | with_reducible rfl | with_reducible apply And.intro | ((with_reducible show drawOK _ _ = true); rfl))) <;> (try first | omega | (simp only [InR]; omega) | with_reducible assumption)
    refine nxt hi trivial ?_
    have e : S0.map EncE.cs ++ [[AV.int .i64 (chW ws (i + 1)), AV.int .i64 (wordL ws ((i : Int) + 1) / 32 % 19)]] = S1.map EncE.cs := by rw [hps, List.map_append]; rfl
    simp only [e]
    simp [AV.bare, bel_ints, cs_arr, dep_arr, cs_int, cs_bool, cs_list, cs_sk, cs_sp, AtHead, Same, AllO, Begins, LtAll, headSt, tokz_nil, tokz_cons, tokz1, lk, dep_int, dep_bool, dep_list, dep_sk, dep_sp, memAt, bel_map, bel_mapF, bel_mapO, bel_undef, bel_int, bel_boolv, bel_nilp, bel_nilf, bel_ptr, bel_arr, bel_mp, bel_yld, bel_agg, bel_tup, bel_ref, bel_only, bel_mpr, bel_fn, bel_sl_nil, bel_sl_nilF, bel_sl_nilO, bel_sl_cons, bel_sl_app, belO_cells, belO_tok, belO_dead, belO_deferred, belO_map, belO_iter, belO_loop, bel_vec, bel_vp, belO_vecM, belO_vec, hS1, dep_uk, -List.map_map]
  · intro _
    simp (maxSteps := 4000000) only [go_sem, AV.one, drawV, intsOf, keyIdx, over, putO, memAt, List.map_cons, List.length_cons, ↓reduceIte, zdrop, one_i, one_b, one_sl, one_ptr, one_ref, one_nilp, one_mp, one_fn, one_nilf, dep_uk, Int.lt_irrefl, hm']
    all_goals (repeat' (first | with_reducible rfl | with_reducible apply And.intro | ((with_reducible show drawOK _ _ = true); rfl))) <;> (try first | omega | (simp only [InR]; omega) | with_reducible assumption)
theorem Truly_call (s : Sh) (ws : List (Uk .u16)) (h : ShOk s ∧ WsOk ws) : CallP Tryz.prog 19 [Enc.enc s, Enc.enc ws] (· = Enc.enc (trulyS s ws)) := by
  obtain ⟨hs, hw⟩ := h
  have h8 := hs.len
  have hr := hs.r
  have hrb := rainW_bd hs ws
  have hwb := wordL_bd hw 11
  have q1 := Int.emod_nonneg (wordL ws 11) (show s.rain.hi - s.rain.lo + 1 ≠ 0 by omega)
  have q2 := Int.emod_lt_of_pos (wordL ws 11) (show 0 < s.rain.hi - s.rain.lo + 1 by omega)
  have hre : s.rain.lo + wordL ws 11 % (s.rain.hi - s.rain.lo + 1) = rainW s ws := rfl
  unfold trulyS
  simp only [enc_fnl, enc_fnb, enc_fnc, enc_refc, enc_arr, enc_int, enc_bool, enc_list, enc_sk, enc_sp, enc_rg, enc_sh, enc_tr, enc_refs, enc_fns, enc_wks]
  refine callP_of_vc (Φ := P50) Tryz.func19 rfl (by rfl) (by rw [Tryz.ntmps19]; simp) mixed P50_ok (by simp [AV.strip, AV.strip1, Tk.strip]) ?_
  rw [Tryz.ntmps19]
  simp only [Tryz.f19, startSt, tmFrom]
  simp (maxSteps := 4000000) only [go_sem, AV.one, drawV, intsOf, keyIdx, over, putO, memAt, List.map_cons, List.length_cons, ↓reduceIte, zdrop, one_i, one_b, one_sl, one_ptr, one_ref, one_nilp, one_mp, one_fn, one_nilf, dep_uk, hre]
  all_goals (repeat' (first | with_reducible rfl | with_reducible apply And.intro | ((with_reducible show drawOK _ _ = true); rfl))) <;> (try first | omega | (simp only [InR]; omega) | with_reducible assumption)
  refine loopN (s.stacks.length) [.cell 2 1 1] [1, 2, 4, 5] (fun i => [(6, .int .i64 i)]) (fun i m => (m.set 2 (.cells [.int .i64 (rainW s ws), .sl ((leaksW s ws i).map EncE.cs) (.own 3)])).set 3 (.tok i 1)) (fun _ => True) ?_ ?_ ?_ ?_
  · trivial
  · simp [AV.bare, bel_ints, cs_arr, dep_arr, cs_int, cs_bool, cs_list, cs_sk, cs_sp, AtHead, Same, AllO, Begins, LtAll, headSt, tokz_nil, tokz_cons, tokz1, lk, dep_int, dep_bool, dep_list, dep_sk, dep_sp, memAt, bel_map, bel_mapF, bel_mapO, bel_undef, bel_int, bel_boolv, bel_nilp, bel_nilf, bel_ptr, bel_arr, bel_mp, bel_yld, bel_agg, bel_tup, bel_ref, bel_only, bel_mpr, bel_fn, bel_sl_nil, bel_sl_nilF, bel_sl_nilO, bel_sl_cons, bel_sl_app, belO_cells, belO_tok, belO_dead, belO_deferred, belO_map, belO_iter, belO_loop, bel_vec, bel_vp, belO_vecM, belO_vec, leaksW, dep_uk, -List.map_map]
  · intro i hi _
    have hi' := Int.ofNat_lt.2 hi
    have hll := leaksW_len s ws i
    have hst := (hs.st _ (at_mem hi)).2
    have hwi := wordL_bd hw ((i : Int) + 3)
    have hd0 : 0 ≤ wordL ws ((i : Int) + 3) / 64 ∧ wordL ws ((i : Int) + 3) / 64 ≤ 65535 := by omega
    have hlb := leakW_bd hs ws hi
    have q3 := Int.emod_nonneg (wordL ws ((i : Int) + 3) / 64) (show (at_ s.stacks i).leak.hi - (at_ s.stacks i).leak.lo + 1 ≠ 0 by omega)
    have q4 := Int.emod_lt_of_pos (wordL ws ((i : Int) + 3) / 64) (show 0 < (at_ s.stacks i).leak.hi - (at_ s.stacks i).leak.lo + 1 by omega)
    have hle : (at_ s.stacks i).leak.lo + wordL ws ((i : Int) + 3) / 64 % ((at_ s.stacks i).leak.hi - (at_ s.stacks i).leak.lo + 1) = leakW s ws i := rfl
    have hls : leaksW s ws (i + 1) = leaksW s ws i ++ [leakW s ws i] := rfl
    obtain ⟨S0, hS0⟩ : ∃ S0, leaksW s ws i = S0 := ⟨_, rfl⟩
    obtain ⟨S1, hS1⟩ : ∃ S1, leaksW s ws (i + 1) = S1 := ⟨_, rfl⟩
    rw [hS0] at hll hls
    rw [hS1] at hls
    rw [hS0]
    simp (maxSteps := 4000000) only [go_sem, AV.one, drawV, intsOf, keyIdx, over, putO, memAt, List.map_cons, List.length_cons, ↓reduceIte, zdrop, one_i, one_b, one_sl, one_ptr, one_ref, one_nilp, one_mp, one_fn, one_nilf, dep_uk, getD_mapA hi, hi', hll, hle]
    all_goals (repeat' (first | with_reducible rfl | with_reducible apply And.intro | ((with_reducible show drawOK _ _ = true); rfl))) <;> (try first | omega | (simp only [InR]; omega) | with_reducible assumption)
    refine nxt hi trivial ?_
    have e : S0.map EncE.cs ++ [[AV.int .i64 (leakW s ws i)]] = S1.map EncE.cs := by rw [hls, List.map_append]; rfl
    simp only [e]
    simp [AV.bare, bel_ints, cs_arr, dep_arr, cs_int, cs_bool, cs_list, cs_sk, cs_sp, AtHead, Same, AllO, Begins, LtAll, headSt, tokz_nil, tokz_cons, tokz1, lk, dep_int, dep_bool, dep_list, dep_sk, dep_sp, memAt, bel_map, bel_mapF, bel_mapO, bel_undef, bel_int, bel_boolv, bel_nilp, bel_nilf, bel_ptr, bel_arr, bel_mp, bel_yld, bel_agg, bel_tup, bel_ref, bel_only, bel_mpr, bel_fn, bel_sl_nil, bel_sl_nilF, bel_sl_nilO, bel_sl_cons, bel_sl_app, belO_cells, belO_tok, belO_dead, belO_deferred, belO_map, belO_iter, belO_loop, bel_vec, bel_vp, belO_vecM, belO_vec, hS1, dep_uk, -List.map_map]
  · intro _
    simp (maxSteps := 4000000) only [go_sem, AV.one, drawV, intsOf, keyIdx, over, putO, memAt, List.map_cons, List.length_cons, ↓reduceIte, zdrop, one_i, one_b, one_sl, one_ptr, one_ref, one_nilp, one_mp, one_fn, one_nilf, dep_uk, Int.lt_irrefl]
    all_goals (repeat' (first | with_reducible rfl | with_reducible apply And.intro | ((with_reducible show drawOK _ _ = true); rfl))) <;> (try first | omega | (simp only [InR]; omega) | with_reducible assumption)
def P51 : Specs := addSpec 12 (spec1 (fun l : List Sp => l.length ≤ 4096) (fun l => l)) (addSpec 17 (spec1 (fun l : List Sp => l.length ≤ 4096) (fun l => l)) (addSpec 26 (spec2 (fun (s : Sh) (b : List Bool) => ShOk s ∧ b.length ≤ 4096) chairsQ) (addSpec 30 (spec1 (fun ws : List (Uk .u16) => WsOk ws) provenS) (addSpec 19 (spec2 (fun (s : Sh) (ws : List (Uk .u16)) => ShOk s ∧ WsOk ws) trulyS) (P50)))))
theorem P51_app (g : FuncId) : P51 g = (addSpec 12 (spec1 (fun l : List Sp => l.length ≤ 4096) (fun l => l)) (addSpec 17 (spec1 (fun l : List Sp => l.length ≤ 4096) (fun l => l)) (addSpec 26 (spec2 (fun (s : Sh) (b : List Bool) => ShOk s ∧ b.length ≤ 4096) chairsQ) (addSpec 30 (spec1 (fun ws : List (Uk .u16) => WsOk ws) provenS) (addSpec 19 (spec2 (fun (s : Sh) (ws : List (Uk .u16)) => ShOk s ∧ WsOk ws) trulyS) (P50)))))) g := rfl
theorem P51_ok : SpecsOk Tryz.prog P51 := addSpec_ok (spec1_ok steps_call) (addSpec_ok (spec1_ok back_call) (addSpec_ok (spec2_ok chairs_call) (addSpec_ok (spec1_ok proven_call) (addSpec_ok (spec2_ok Truly_call) (P50_ok)))))
attribute [go_sem] P51_app
theorem P51_flag (d : Option Nat) : flagOf P51 d = none := (flagOf_add (by decide) d).trans ((flagOf_add (by decide) d).trans ((flagOf_add (by decide) d).trans ((flagOf_add (by decide) d).trans ((flagOf_add (by decide) d).trans (P50_flag d)))))
attribute [go_sem] P51_flag
end Go.Proofs
namespace Go.Proofs
open Go.Fs
set_option linter.unusedSimpArgs false
set_option linter.unusedVariables false
set_option maxHeartbeats 4000000
set_option maxRecDepth 8000
theorem rHands_call (s : Sh) (hs : ShOk s) : CallP Tryz.prog 34 [Enc.enc s] (· = Enc.enc (handsR s 4 0)) := by
  have h8 := hs.len
  obtain ⟨X, hX⟩ : ∃ X, handsR s 4 0 = X := ⟨_, rfl⟩
  rw [hX]
  simp only [enc_fnl, enc_fnb, enc_fnc, enc_refc, enc_arr, enc_int, enc_bool, enc_list, enc_sk, enc_sp, enc_rg, enc_sh, enc_tr, enc_refs, enc_fns, enc_wks]
  refine callP_of_vc (Φ := P51) Tryz.func34 rfl (by rfl) (by rw [Tryz.ntmps34]; simp) mixed P51_ok (by simp [AV.strip, AV.strip1, Tk.strip]) ?_
  rw [Tryz.ntmps34]
  simp only [Tryz.f34, startSt, tmFrom]
  simp (maxSteps := 4000000) only [go_sem, AV.one, drawV, intsOf, keyIdx, over, putO, memAt, List.map_cons, List.length_cons, ↓reduceIte, zdrop, one_i, one_b, one_sl, one_ptr, one_ref, one_nilp, one_mp, one_fn, one_nilf]
  all_goals (repeat' (first | with_reducible rfl | with_reducible apply And.intro | ((with_reducible show drawOK _ _ = true); rfl))) <;> (try first | omega | (simp only [InR]; omega) | with_reducible assumption)
  refine loopN (4) [] [1, 2] (fun i => [(3, .int .i64 i)]) (fun _ m => m) (fun i => handsR s (4 - i) i = X) ?_ ?_ ?_ ?_
  · exact hX
  · simp [AV.bare, bel_ints, cs_arr, dep_arr, cs_int, cs_bool, cs_list, cs_sk, cs_sp, AtHead, Same, AllO, Begins, LtAll, headSt, tokz_nil, tokz_cons, tokz1, lk, dep_int, dep_bool, dep_list, dep_sk, dep_sp, memAt, bel_map, bel_mapF, bel_mapO, bel_undef, bel_int, bel_boolv, bel_nilp, bel_nilf, bel_ptr, bel_arr, bel_mp, bel_yld, bel_agg, bel_tup, bel_ref, bel_only, bel_mpr, bel_fn, bel_sl_nil, bel_sl_nilF, bel_sl_nilO, bel_sl_cons, bel_sl_app, belO_cells, belO_tok, belO_dead, belO_deferred, belO_map, belO_iter, belO_loop, bel_vec, bel_vp, belO_vecM, belO_vec, -List.map_map]
  · intro i hi hI
    have hi' : (i : Int) ≤ 3 := by omega
    have hok := withH_ok hs (n := (i : Int)) (by omega) (by omega)
    have e4 : 4 - i = (4 - (i + 1)) + 1 := by omega
    rw [e4] at hI
    unfold handsR at hI
    cases c1 : decide (mostS ⟨s.stacks, (i : Int), s.rain⟩ = totalS s)
    · rw [if_neg (by simpa using c1)] at hI
      simp (maxSteps := 4000000) only [go_sem, AV.one, drawV, intsOf, keyIdx, over, putO, memAt, List.map_cons, List.length_cons, ↓reduceIte, zdrop, one_i, one_b, one_sl, one_ptr, one_ref, one_nilp, one_mp, one_fn, one_nilf, hi', c1]
      all_goals (repeat' (first | with_reducible rfl | with_reducible apply And.intro | ((with_reducible show drawOK _ _ = true); rfl))) <;> (try first | omega | (simp only [InR]; omega) | with_reducible assumption)
      refine nxt hi hI ?_
      simp [AV.bare, bel_ints, cs_arr, dep_arr, cs_int, cs_bool, cs_list, cs_sk, cs_sp, AtHead, Same, AllO, Begins, LtAll, headSt, tokz_nil, tokz_cons, tokz1, lk, dep_int, dep_bool, dep_list, dep_sk, dep_sp, memAt, bel_map, bel_mapF, bel_mapO, bel_undef, bel_int, bel_boolv, bel_nilp, bel_nilf, bel_ptr, bel_arr, bel_mp, bel_yld, bel_agg, bel_tup, bel_ref, bel_only, bel_mpr, bel_fn, bel_sl_nil, bel_sl_nilF, bel_sl_nilO, bel_sl_cons, bel_sl_app, belO_cells, belO_tok, belO_dead, belO_deferred, belO_map, belO_iter, belO_loop, bel_vec, bel_vp, belO_vecM, belO_vec, -List.map_map]
    · rw [if_pos (by simpa using c1)] at hI
      simp (maxSteps := 4000000) only [go_sem, AV.one, drawV, intsOf, keyIdx, over, putO, memAt, List.map_cons, List.length_cons, ↓reduceIte, zdrop, one_i, one_b, one_sl, one_ptr, one_ref, one_nilp, one_mp, one_fn, one_nilf, hi', c1]
      all_goals (repeat' (first | with_reducible rfl | with_reducible apply And.intro | ((with_reducible show drawOK _ _ = true); rfl))) <;> (try first | omega | (simp only [InR]; omega) | with_reducible assumption)
      rw [← hI]
  · intro hI
    simp (maxSteps := 4000000) only [go_sem, AV.one, drawV, intsOf, keyIdx, over, putO, memAt, List.map_cons, List.length_cons, ↓reduceIte, zdrop, one_i, one_b, one_sl, one_ptr, one_ref, one_nilp, one_mp, one_fn, one_nilf, show ¬ (((4 : Nat) : Int) ≤ 3) by decide]
    all_goals (repeat' (first | with_reducible rfl | with_reducible apply And.intro | ((with_reducible show drawOK _ _ = true); rfl))) <;> (try first | omega | (simp only [InR]; omega) | with_reducible assumption)
    rw [← hI]; rfl
theorem rLost_call (s : Sh) (hs : ShOk s) : CallP Tryz.prog 36 [Enc.enc s] (· = Enc.enc (lostN s s.stacks.length)) := by
  have h8 := hs.len
  obtain ⟨L, hL⟩ : ∃ L, L = lostN s := ⟨_, rfl⟩
  have hLs := fun n => lostN_succ s n
  have hLl := fun n => lostN_len s n
  rw [← hL] at hLs hLl
  rw [← hL]
  have hL0 : L 0 = [] := by rw [hL]; rfl
  simp only [enc_fnl, enc_fnb, enc_fnc, enc_refc, enc_arr, enc_int, enc_bool, enc_list, enc_sk, enc_sp, enc_rg, enc_sh, enc_tr, enc_refs, enc_fns, enc_wks]
  refine callP_of_vc (Φ := P51) Tryz.func36 rfl (by rfl) (by rw [Tryz.ntmps36]; simp) mixed P51_ok (by simp [AV.strip, AV.strip1, Tk.strip]) ?_
  rw [Tryz.ntmps36]
  simp only [Tryz.f36, startSt, tmFrom]
  simp (maxSteps := 4000000) only [go_sem, AV.one, drawV, intsOf, keyIdx, over, putO, memAt, List.map_cons, List.length_cons, ↓reduceIte, zdrop, one_i, one_b, one_sl, one_ptr, one_ref, one_nilp, one_mp, one_fn, one_nilf]
  all_goals (repeat' (first | with_reducible rfl | with_reducible apply And.intro | ((with_reducible show drawOK _ _ = true); rfl))) <;> (try first | omega | (simp only [InR]; omega) | with_reducible assumption)
  refine loopN (s.stacks.length) [.slot 3 1] [1, 2] (fun i => [(4, .int .i64 i), (3, .sl ((L i).map EncE.cs) (.own 1))]) (fun i m => m.set 1 (.tok (L i).length 1)) (fun _ => True) ?_ ?_ ?_ ?_
  · trivial
  · simp [AV.bare, bel_ints, cs_arr, dep_arr, cs_int, cs_bool, cs_list, cs_sk, cs_sp, AtHead, Same, AllO, Begins, LtAll, headSt, tokz_nil, tokz_cons, tokz1, lk, dep_int, dep_bool, dep_list, dep_sk, dep_sp, memAt, bel_map, bel_mapF, bel_mapO, bel_undef, bel_int, bel_boolv, bel_nilp, bel_nilf, bel_ptr, bel_arr, bel_mp, bel_yld, bel_agg, bel_tup, bel_ref, bel_only, bel_mpr, bel_fn, bel_sl_nil, bel_sl_nilF, bel_sl_nilO, bel_sl_cons, bel_sl_app, belO_cells, belO_tok, belO_dead, belO_deferred, belO_map, belO_iter, belO_loop, bel_vec, bel_vp, belO_vecM, belO_vec, hL0, -List.map_map]
  · intro i hi _
    have hi' := Int.ofNat_lt.2 hi
    have hll := hLl i
    have hsi := hLs i
    have hch := ch_at s i
    have hoe : (⟨[at_ s.stacks i], s.hands, s.rain⟩ : Sh) = oneS s (at_ s.stacks i) := rfl
    have hok := one_ok hs (at_mem hi)
    cases c1 : decide ((at_ s.stacks i).chairs > 0)
    · have hb : lostB s i = false := by unfold lostB; rw [hch]; rw [show decide (0 < (at_ s.stacks i).chairs) = false from c1]; rfl
      rw [hb, if_neg (by simp), List.append_nil] at hsi
      simp (maxSteps := 4000000) only [go_sem, AV.one, drawV, intsOf, keyIdx, over, putO, memAt, List.map_cons, List.length_cons, ↓reduceIte, zdrop, one_i, one_b, one_sl, one_ptr, one_ref, one_nilp, one_mp, one_fn, one_nilf, getD_mapA hi, hi', c1, hoe]
      all_goals (repeat' (first | with_reducible rfl | with_reducible apply And.intro | ((with_reducible show drawOK _ _ = true); rfl))) <;> (try first | omega | (simp only [InR]; omega) | with_reducible assumption)
      refine nxt hi trivial ?_
      simp [AV.bare, bel_ints, cs_arr, dep_arr, cs_int, cs_bool, cs_list, cs_sk, cs_sp, AtHead, Same, AllO, Begins, LtAll, headSt, tokz_nil, tokz_cons, tokz1, lk, dep_int, dep_bool, dep_list, dep_sk, dep_sp, memAt, bel_map, bel_mapF, bel_mapO, bel_undef, bel_int, bel_boolv, bel_nilp, bel_nilf, bel_ptr, bel_arr, bel_mp, bel_yld, bel_agg, bel_tup, bel_ref, bel_only, bel_mpr, bel_fn, bel_sl_nil, bel_sl_nilF, bel_sl_nilO, bel_sl_cons, bel_sl_app, belO_cells, belO_tok, belO_dead, belO_deferred, belO_map, belO_iter, belO_loop, bel_vec, bel_vp, belO_vecM, belO_vec, hsi, -List.map_map]
    · have hom := one_most hs hi (by rw [hch]; exact of_decide_eq_true c1)
      cases c2 : decide (mostS (oneS s (at_ s.stacks i)) = 0)
      · have hb : lostB s i = false := by
          have : ¬ minL [s.hands, spS s i] = 0 := fun e => of_decide_eq_false c2 (hom.2 e)
          unfold lostB; rw [decide_eq_false this, Bool.and_false]
        rw [hb, if_neg (by simp), List.append_nil] at hsi
        simp (maxSteps := 4000000) only [go_sem, AV.one, drawV, intsOf, keyIdx, over, putO, memAt, List.map_cons, List.length_cons, ↓reduceIte, zdrop, one_i, one_b, one_sl, one_ptr, one_ref, one_nilp, one_mp, one_fn, one_nilf, getD_mapA hi, hi', c1, hoe, c2]
        all_goals (repeat' (first | with_reducible rfl | with_reducible apply And.intro | ((with_reducible show drawOK _ _ = true); rfl))) <;> (try first | omega | (simp only [InR]; omega) | with_reducible assumption)
        refine nxt hi trivial ?_
        simp [AV.bare, bel_ints, cs_arr, dep_arr, cs_int, cs_bool, cs_list, cs_sk, cs_sp, AtHead, Same, AllO, Begins, LtAll, headSt, tokz_nil, tokz_cons, tokz1, lk, dep_int, dep_bool, dep_list, dep_sk, dep_sp, memAt, bel_map, bel_mapF, bel_mapO, bel_undef, bel_int, bel_boolv, bel_nilp, bel_nilf, bel_ptr, bel_arr, bel_mp, bel_yld, bel_agg, bel_tup, bel_ref, bel_only, bel_mpr, bel_fn, bel_sl_nil, bel_sl_nilF, bel_sl_nilO, bel_sl_cons, bel_sl_app, belO_cells, belO_tok, belO_dead, belO_deferred, belO_map, belO_iter, belO_loop, bel_vec, bel_vp, belO_vecM, belO_vec, hsi, -List.map_map]
      · have hb : lostB s i = true := by
          unfold lostB; rw [hch, decide_eq_true (hom.1 (of_decide_eq_true c2))]
          rw [show decide (0 < (at_ s.stacks i).chairs) = true from c1]; rfl
        rw [hb, if_pos rfl] at hsi
        have hsl : (L (i + 1)).length = (L i).length + 1 := by rw [hsi]; simp
        simp (maxSteps := 4000000) only [go_sem, AV.one, drawV, intsOf, keyIdx, over, putO, memAt, List.map_cons, List.length_cons, ↓reduceIte, zdrop, one_i, one_b, one_sl, one_ptr, one_ref, one_nilp, one_mp, one_fn, one_nilf, getD_mapA hi, hi', c1, hoe, c2]
        all_goals (repeat' (first | with_reducible rfl | with_reducible apply And.intro | ((with_reducible show drawOK _ _ = true); rfl))) <;> (try first | omega | (simp only [InR]; omega) | with_reducible assumption)
        refine nxt hi trivial ?_
        simp [AV.bare, bel_ints, cs_arr, dep_arr, cs_int, cs_bool, cs_list, cs_sk, cs_sp, AtHead, Same, AllO, Begins, LtAll, headSt, tokz_nil, tokz_cons, tokz1, lk, dep_int, dep_bool, dep_list, dep_sk, dep_sp, memAt, bel_map, bel_mapF, bel_mapO, bel_undef, bel_int, bel_boolv, bel_nilp, bel_nilf, bel_ptr, bel_arr, bel_mp, bel_yld, bel_agg, bel_tup, bel_ref, bel_only, bel_mpr, bel_fn, bel_sl_nil, bel_sl_nilF, bel_sl_nilO, bel_sl_cons, bel_sl_app, belO_cells, belO_tok, belO_dead, belO_deferred, belO_map, belO_iter, belO_loop, bel_vec, bel_vp, belO_vecM, belO_vec, hsl, hsi, -List.map_map]
  · intro _
    simp (maxSteps := 4000000) only [go_sem, AV.one, drawV, intsOf, keyIdx, over, putO, memAt, List.map_cons, List.length_cons, ↓reduceIte, zdrop, one_i, one_b, one_sl, one_ptr, one_ref, one_nilp, one_mp, one_fn, one_nilf, Int.lt_irrefl]
    all_goals (repeat' (first | with_reducible rfl | with_reducible apply And.intro | ((with_reducible show drawOK _ _ = true); rfl))) <;> (try first | omega | (simp only [InR]; omega) | with_reducible assumption)
def P5101 : Specs := vecT [10] P51
theorem P5101_app (g : FuncId) (h : ¬ (g = 4000000000)) : P5101 g = P51 g := by unfold P5101 vecT; rw [if_neg h]
theorem P5101_ok : SpecsOk Tryz.prog P5101 := vecT_ok P51_ok
theorem P5101_flag (d : Nat) : flagOf P5101 (some d) = if d ∈ ([10] : List Nat) then some d else none := flagOf_vecT _ _ d
attribute [go_sem] P5101_app P5101_flag
theorem rWithout_call (s : Sh) (i : Int) (h : ShOk s ∧ idxOk s i) : CallP Tryz.prog 37 [Enc.enc s, Enc.enc i] (· = Enc.enc (withoutS s [i])) := by
  obtain ⟨hs, ⟨i0, i1⟩⟩ := h
  have h8 := hs.len
  obtain ⟨k, rfl⟩ := Int.eq_ofNat_of_zero_le i0
  have hk : k < s.stacks.length := by omega
  have hk' := Int.ofNat_lt.2 hk
  have hz : withoutS s [(k : Int)] = ⟨s.stacks.set k ⟨0, (at_ s.stacks k).leak⟩, s.hands, s.rain⟩ := rfl
  rw [hz]
  have hset := set_sk s.stacks k ⟨0, (at_ s.stacks k).leak⟩
  simp only at hset
  obtain ⟨Z, hZ⟩ : ∃ Z, s.stacks.set k ⟨0, (at_ s.stacks k).leak⟩ = Z := ⟨_, rfl⟩
  rw [hZ] at hset
  have hzl : Z.length = s.stacks.length := by rw [← hZ]; simp
  rw [hZ]
  simp only [enc_fnl, enc_fnb, enc_fnc, enc_refc, enc_arr, enc_int, enc_bool, enc_list, enc_sk, enc_sp, enc_rg, enc_sh, enc_tr, enc_refs, enc_fns, enc_wks]
  refine callP_of_vc (Φ := P5101) Tryz.func37 rfl (by rfl) (by rw [Tryz.ntmps37]; simp) mixed P5101_ok (by simp [AV.strip, AV.strip1, Tk.strip]) ?_
  rw [Tryz.ntmps37]
  simp only [Tryz.f37, startSt, tmFrom]
  simp (maxSteps := 4000000) only [go_sem, AV.one, drawV, intsOf, keyIdx, over, putO, memAt, List.map_cons, List.length_cons, ↓reduceIte, zdrop, one_i, one_b, one_sl, one_ptr, one_ref, one_nilp, one_mp, one_fn, one_nilf, List.map_nil, getD_mapA hk, hk', hset]
  all_goals (repeat' (first | with_reducible rfl | with_reducible apply And.intro | ((with_reducible show drawOK _ _ = true); rfl))) <;> (try first | omega | (simp only [InR]; omega) | with_reducible assumption)
  · simp [cs_sk, AV.one]
  · rw [List.take_of_length_le (by simp [hzl]), all_map _ (by rw [dep_sk]; omega)]
def P52 : Specs := addSpec 34 (spec1 (fun s : Sh => ShOk s) (fun s => handsR s 4 0)) (addSpec 36 (spec1 (fun s : Sh => ShOk s) (fun s => lostN s s.stacks.length)) (addSpec 37 (spec2 (fun (s : Sh) (i : Int) => ShOk s ∧ idxOk s i) (fun s i => withoutS s [i])) (P51)))
theorem P52_app (g : FuncId) : P52 g = (addSpec 34 (spec1 (fun s : Sh => ShOk s) (fun s => handsR s 4 0)) (addSpec 36 (spec1 (fun s : Sh => ShOk s) (fun s => lostN s s.stacks.length)) (addSpec 37 (spec2 (fun (s : Sh) (i : Int) => ShOk s ∧ idxOk s i) (fun s i => withoutS s [i])) (P51)))) g := rfl
theorem P52_ok : SpecsOk Tryz.prog P52 := addSpec_ok (spec1_ok rHands_call) (addSpec_ok (spec1_ok rLost_call) (addSpec_ok (spec2_ok rWithout_call) (P51_ok)))
attribute [go_sem] P52_app
theorem P52_flag (d : Option Nat) : flagOf P52 d = none := (flagOf_add (by decide) d).trans ((flagOf_add (by decide) d).trans ((flagOf_add (by decide) d).trans (P51_flag d)))
attribute [go_sem] P52_flag
end Go.Proofs
