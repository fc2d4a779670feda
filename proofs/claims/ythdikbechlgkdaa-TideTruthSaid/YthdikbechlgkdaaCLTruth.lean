/- The law TideTruth. -/
import Derived.Test.YthdikbechlgkdaaCS28
import Derived.Test.YthdikbechlgkdaaG13
set_option linter.all false
namespace Go.Proofs
open Go.Fs
set_option linter.unusedSimpArgs false
set_option linter.unusedVariables false
set_option maxHeartbeats 4000000
set_option maxRecDepth 8000
theorem marked_ok {t : Tb} (hf : FOk t) {which : Uk .u16} (hw : 0 ≤ which.n) {ws : List (Uk .u16)} (hws : WsOk ws) : FOk (markedT t which ws) ∧ markedS t which ∈ truthsL (markedT t which ws) := by
  have hsm := markedS_mem hf hw
  have hso := (mem_lists hf _).1 hsm
  have hsb := (listsL_at hf.hok _ hsm).2
  have hb := wordL_bd hws 0
  have hms : ∀ m ∈ (markedT t which ws).marks, ∃ w : Int, 0 ≤ w ∧ m = mkW t (markedS t which) w := fun m hm => by
    obtain ⟨i, _, rfl⟩ := List.mem_map.1 hm
    exact ⟨_, (wordL_bd hws _).1, rfl⟩
  have hfx : FOk (markedT t which ws) := by
    refine ⟨hf.l9, hf.lv, ?_, hf.l0, hf.len, hf.s0, hf.s1, hf.hs, hf.ls, fun m hm => ?_, hf.many, hf.some⟩
    · show (marksW _ _ _ _).length ≤ 5
      rw [marksW_len]; omega
    · obtain ⟨w, h0, rfl⟩ := hms m hm
      exact (mkW_ok hf hso hsb h0).1
  refine ⟨hfx, (truth_iff hfx _).2 ⟨⟨hso.len, hso.rng, hso.near⟩, fun m hm => ?_⟩⟩
  obtain ⟨w, h0, rfl⟩ := hms m hm
  exact (mkW_ok hf hso hsb h0).2
theorem first_none {x : Tb} (h : faultT x = 0) (q : truthsL x ≠ []) : firstQ x = (0, 7) := by
  have hP := (truths_poss h).1 q
  unfold firstQ firstL
  rw [if_pos h]
  rcases firstN_spec (allL x) x.marks.length 0 with ⟨h1, h2⟩ | ⟨m, h1, h2, h3, h4, h5⟩
  · rw [h1, if_pos (by decide)]
  · have := (can_mask h (n := m) (by omega)).2 (hP.mono fun _ _ _ => trivial)
    rw [this] at h4; cases h4
theorem TideTruth_true (t : Tb) (which : Uk .u16) (ws : List (Uk .u16)) (hw : InR .u16 which.n) (hws : WsOk ws) :
    CallP Try.prog 5 [Enc.enc t, Enc.enc which, Enc.enc ws] (· = Enc.enc true) := by
  cases c0 : (thinB t && decide (faultT t = 0))
  · simp only [enc_uk]
    simp only [enc_fnl, enc_fnb, enc_fnc, enc_refc, enc_arr, enc_int, enc_bool, enc_list, enc_rg, enc_mk, enc_tb]
    refine callP_of_vc (Φ := P54) Try.func5 rfl (by rfl) (by rw [Try.ntmps5]; simp) mixed P54_ok (by simp [AV.strip, AV.strip1, Tk.strip]) ?_
    rw [Try.ntmps5]
    simp only [Try.f5, startSt, tmFrom]
    simp (maxSteps := 4000000) only [go_sem, AV.one, drawV, intsOf, keyIdx, over, putO, memAt, List.map_cons, List.length_cons, ↓reduceIte, snap_trues, imm_trues, enc_pair, enc_iterv, zdrop, one_i, one_b, one_sl, one_ptr, one_ref, one_nilp, one_mp, one_fn, one_nilf, dep_uk, c0]
    all_goals (repeat' (first | with_reducible rfl | with_reducible apply And.intro | ((with_reducible show drawOK _ _ = true); rfl))) <;> (try first | omega | (simp only [InR]; omega) | with_reducible assumption)
  have c12 : thinB t = true ∧ faultT t = 0 := by simpa using c0
  obtain ⟨c1, c2⟩ := c12
  have hl := thin_len c1
  have hf := fok_of c2
  obtain ⟨hfx, hsx⟩ := marked_ok hf (which := which) hw.1 hws
  have hxl : (markedT t which ws).last = t.last := rfl
  have hxh : (markedT t which ws).heights = t.heights := rfl
  have hxv : (markedT t which ws).levels = t.levels := rfl
  generalize hx : markedT t which ws = x at hfx hsx hxl hxh hxv
  generalize hs : markedS t which = s at hsx
  have hd : (Enc.dec (AV.int .u16 which.n) : Option (Uk .u16)) = some which := dec_uk _
  have hl0 := hfx.l0
  have hl9 := hfx.l9
  have hlv := hfx.lv
  have hm5 := hfx.m5
  have hlen := hfx.len
  have hv := hfx.vok
  have q : truthsL x ≠ [] := by intro e; rw [e] at hsx; cases hsx
  have hso := ((truth_iff hfx s).1 hsx).1
  have hsl := hso.len
  have hsb := truth_lok hv hsx
  have e1 : playQ x s = (x.levels.map (wetL s), 0) := by
    unfold playQ
    rw [if_pos hfx.fault, if_pos ((listed_iff s).2 hso)]
  have e2 := bnd_ok hfx.fault q
  have e3 : leaveQ x = ([], 0) := by
    obtain ⟨l, e, hL⟩ := leave_ok hfx.fault
    rw [e, (least_nil hfx.fault hL).2 q]; rfl
  have e4 := first_none hfx.fault q
  have e5 : proveB x s = true := by
    unfold proveB
    rw [Bool.and_eq_true, decide_eq_true_eq]
    exact ⟨hfx.fault, (mem_truthsL hv s).1 hsx⟩
  obtain ⟨B, hB⟩ : ∃ B, ((List.range (x.last + 1).toNat).map fun i : Nat => boundsL (truthsL x) i) = B := ⟨_, rfl⟩
  rw [hB] at e2
  have hBl : (B.length : Int) = x.last + 1 := by rw [← hB]; simp; omega
  have hBl' : decide ((B.length : Int) = x.last + 1) = true := by simp [hBl]
  have hbi : ∀ i : Nat, i < B.length → IsB (fun z => ∃ p ∈ truthsL x, at_ p i = z) (at_ B i) := fun i hi => by
    have := boundsL_isB hv q (hour := (i : Int)) (by omega) (by omega)
    rw [Int.toNat_natCast] at this
    rw [← hB, at_range _ (by omega)]
    exact this
  obtain ⟨W, hW⟩ : ∃ W, x.levels.map (wetL s) = W := ⟨_, rfl⟩
  rw [hW] at e1
  have hWl : W.length = x.levels.length := by rw [← hW]; simp
  have hWl' : decide ((W.length : Int) = (x.levels.length : Int)) = true := by simp [hWl]
  have hWat : ∀ k, k < x.levels.length → at_ W k = wetL s (at_ x.levels k) := fun k hk => by rw [← hW]; simp [at_, hk]
  have hsB : s.length = B.length := by omega
  simp only [enc_uk]
  simp only [enc_fnl, enc_fnb, enc_fnc, enc_refc, enc_arr, enc_int, enc_bool, enc_list, enc_rg, enc_mk, enc_tb]
  refine callP_of_vc (Φ := P54) Try.func5 rfl (by rfl) (by rw [Try.ntmps5]; simp) mixed P54_ok (by simp [AV.strip, AV.strip1, Tk.strip]) ?_
  rw [Try.ntmps5]
  simp only [Try.f5, startSt, tmFrom]
  iterate 2 (
    refine vc_seqK fun Q1 h1 => ?_
    simp (maxSteps := 4000000) only [go_sem, AV.one, drawV, intsOf, keyIdx, over, putO, memAt, List.map_cons, List.length_cons, ↓reduceIte, snap_trues, imm_trues, enc_pair, enc_iterv, zdrop, one_i, one_b, one_sl, one_ptr, one_ref, one_nilp, one_mp, one_fn, one_nilf, dep_uk, c0]
    all_goals (repeat' (first | with_reducible rfl | with_reducible apply And.intro | ((with_reducible show drawOK _ _ = true); rfl))) <;> (try first | omega | (simp only [InR]; omega) | with_reducible assumption)
    rw [h1]; clear h1 Q1; simp only [thenA, vc_assoc])
  iterate 2 (
    refine vc_seqK fun Q1 h1 => ?_
    simp (maxSteps := 4000000) only [go_sem, AV.one, drawV, intsOf, keyIdx, over, putO, memAt, List.map_cons, List.length_cons, ↓reduceIte, snap_trues, imm_trues, enc_pair, enc_iterv, zdrop, one_i, one_b, one_sl, one_ptr, one_ref, one_nilp, one_mp, one_fn, one_nilf, dep_uk, hd, hx, hs]
    all_goals (repeat' (first | with_reducible rfl | with_reducible apply And.intro | ((with_reducible show drawOK _ _ = true); rfl))) <;> (try first | omega | (simp only [InR]; omega) | with_reducible assumption)
    rw [h1]; clear h1 Q1; simp only [thenA, vc_assoc])
  refine vc_seqK fun Q1 h1 => ?_
  simp (maxSteps := 4000000) only [go_sem, AV.one, drawV, intsOf, keyIdx, over, putO, memAt, List.map_cons, List.length_cons, ↓reduceIte, snap_trues, imm_trues, enc_pair, enc_iterv, zdrop, one_i, one_b, one_sl, one_ptr, one_ref, one_nilp, one_mp, one_fn, one_nilf, dep_uk, e1]
  all_goals (repeat' (first | with_reducible rfl | with_reducible apply And.intro | ((with_reducible show drawOK _ _ = true); rfl))) <;> (try first | omega | (simp only [InR]; omega) | with_reducible assumption)
  rw [h1]; clear h1 Q1; simp only [thenA, vc_assoc]
  refine vc_seqK fun Q1 h1 => ?_
  simp (maxSteps := 4000000) only [go_sem, AV.one, drawV, intsOf, keyIdx, over, putO, memAt, List.map_cons, List.length_cons, ↓reduceIte, snap_trues, imm_trues, enc_pair, enc_iterv, zdrop, one_i, one_b, one_sl, one_ptr, one_ref, one_nilp, one_mp, one_fn, one_nilf, dep_uk, e2]
  all_goals (repeat' (first | with_reducible rfl | with_reducible apply And.intro | ((with_reducible show drawOK _ _ = true); rfl))) <;> (try first | omega | (simp only [InR]; omega) | with_reducible assumption)
  rw [h1]; clear h1 Q1; simp only [thenA, vc_assoc]
  refine vc_seqK fun Q1 h1 => ?_
  simp (maxSteps := 4000000) only [go_sem, AV.one, drawV, intsOf, keyIdx, over, putO, memAt, List.map_cons, List.length_cons, ↓reduceIte, snap_trues, imm_trues, enc_pair, enc_iterv, zdrop, one_i, one_b, one_sl, one_ptr, one_ref, one_nilp, one_mp, one_fn, one_nilf, dep_uk, e3]
  all_goals (repeat' (first | with_reducible rfl | with_reducible apply And.intro | ((with_reducible show drawOK _ _ = true); rfl))) <;> (try first | omega | (simp only [InR]; omega) | with_reducible assumption)
  rw [h1]; clear h1 Q1; simp only [thenA, vc_assoc]
  refine vc_seqK fun Q1 h1 => ?_
  simp (maxSteps := 4000000) only [go_sem, AV.one, drawV, intsOf, keyIdx, over, putO, memAt, List.map_cons, List.length_cons, ↓reduceIte, snap_trues, imm_trues, enc_pair, enc_iterv, zdrop, one_i, one_b, one_sl, one_ptr, one_ref, one_nilp, one_mp, one_fn, one_nilf, dep_uk, e4]
  all_goals (repeat' (first | with_reducible rfl | with_reducible apply And.intro | ((with_reducible show drawOK _ _ = true); rfl))) <;> (try first | omega | (simp only [InR]; omega) | with_reducible assumption)
  rw [h1]; clear h1 Q1; simp only [thenA, vc_assoc]
  refine vc_seqK fun Q1 h1 => ?_
  simp (maxSteps := 4000000) only [go_sem, AV.one, drawV, intsOf, keyIdx, over, putO, memAt, List.map_cons, List.length_cons, ↓reduceIte, snap_trues, imm_trues, enc_pair, enc_iterv, zdrop, one_i, one_b, one_sl, one_ptr, one_ref, one_nilp, one_mp, one_fn, one_nilf, dep_uk, e5, hBl', hWl', List.append_eq]
  all_goals (repeat' (first | with_reducible rfl | with_reducible apply And.intro | ((with_reducible show drawOK _ _ = true); rfl))) <;> (try first | omega | (simp only [InR]; omega) | with_reducible assumption)
  rw [h1]; clear h1 Q1; simp only [thenA, vc_assoc]
  simp (maxSteps := 4000000) only [go_sem, AV.one, drawV, intsOf, keyIdx, over, putO, memAt, List.map_cons, List.length_cons, ↓reduceIte, snap_trues, imm_trues, enc_pair, enc_iterv, zdrop, one_i, one_b, one_sl, one_ptr, one_ref, one_nilp, one_mp, one_fn, one_nilf, dep_uk, hBl', hWl']
  all_goals (repeat' (first | with_reducible rfl | with_reducible apply And.intro | ((with_reducible show drawOK _ _ = true); rfl))) <;> (try first | omega | (simp only [InR]; omega) | with_reducible assumption)
  refine loopN (B.length) [] [6, 7, 8, 9, 11] (fun i => [(17, .int .i64 i)]) (fun _ m => m) (fun _ => True) ?_ ?_ ?_ ?_
  · trivial
  · simp [AV.bare, bel_ints, cs_arr, dep_arr, cs_int, cs_bool, cs_list, cs_rg, cs_mk, AtHead, Same, AllO, Begins, LtAll, headSt, tokz_nil, tokz_cons, tokz1, lk, dep_int, dep_bool, dep_list, dep_rg, dep_mk, memAt, bel_map, bel_mapF, bel_mapO, bel_undef, bel_int, bel_boolv, bel_nilp, bel_nilf, bel_ptr, bel_arr, bel_mp, bel_yld, bel_agg, bel_tup, bel_ref, bel_only, bel_mpr, bel_fn, bel_sl_nil, bel_sl_nilF, bel_sl_nilO, bel_sl_cons, bel_sl_app, belO_cells, belO_tok, belO_dead, belO_deferred, belO_map, belO_iter, belO_loop, bel_vec, bel_vp, belO_vecM, belO_vec, -List.map_map]
  · intro i hi _
    have hi' := Int.ofNat_lt.2 hi
    have hg1 : (s.map EncE.cs).getD i [] = [AV.int .i64 (at_ s i)] := by rw [getD_mapA (by omega)]; rfl
    have hg2 : (B.map EncE.cs).getD i [] = [AV.int .i64 (at_ B i).lo, AV.int .i64 (at_ B i).hi] := by rw [getD_mapA hi]; rfl
    have hin : inB (at_ s i) (at_ B i).lo (at_ B i).hi = true := (inB_iff _ _ _).2 ((hbi i hi).all _ ⟨s, hsx, rfl⟩)
    simp (maxSteps := 4000000) only [go_sem, AV.one, drawV, intsOf, keyIdx, over, putO, memAt, List.map_cons, List.length_cons, ↓reduceIte, snap_trues, imm_trues, enc_pair, enc_iterv, zdrop, one_i, one_b, one_sl, one_ptr, one_ref, one_nilp, one_mp, one_fn, one_nilf, dep_uk, hi', hg1, hg2, hin]
    all_goals (repeat' (first | with_reducible rfl | with_reducible apply And.intro | ((with_reducible show drawOK _ _ = true); rfl))) <;> (try first | omega | (simp only [InR]; omega) | with_reducible assumption)
    refine nxt hi trivial ?_
    simp [AV.bare, bel_ints, cs_arr, dep_arr, cs_int, cs_bool, cs_list, cs_rg, cs_mk, AtHead, Same, AllO, Begins, LtAll, headSt, tokz_nil, tokz_cons, tokz1, lk, dep_int, dep_bool, dep_list, dep_rg, dep_mk, memAt, bel_map, bel_mapF, bel_mapO, bel_undef, bel_int, bel_boolv, bel_nilp, bel_nilf, bel_ptr, bel_arr, bel_mp, bel_yld, bel_agg, bel_tup, bel_ref, bel_only, bel_mpr, bel_fn, bel_sl_nil, bel_sl_nilF, bel_sl_nilO, bel_sl_cons, bel_sl_app, belO_cells, belO_tok, belO_dead, belO_deferred, belO_map, belO_iter, belO_loop, bel_vec, bel_vp, belO_vecM, belO_vec, -List.map_map]
  · intro _
    simp (maxSteps := 4000000) only [go_sem, AV.one, drawV, intsOf, keyIdx, over, putO, memAt, List.map_cons, List.length_cons, ↓reduceIte, snap_trues, imm_trues, enc_pair, enc_iterv, zdrop, one_i, one_b, one_sl, one_ptr, one_ref, one_nilp, one_mp, one_fn, one_nilf, dep_uk, Int.lt_irrefl]
    all_goals (repeat' (first | with_reducible rfl | with_reducible apply And.intro | ((with_reducible show drawOK _ _ = true); rfl))) <;> (try first | omega | (simp only [InR]; omega) | with_reducible assumption)
    refine loopN (W.length) [] [6, 7, 8, 9] (fun k => [(18, .int .i64 k)]) (fun _ m => m) (fun _ => True) ?_ ?_ ?_ ?_
    · trivial
    · simp [AV.bare, bel_ints, cs_arr, dep_arr, cs_int, cs_bool, cs_list, cs_rg, cs_mk, AtHead, Same, AllO, Begins, LtAll, headSt, tokz_nil, tokz_cons, tokz1, lk, dep_int, dep_bool, dep_list, dep_rg, dep_mk, memAt, bel_map, bel_mapF, bel_mapO, bel_undef, bel_int, bel_boolv, bel_nilp, bel_nilf, bel_ptr, bel_arr, bel_mp, bel_yld, bel_agg, bel_tup, bel_ref, bel_only, bel_mpr, bel_fn, bel_sl_nil, bel_sl_nilF, bel_sl_nilO, bel_sl_cons, bel_sl_app, belO_cells, belO_tok, belO_dead, belO_deferred, belO_map, belO_iter, belO_loop, bel_vec, bel_vp, belO_vecM, belO_vec, -List.map_map]
    · intro k hk _
      have hk' := Int.ofNat_lt.2 hk
      have hkx : k < x.levels.length := by omega
      have hg3 : (W.map EncE.cs).getD k [] = [.sl ((wetL s (at_ x.levels k)).map EncE.cs) .no] := by rw [getD_mapA hk, hWat k hkx]; rfl
      have hg4 : (x.levels.map EncE.cs).getD k [] = [AV.int .i64 (at_ x.levels k)] := by rw [getD_mapA hkx]; rfl
      have e6 := rch_ok (row := (k : Int)) hfx.fault q (by omega) (by omega)
      rw [Int.toNat_natCast] at e6
      have hR := reachL_isB hv q (at_ x.levels k)
      have hRs := hR.all _ ⟨s, hsx, rfl⟩
      have hwl := wetN_len s (at_ x.levels k) s.length
      have hwl' : (wetL s (at_ x.levels k)).length ≤ s.length := hwl
      obtain ⟨lv, hlve⟩ : ∃ lv, at_ x.levels k = lv := ⟨_, rfl⟩
      rw [hlve] at hg3 hg4 e6 hRs hwl'
      generalize reachL (truthsL x) lv = r at e6 hRs
      have e7 : ∀ h : Nat, (h : Int) ≤ x.last → ∃ v, wetQ x (k : Int) (h : Int) = (v, 0) ∧ inB v 1 3 = true ∧ (v = 1 → lv < at_ s h) ∧ (v = 2 → ¬ lv < at_ s h) := fun h hh => by
        have e := wet_ok (row := (k : Int)) (hour := (h : Int)) hfx.fault q (by omega) (by omega) (by omega) hh
        rw [Int.toNat_natCast, hlve] at e
        have hb := boundsL_isB hv q (hour := (h : Int)) (by omega) hh
        have hb1 := hb.all _ ⟨s, hsx, rfl⟩
        have hb2 := hb.le
        rw [Int.toNat_natCast] at hb1
        refine ⟨_, e, ?_, ?_, ?_⟩ <;> rw [verdict_iff hb]
        · rw [inB_iff]; split
          · omega
          · split <;> omega
        · intro hq
          by_cases c : lv < (boundsL (truthsL x) (h : Int)).lo
          · omega
          · rw [if_neg c] at hq
            split at hq <;> omega
        · intro hq
          by_cases c : lv < (boundsL (truthsL x) (h : Int)).lo
          · rw [if_pos c] at hq; omega
          · rw [if_neg c] at hq
            split at hq <;> omega
      unfold soonestL at hRs
      cases hwe : wetL s lv
      all_goals
        rw [hwe] at hg3 hRs hwl'
        simp only at hRs
      · have hin : inB (x.last + 1) r.lo r.hi = true := (inB_iff _ _ _).2 (by omega)
        simp (maxSteps := 4000000) only [go_sem, AV.one, drawV, intsOf, keyIdx, over, putO, memAt, List.map_cons, List.length_cons, ↓reduceIte, snap_trues, imm_trues, enc_pair, enc_iterv, zdrop, one_i, one_b, one_sl, one_ptr, one_ref, one_nilp, one_mp, one_fn, one_nilf, dep_uk, hk', hg3, e6, hin, Int.lt_irrefl]
        all_goals (repeat' (first | with_reducible rfl | with_reducible apply And.intro | ((with_reducible show drawOK _ _ = true); rfl))) <;> (try first | omega | (simp only [InR]; omega) | with_reducible assumption)
        refine loopN ((x.last + 1).toNat) [] [6, 7, 8, 9, 18, 19, 20, 21, 122, 123, 124, 128, 129, 130, 131, 132, 133, 134, 135, 136, 137, 138, 139, 140, 141, 142, 144, 145, 146, 147, 148, 149, 150, 151, 152, 153, 154, 155, 156] (fun h => [(22, .int .i64 h)]) (fun _ m => m) (fun _ => True) ?_ ?_ ?_ ?_
        · trivial
        · simp [AV.bare, bel_ints, cs_arr, dep_arr, cs_int, cs_bool, cs_list, cs_rg, cs_mk, AtHead, Same, AllO, Begins, LtAll, headSt, tokz_nil, tokz_cons, tokz1, lk, dep_int, dep_bool, dep_list, dep_rg, dep_mk, memAt, bel_map, bel_mapF, bel_mapO, bel_undef, bel_int, bel_boolv, bel_nilp, bel_nilf, bel_ptr, bel_arr, bel_mp, bel_yld, bel_agg, bel_tup, bel_ref, bel_only, bel_mpr, bel_fn, bel_sl_nil, bel_sl_nilF, bel_sl_nilO, bel_sl_cons, bel_sl_app, belO_cells, belO_tok, belO_dead, belO_deferred, belO_map, belO_iter, belO_loop, bel_vec, bel_vp, belO_vecM, belO_vec, -List.map_map]
        · intro h hh _
          have hh' : decide ((h : Int) ≤ x.last) = true := by simp; omega
          obtain ⟨v, g1, g2, g3, g4⟩ := e7 h (by omega)
          have hg5 : (s.map EncE.cs).getD h [] = [AV.int .i64 (at_ s h)] := by rw [getD_mapA (by omega)]; rfl
          cases g5 : decide (lv < at_ s h) <;> cases g6 : decide (v = 1) <;> cases g7 : decide (v = 2)
          all_goals
            first
            | (exfalso; simp at g5 g6 g7; omega)
            | (simp (maxSteps := 4000000) only [go_sem, AV.one, drawV, intsOf, keyIdx, over, putO, memAt, List.map_cons, List.length_cons, ↓reduceIte, snap_trues, imm_trues, enc_pair, enc_iterv, zdrop, one_i, one_b, one_sl, one_ptr, one_ref, one_nilp, one_mp, one_fn, one_nilf, dep_uk, hh', hg4, hg5, g1, g2, g5, g6, g7]
               all_goals (repeat' (first | with_reducible rfl | with_reducible apply And.intro | ((with_reducible show drawOK _ _ = true); rfl))) <;> (try first | omega | (simp only [InR]; omega) | with_reducible assumption)
               refine nxt hh trivial ?_
               simp [AV.bare, bel_ints, cs_arr, dep_arr, cs_int, cs_bool, cs_list, cs_rg, cs_mk, AtHead, Same, AllO, Begins, LtAll, headSt, tokz_nil, tokz_cons, tokz1, lk, dep_int, dep_bool, dep_list, dep_rg, dep_mk, memAt, bel_map, bel_mapF, bel_mapO, bel_undef, bel_int, bel_boolv, bel_nilp, bel_nilf, bel_ptr, bel_arr, bel_mp, bel_yld, bel_agg, bel_tup, bel_ref, bel_only, bel_mpr, bel_fn, bel_sl_nil, bel_sl_nilF, bel_sl_nilO, bel_sl_cons, bel_sl_app, belO_cells, belO_tok, belO_dead, belO_deferred, belO_map, belO_iter, belO_loop, bel_vec, bel_vp, belO_vecM, belO_vec, -List.map_map])
        · intro _
          have hh' : decide (((x.last + 1).toNat : Int) ≤ x.last) = false := by simp; omega
          simp (maxSteps := 4000000) only [go_sem, AV.one, drawV, intsOf, keyIdx, over, putO, memAt, List.map_cons, List.length_cons, ↓reduceIte, snap_trues, imm_trues, enc_pair, enc_iterv, zdrop, one_i, one_b, one_sl, one_ptr, one_ref, one_nilp, one_mp, one_fn, one_nilf, dep_uk, hh']
          all_goals (repeat' (first | with_reducible rfl | with_reducible apply And.intro | ((with_reducible show drawOK _ _ = true); rfl))) <;> (try first | omega | (simp only [InR]; omega) | with_reducible assumption)
          refine nxt hk trivial ?_
          simp [AV.bare, bel_ints, cs_arr, dep_arr, cs_int, cs_bool, cs_list, cs_rg, cs_mk, AtHead, Same, AllO, Begins, LtAll, headSt, tokz_nil, tokz_cons, tokz1, lk, dep_int, dep_bool, dep_list, dep_rg, dep_mk, memAt, bel_map, bel_mapF, bel_mapO, bel_undef, bel_int, bel_boolv, bel_nilp, bel_nilf, bel_ptr, bel_arr, bel_mp, bel_yld, bel_agg, bel_tup, bel_ref, bel_only, bel_mpr, bel_fn, bel_sl_nil, bel_sl_nilF, bel_sl_nilO, bel_sl_cons, bel_sl_app, belO_cells, belO_tok, belO_dead, belO_deferred, belO_map, belO_iter, belO_loop, bel_vec, bel_vp, belO_vecM, belO_vec, -List.map_map]
      · rename_i w0 wr
        have hin : inB w0 r.lo r.hi = true := (inB_iff _ _ _).2 hRs
        have hpos : decide ((0 : Int) < ((wr.length + 1 : Nat) : Int)) = true := by rw [decide_eq_true_eq]; omega
        simp (maxSteps := 4000000) only [go_sem, AV.one, drawV, intsOf, keyIdx, over, putO, memAt, List.map_cons, List.length_cons, ↓reduceIte, snap_trues, imm_trues, enc_pair, enc_iterv, zdrop, one_i, one_b, one_sl, one_ptr, one_ref, one_nilp, one_mp, one_fn, one_nilf, dep_uk, hk', hg3, e6, hin, hpos]
        all_goals (repeat' (first | with_reducible rfl | with_reducible apply And.intro | ((with_reducible show drawOK _ _ = true); rfl))) <;> (try first | omega | (simp only [InR]; omega) | with_reducible assumption)
        refine loopN ((x.last + 1).toNat) [] [6, 7, 8, 9, 18, 19, 20, 21, 122, 123, 124, 128, 129, 130, 131, 132, 133, 134, 135, 136, 137, 138, 139, 140, 141, 142, 144, 145, 146, 147, 148, 149, 150, 151, 152, 153, 154, 155, 156] (fun h => [(22, .int .i64 h)]) (fun _ m => m) (fun _ => True) ?_ ?_ ?_ ?_
        · trivial
        · simp [AV.bare, bel_ints, cs_arr, dep_arr, cs_int, cs_bool, cs_list, cs_rg, cs_mk, AtHead, Same, AllO, Begins, LtAll, headSt, tokz_nil, tokz_cons, tokz1, lk, dep_int, dep_bool, dep_list, dep_rg, dep_mk, memAt, bel_map, bel_mapF, bel_mapO, bel_undef, bel_int, bel_boolv, bel_nilp, bel_nilf, bel_ptr, bel_arr, bel_mp, bel_yld, bel_agg, bel_tup, bel_ref, bel_only, bel_mpr, bel_fn, bel_sl_nil, bel_sl_nilF, bel_sl_nilO, bel_sl_cons, bel_sl_app, belO_cells, belO_tok, belO_dead, belO_deferred, belO_map, belO_iter, belO_loop, bel_vec, bel_vp, belO_vecM, belO_vec, -List.map_map]
        · intro h hh _
          have hh' : decide ((h : Int) ≤ x.last) = true := by simp; omega
          obtain ⟨v, g1, g2, g3, g4⟩ := e7 h (by omega)
          have hg5 : (s.map EncE.cs).getD h [] = [AV.int .i64 (at_ s h)] := by rw [getD_mapA (by omega)]; rfl
          cases g5 : decide (lv < at_ s h) <;> cases g6 : decide (v = 1) <;> cases g7 : decide (v = 2)
          all_goals
            first
            | (exfalso; simp at g5 g6 g7; omega)
            | (simp (maxSteps := 4000000) only [go_sem, AV.one, drawV, intsOf, keyIdx, over, putO, memAt, List.map_cons, List.length_cons, ↓reduceIte, snap_trues, imm_trues, enc_pair, enc_iterv, zdrop, one_i, one_b, one_sl, one_ptr, one_ref, one_nilp, one_mp, one_fn, one_nilf, dep_uk, hh', hg4, hg5, g1, g2, g5, g6, g7]
               all_goals (repeat' (first | with_reducible rfl | with_reducible apply And.intro | ((with_reducible show drawOK _ _ = true); rfl))) <;> (try first | omega | (simp only [InR]; omega) | with_reducible assumption)
               refine nxt hh trivial ?_
               simp [AV.bare, bel_ints, cs_arr, dep_arr, cs_int, cs_bool, cs_list, cs_rg, cs_mk, AtHead, Same, AllO, Begins, LtAll, headSt, tokz_nil, tokz_cons, tokz1, lk, dep_int, dep_bool, dep_list, dep_rg, dep_mk, memAt, bel_map, bel_mapF, bel_mapO, bel_undef, bel_int, bel_boolv, bel_nilp, bel_nilf, bel_ptr, bel_arr, bel_mp, bel_yld, bel_agg, bel_tup, bel_ref, bel_only, bel_mpr, bel_fn, bel_sl_nil, bel_sl_nilF, bel_sl_nilO, bel_sl_cons, bel_sl_app, belO_cells, belO_tok, belO_dead, belO_deferred, belO_map, belO_iter, belO_loop, bel_vec, bel_vp, belO_vecM, belO_vec, -List.map_map])
        · intro _
          have hh' : decide (((x.last + 1).toNat : Int) ≤ x.last) = false := by simp; omega
          simp (maxSteps := 4000000) only [go_sem, AV.one, drawV, intsOf, keyIdx, over, putO, memAt, List.map_cons, List.length_cons, ↓reduceIte, snap_trues, imm_trues, enc_pair, enc_iterv, zdrop, one_i, one_b, one_sl, one_ptr, one_ref, one_nilp, one_mp, one_fn, one_nilf, dep_uk, hh']
          all_goals (repeat' (first | with_reducible rfl | with_reducible apply And.intro | ((with_reducible show drawOK _ _ = true); rfl))) <;> (try first | omega | (simp only [InR]; omega) | with_reducible assumption)
          refine nxt hk trivial ?_
          simp [AV.bare, bel_ints, cs_arr, dep_arr, cs_int, cs_bool, cs_list, cs_rg, cs_mk, AtHead, Same, AllO, Begins, LtAll, headSt, tokz_nil, tokz_cons, tokz1, lk, dep_int, dep_bool, dep_list, dep_rg, dep_mk, memAt, bel_map, bel_mapF, bel_mapO, bel_undef, bel_int, bel_boolv, bel_nilp, bel_nilf, bel_ptr, bel_arr, bel_mp, bel_yld, bel_agg, bel_tup, bel_ref, bel_only, bel_mpr, bel_fn, bel_sl_nil, bel_sl_nilF, bel_sl_nilO, bel_sl_cons, bel_sl_app, belO_cells, belO_tok, belO_dead, belO_deferred, belO_map, belO_iter, belO_loop, bel_vec, bel_vp, belO_vecM, belO_vec, -List.map_map]
    · intro _
      simp (maxSteps := 4000000) only [go_sem, AV.one, drawV, intsOf, keyIdx, over, putO, memAt, List.map_cons, List.length_cons, ↓reduceIte, snap_trues, imm_trues, enc_pair, enc_iterv, zdrop, one_i, one_b, one_sl, one_ptr, one_ref, one_nilp, one_mp, one_fn, one_nilf, dep_uk, Int.lt_irrefl]
      all_goals (repeat' (first | with_reducible rfl | with_reducible apply And.intro | ((with_reducible show drawOK _ _ = true); rfl))) <;> (try first | omega | (simp only [InR]; omega) | with_reducible assumption)
end Go.Proofs
