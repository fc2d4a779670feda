/- The law TideEnds. -/
import Derived.Test.YtadjbgghbjacbaaCS26
set_option linter.all false
namespace Go.Proofs
open Go.Fs
set_option linter.unusedSimpArgs false
set_option linter.unusedVariables false
set_option maxHeartbeats 4000000
set_option maxRecDepth 8000

/-- Four marks as a number. -/
def enc4 (a b c d : Bool) : Nat := (if a then 1 else 0) + (if b then 2 else 0) + (if c then 4 else 0) + (if d then 8 else 0)
def met4 (A B : Nat → Bool) (m : Nat) : Nat := enc4 (A 0 || (decide (0 < m) && B 0)) (A 1 || (decide (1 < m) && B 1)) (A 2 || (decide (2 < m) && B 2)) (A 3 || (decide (3 < m) && B 3))
theorem enc4_bd : ∀ a b c d, enc4 a b c d ≤ 15 := by decide
theorem met4_bd (A B : Nat → Bool) (m : Nat) : met4 A B m ≤ 15 := enc4_bd _ _ _ _
theorem met4_true (A B : Nat → Bool) (m : Nat) (hm : m < 4) (h : B m = true) : met4 A B (m + 1) = met4 A B m ||| 2 ^ m := by
  unfold met4
  generalize A 0 = a0
  generalize A 1 = a1
  generalize A 2 = a2
  generalize A 3 = a3
  match m, hm, h with
  | 0, _, h => rw [h]; revert a0 a1 a2 a3; simp; decide
  | 1, _, h => rw [h]; generalize B 0 = b0; revert a0 a1 a2 a3 b0; simp; decide
  | 2, _, h => rw [h]; generalize B 0 = b0; generalize B 1 = b1; revert a0 a1 a2 a3 b0 b1; simp; decide
  | 3, _, h => rw [h]; generalize B 0 = b0; generalize B 1 = b1; generalize B 2 = b2; revert a0 a1 a2 a3 b0 b1 b2; simp; decide
theorem met4_false (A B : Nat → Bool) (m : Nat) (hm : m < 4) (h : B m = false) : met4 A B (m + 1) = met4 A B m := by
  unfold met4
  match m, hm, h with
  | 0, _, h => simp [h]
  | 1, _, h => simp [h]
  | 2, _, h => simp [h]
  | 3, _, h => simp [h]
/-- Which ends are met in the first i lists. -/
def endsA (L : List (List Int)) (E : Nat → List Int → Bool) (i m : Nat) : Bool := (L.take i).any (E m)
theorem endsA_succ {L : List (List Int)} {E : Nat → List Int → Bool} {i : Nat} (hi : i < L.length) (k : Nat) : met4 (endsA L E (i + 1)) (fun _ => false) k = met4 (endsA L E i) (fun m => E m (at_ L i)) 4 := by
  unfold met4 endsA
  rw [any_take hi, any_take hi, any_take hi, any_take hi]
  simp
def endB (r s : Rg) (h : Nat) (lv : Int) (m : Nat) (p : List Int) : Bool :=
  match m with
  | 0 => decide (at_ p h = r.lo)
  | 1 => decide (at_ p h = r.hi)
  | 2 => decide (soonestL p lv = s.lo)
  | _ => decide (soonestL p lv = s.hi)
theorem TideEnds_true (t : Tb) (hour row : Int) (hu : InR .u8 hour) (hr : InR .u8 row) : CallP Try.prog 6 [Enc.enc t, AV.int .u8 hour, AV.int .u8 row] (· = Enc.enc true) := by
  cases c0 : (thinB t && decide (faultT t = 0))
  · simp only [enc_fnl, enc_fnb, enc_fnc, enc_refc, enc_arr, enc_int, enc_bool, enc_list, enc_rg, enc_mk, enc_tb]
    refine callP_of_vc (Φ := P51) Try.func6 rfl (by rfl) (by rw [Try.ntmps6]; simp) mixed P51_ok (by simp [AV.strip, Tk.strip]) ?_
    rw [Try.ntmps6]
    simp only [Try.f6, startSt, tmFrom]
    simp (maxSteps := 4000000) only [go_sem, AV.one, drawV, intsOf, keyIdx, over, putO, memAt, List.map_cons, List.length_cons, ↓reduceIte, snap_trues, imm_trues, enc_pair, enc_iterv, zdrop, one_i, one_b, one_sl, one_ptr, one_ref, one_nilp, one_mp, one_fn, one_nilf, c0]
    all_goals (repeat' (first | with_reducible rfl | with_reducible apply And.intro | ((with_reducible show drawOK _ = true); rfl))) <;> (try first | omega | (simp only [InR]; omega) | with_reducible assumption)
  have c12 : thinB t = true ∧ faultT t = 0 := by simpa using c0
  obtain ⟨c1, c2⟩ := c12
  have hl := thin_len c1
  have hf := fok_of c2
  by_cases z : t.levels.length = 0
  · have z' : decide ((t.levels.length : Int) = 0) = true := by simp [z]
    simp only [enc_fnl, enc_fnb, enc_fnc, enc_refc, enc_arr, enc_int, enc_bool, enc_list, enc_rg, enc_mk, enc_tb]
    refine callP_of_vc (Φ := P51) Try.func6 rfl (by rfl) (by rw [Try.ntmps6]; simp) mixed P51_ok (by simp [AV.strip, Tk.strip]) ?_
    rw [Try.ntmps6]
    simp only [Try.f6, startSt, tmFrom]
    simp (maxSteps := 4000000) only [go_sem, AV.one, drawV, intsOf, keyIdx, over, putO, memAt, List.map_cons, List.length_cons, ↓reduceIte, snap_trues, imm_trues, enc_pair, enc_iterv, zdrop, one_i, one_b, one_sl, one_ptr, one_ref, one_nilp, one_mp, one_fn, one_nilf, c0, z']
    all_goals (repeat' (first | with_reducible rfl | with_reducible apply And.intro | ((with_reducible show drawOK _ = true); rfl))) <;> (try first | omega | (simp only [InR]; omega) | with_reducible assumption)
  have z' : decide ((t.levels.length : Int) = 0) = false := by rw [decide_eq_false_iff_not]; omega
  have hl0 := hf.l0
  have hl9 := hf.l9
  have hlen := hf.len
  have hu0 : 0 ≤ hour := hu.1
  have hr0 : 0 ≤ row := hr.1
  have hu1 : hour ≤ 255 := hu.2
  have hr1 : row ≤ 255 := hr.2
  obtain ⟨hn, ehn⟩ := Int.eq_ofNat_of_zero_le (Int.emod_nonneg hour (show t.last + 1 ≠ 0 by omega))
  have hhn := Int.emod_lt_of_pos hour (show (0 : Int) < t.last + 1 by omega)
  obtain ⟨kn, ekn⟩ := Int.eq_ofNat_of_zero_le (Int.emod_nonneg row (show (t.levels.length : Int) ≠ 0 by omega))
  have hkn := Int.emod_lt_of_pos row (show (0 : Int) < t.levels.length by omega)
  rw [ehn] at hhn
  rw [ekn] at hkn
  have hv := hf.vok
  have hok := hv.hok
  have hmk := hv.mok
  obtain ⟨h4, h5⟩ := truths_facts c2
  by_cases c4 : truthsL t = []
  · have e0 := bnd_dry c2 c4
    have e1 := rch_dry (row := (kn : Int)) c2 c4 (by omega) hkn
    simp only [enc_fnl, enc_fnb, enc_fnc, enc_refc, enc_arr, enc_int, enc_bool, enc_list, enc_rg, enc_mk, enc_tb]
    refine callP_of_vc (Φ := P51) Try.func6 rfl (by rfl) (by rw [Try.ntmps6]; simp) mixed P51_ok (by simp [AV.strip, Tk.strip]) ?_
    rw [Try.ntmps6]
    simp only [Try.f6, startSt, tmFrom]
    simp (maxSteps := 4000000) only [go_sem, AV.one, drawV, intsOf, keyIdx, over, putO, memAt, List.map_cons, List.length_cons, ↓reduceIte, snap_trues, imm_trues, enc_pair, enc_iterv, zdrop, one_i, one_b, one_sl, one_ptr, one_ref, one_nilp, one_mp, one_fn, one_nilf, c0, z', ehn, ekn, e0, e1, c4]
    all_goals (repeat' (first | with_reducible rfl | with_reducible apply And.intro | ((with_reducible show drawOK _ = true); rfl))) <;> (try first | omega | (simp only [InR]; omega) | with_reducible assumption)
  have e0 := bnd_ok c2 c4
  have e1 := rch_ok (row := (kn : Int)) c2 c4 (by omega) hkn
  rw [Int.toNat_natCast] at e1
  have hB := boundsL_isB hv c4 (hour := (hn : Int)) (by omega) (by omega)
  have hR := reachL_isB hv c4 (at_ t.levels kn)
  have hgb := bnd_getD2 (truthsL t) (n := (t.last + 1).toNat) (i := hn) (by omega)
  rw [Int.toNat_natCast] at hB
  generalize boundsL (truthsL t) (hn : Int) = r at hB hgb
  generalize reachL (truthsL t) (at_ t.levels kn) = s at hR e1
  generalize hBL : ((List.range (t.last + 1).toNat).map fun i : Nat => boundsL (truthsL t) i) = BL at e0 hgb
  have hBl : (BL.length : Int) = t.last + 1 := by rw [← hBL]; simp; omega
  have hBl' : decide ((BL.length : Int) = t.last + 1) = true := by simp [hBl]
  have hne : decide (((truthsL t).length : Int) = 0) = false := by
    cases e : truthsL t with
    | nil => exact absurd e c4
    | cons _ _ => simp; omega
  have hgl : (t.levels.map EncE.cs).getD kn [] = [AV.int .i64 (at_ t.levels kn)] := by rw [getD_mapA (by omega)]; rfl
  have hfin : met4 (endsA (truthsL t) (endB r s hn (at_ t.levels kn)) (truthsL t).length) (fun _ => false) 0 = 15 := by
    have a0 : endsA (truthsL t) (endB r s hn (at_ t.levels kn)) (truthsL t).length 0 = true := by
      obtain ⟨p, hp, e⟩ := hB.lo
      unfold endsA; rw [List.take_length, List.any_eq_true]; exact ⟨p, hp, by simp [endB, e]⟩
    have a1 : endsA (truthsL t) (endB r s hn (at_ t.levels kn)) (truthsL t).length 1 = true := by
      obtain ⟨p, hp, e⟩ := hB.hi
      unfold endsA; rw [List.take_length, List.any_eq_true]; exact ⟨p, hp, by simp [endB, e]⟩
    have a2 : endsA (truthsL t) (endB r s hn (at_ t.levels kn)) (truthsL t).length 2 = true := by
      obtain ⟨p, hp, e⟩ := hR.lo
      unfold endsA; rw [List.take_length, List.any_eq_true]; exact ⟨p, hp, by simp [endB, e]⟩
    have a3 : endsA (truthsL t) (endB r s hn (at_ t.levels kn)) (truthsL t).length 3 = true := by
      obtain ⟨p, hp, e⟩ := hR.hi
      unfold endsA; rw [List.take_length, List.any_eq_true]; exact ⟨p, hp, by simp [endB, e]⟩
    unfold met4
    rw [a0, a1, a2, a3]
    rfl
  generalize hL : truthsL t = L at h4 h5 hne hfin
  simp only [enc_fnl, enc_fnb, enc_fnc, enc_refc, enc_arr, enc_int, enc_bool, enc_list, enc_rg, enc_mk, enc_tb]
  refine callP_of_vc (Φ := P51) Try.func6 rfl (by rfl) (by rw [Try.ntmps6]; simp) mixed P51_ok (by simp [AV.strip, Tk.strip]) ?_
  rw [Try.ntmps6]
  simp only [Try.f6, startSt, tmFrom]
  simp (maxSteps := 4000000) only [go_sem, AV.one, drawV, intsOf, keyIdx, over, putO, memAt, List.map_cons, List.length_cons, ↓reduceIte, snap_trues, imm_trues, enc_pair, enc_iterv, zdrop, one_i, one_b, one_sl, one_ptr, one_ref, one_nilp, one_mp, one_fn, one_nilf, c0, z', ehn, ekn, e0, e1, hL, hne, hBl']
  all_goals (repeat' (first | with_reducible rfl | with_reducible apply And.intro | ((with_reducible show drawOK _ = true); rfl))) <;> (try first | omega | (simp only [InR]; omega) | with_reducible assumption)
  refine loopN (L.length) [] [3, 6, 7, 8, 9, 11, 13] (fun i => [(15, .int .i64 i), (14, .int .i64 ((met4 (endsA L (endB r s hn (at_ t.levels kn)) i) (fun _ => false) 0 : Nat) : Int))]) (fun _ m => m) (fun _ => True) ?_ ?_ ?_ ?_
  · trivial
  · simp [bel_ints, cs_arr, dep_arr, cs_int, cs_bool, cs_list, cs_rg, cs_mk, AtHead, Same, AllO, Begins, LtAll, headSt, tokz_nil, tokz_cons, tokz1, lk, dep_int, dep_bool, dep_list, dep_rg, dep_mk, memAt, bel_map, bel_mapF, bel_mapO, bel_undef, bel_int, bel_boolv, bel_nilp, bel_nilf, bel_ptr, bel_arr, bel_mp, bel_yld, bel_agg, bel_tup, bel_ref, bel_only, bel_mpr, bel_fn, bel_sl_nil, bel_sl_nilF, bel_sl_nilO, bel_sl_cons, bel_sl_app, belO_cells, belO_tok, belO_dead, belO_deferred, belO_map, belO_iter, belO_loop, met4, endsA, enc4]
  · intro i hi _
    have hi' := Int.ofNat_lt.2 hi
    have hg := getD_mapA (f := EncE.cs) hi
    have hlp := h5 _ (at_mem hi)
    have hg2 : ((at_ L i).map EncE.cs).getD hn [] = [AV.int .i64 (at_ (at_ L i) hn)] := by rw [getD_mapA (by omega)]; rfl
    simp (maxSteps := 4000000) only [go_sem, AV.one, drawV, intsOf, keyIdx, over, putO, memAt, List.map_cons, List.length_cons, ↓reduceIte, snap_trues, imm_trues, enc_pair, enc_iterv, zdrop, one_i, one_b, one_sl, one_ptr, one_ref, one_nilp, one_mp, one_fn, one_nilf, hi', hg, hg2, hgb, hgl]
    all_goals (repeat' (first | with_reducible rfl | with_reducible apply And.intro | ((with_reducible show drawOK _ = true); rfl))) <;> (try first | omega | (simp only [InR]; omega) | with_reducible assumption)
    refine loopN (4) [] [3, 6, 7, 8, 9, 11, 13, 15, 16, 17, 83, 84, 85, 89, 90, 91, 92, 93, 94, 95, 96, 97, 98, 99, 100, 101, 102, 103, 104, 105, 106, 107, 108, 109, 110, 111, 112, 113, 114, 115, 116, 117, 118, 119, 120, 121, 122, 123, 124, 125, 126, 127, 128, 129, 130, 131, 132, 133] (fun m => [(18, .int .i64 m), (14, .int .i64 ((met4 (endsA L (endB r s hn (at_ t.levels kn)) i) (fun m => endB r s hn (at_ t.levels kn) m (at_ L i)) m : Nat) : Int))]) (fun _ m => m) (fun _ => True) ?_ ?_ ?_ ?_
    · trivial
    · simp [bel_ints, cs_arr, dep_arr, cs_int, cs_bool, cs_list, cs_rg, cs_mk, AtHead, Same, AllO, Begins, LtAll, headSt, tokz_nil, tokz_cons, tokz1, lk, dep_int, dep_bool, dep_list, dep_rg, dep_mk, memAt, bel_map, bel_mapF, bel_mapO, bel_undef, bel_int, bel_boolv, bel_nilp, bel_nilf, bel_ptr, bel_arr, bel_mp, bel_yld, bel_agg, bel_tup, bel_ref, bel_only, bel_mpr, bel_fn, bel_sl_nil, bel_sl_nilF, bel_sl_nilO, bel_sl_cons, bel_sl_app, belO_cells, belO_tok, belO_dead, belO_deferred, belO_map, belO_iter, belO_loop, met4]
    · intro m hm _
      have hbd := met4_bd (endsA L (endB r s hn (at_ t.levels kn)) i) (fun m => endB r s hn (at_ t.levels kn) m (at_ L i)) m
      have hT := met4_true (endsA L (endB r s hn (at_ t.levels kn)) i) (fun m => endB r s hn (at_ t.levels kn) m (at_ L i)) m hm
      have hF := met4_false (endsA L (endB r s hn (at_ t.levels kn)) i) (fun m => endB r s hn (at_ t.levels kn) m (at_ L i)) m hm
      generalize met4 (endsA L (endB r s hn (at_ t.levels kn)) i) (fun m => endB r s hn (at_ t.levels kn) m (at_ L i)) m = M at hbd hT hF
      rcases (by omega : m = 0 ∨ m = 1 ∨ m = 2 ∨ m = 3) with rfl | rfl | rfl | rfl
      · cases c : decide (at_ (at_ L i) hn = r.lo)
        · have e := hF (by simpa [endB] using c)
          simp (maxSteps := 4000000) only [go_sem, AV.one, drawV, intsOf, keyIdx, over, putO, memAt, List.map_cons, List.length_cons, ↓reduceIte, snap_trues, imm_trues, enc_pair, enc_iterv, zdrop, one_i, one_b, one_sl, one_ptr, one_ref, one_nilp, one_mp, one_fn, one_nilf, c, bits64, Int.one_mul, Int.cast_ofNat_Int, show (2 : Int).toNat = 2 from rfl, show (3 : Int).toNat = 3 from rfl, show (1 : Int).toNat = 1 from rfl, show (0 : Int).toNat = 0 from rfl]
          all_goals (repeat' (first | with_reducible rfl | with_reducible apply And.intro | ((with_reducible show drawOK _ = true); rfl))) <;> (try first | omega | (simp only [InR]; omega) | with_reducible assumption)
          refine nxt hm trivial ?_
          simp [bel_ints, cs_arr, dep_arr, cs_int, cs_bool, cs_list, cs_rg, cs_mk, AtHead, Same, AllO, Begins, LtAll, headSt, tokz_nil, tokz_cons, tokz1, lk, dep_int, dep_bool, dep_list, dep_rg, dep_mk, memAt, bel_map, bel_mapF, bel_mapO, bel_undef, bel_int, bel_boolv, bel_nilp, bel_nilf, bel_ptr, bel_arr, bel_mp, bel_yld, bel_agg, bel_tup, bel_ref, bel_only, bel_mpr, bel_fn, bel_sl_nil, bel_sl_nilF, bel_sl_nilO, bel_sl_cons, bel_sl_app, belO_cells, belO_tok, belO_dead, belO_deferred, belO_map, belO_iter, belO_loop, e]
        · have e := hT (by simpa [endB] using c)
          simp (maxSteps := 4000000) only [go_sem, AV.one, drawV, intsOf, keyIdx, over, putO, memAt, List.map_cons, List.length_cons, ↓reduceIte, snap_trues, imm_trues, enc_pair, enc_iterv, zdrop, one_i, one_b, one_sl, one_ptr, one_ref, one_nilp, one_mp, one_fn, one_nilf, c, bits64, Int.one_mul, Int.cast_ofNat_Int, show (2 : Int).toNat = 2 from rfl, show (3 : Int).toNat = 3 from rfl, show (1 : Int).toNat = 1 from rfl, show (0 : Int).toNat = 0 from rfl]
          all_goals (repeat' (first | with_reducible rfl | with_reducible apply And.intro | ((with_reducible show drawOK _ = true); rfl))) <;> (try first | omega | (simp only [InR]; omega) | with_reducible assumption)
          refine nxt hm trivial ?_
          simp [bel_ints, cs_arr, dep_arr, cs_int, cs_bool, cs_list, cs_rg, cs_mk, AtHead, Same, AllO, Begins, LtAll, headSt, tokz_nil, tokz_cons, tokz1, lk, dep_int, dep_bool, dep_list, dep_rg, dep_mk, memAt, bel_map, bel_mapF, bel_mapO, bel_undef, bel_int, bel_boolv, bel_nilp, bel_nilf, bel_ptr, bel_arr, bel_mp, bel_yld, bel_agg, bel_tup, bel_ref, bel_only, bel_mpr, bel_fn, bel_sl_nil, bel_sl_nilF, bel_sl_nilO, bel_sl_cons, bel_sl_app, belO_cells, belO_tok, belO_dead, belO_deferred, belO_map, belO_iter, belO_loop, e]
      · cases c : decide (at_ (at_ L i) hn = r.hi)
        · have e := hF (by simpa [endB] using c)
          simp (maxSteps := 4000000) only [go_sem, AV.one, drawV, intsOf, keyIdx, over, putO, memAt, List.map_cons, List.length_cons, ↓reduceIte, snap_trues, imm_trues, enc_pair, enc_iterv, zdrop, one_i, one_b, one_sl, one_ptr, one_ref, one_nilp, one_mp, one_fn, one_nilf, c, bits64, Int.one_mul, Int.cast_ofNat_Int, show (2 : Int).toNat = 2 from rfl, show (3 : Int).toNat = 3 from rfl, show (1 : Int).toNat = 1 from rfl, show (0 : Int).toNat = 0 from rfl]
          all_goals (repeat' (first | with_reducible rfl | with_reducible apply And.intro | ((with_reducible show drawOK _ = true); rfl))) <;> (try first | omega | (simp only [InR]; omega) | with_reducible assumption)
          refine nxt hm trivial ?_
          simp [bel_ints, cs_arr, dep_arr, cs_int, cs_bool, cs_list, cs_rg, cs_mk, AtHead, Same, AllO, Begins, LtAll, headSt, tokz_nil, tokz_cons, tokz1, lk, dep_int, dep_bool, dep_list, dep_rg, dep_mk, memAt, bel_map, bel_mapF, bel_mapO, bel_undef, bel_int, bel_boolv, bel_nilp, bel_nilf, bel_ptr, bel_arr, bel_mp, bel_yld, bel_agg, bel_tup, bel_ref, bel_only, bel_mpr, bel_fn, bel_sl_nil, bel_sl_nilF, bel_sl_nilO, bel_sl_cons, bel_sl_app, belO_cells, belO_tok, belO_dead, belO_deferred, belO_map, belO_iter, belO_loop, e]
        · have e := hT (by simpa [endB] using c)
          simp (maxSteps := 4000000) only [go_sem, AV.one, drawV, intsOf, keyIdx, over, putO, memAt, List.map_cons, List.length_cons, ↓reduceIte, snap_trues, imm_trues, enc_pair, enc_iterv, zdrop, one_i, one_b, one_sl, one_ptr, one_ref, one_nilp, one_mp, one_fn, one_nilf, c, bits64, Int.one_mul, Int.cast_ofNat_Int, show (2 : Int).toNat = 2 from rfl, show (3 : Int).toNat = 3 from rfl, show (1 : Int).toNat = 1 from rfl, show (0 : Int).toNat = 0 from rfl]
          all_goals (repeat' (first | with_reducible rfl | with_reducible apply And.intro | ((with_reducible show drawOK _ = true); rfl))) <;> (try first | omega | (simp only [InR]; omega) | with_reducible assumption)
          refine nxt hm trivial ?_
          simp [bel_ints, cs_arr, dep_arr, cs_int, cs_bool, cs_list, cs_rg, cs_mk, AtHead, Same, AllO, Begins, LtAll, headSt, tokz_nil, tokz_cons, tokz1, lk, dep_int, dep_bool, dep_list, dep_rg, dep_mk, memAt, bel_map, bel_mapF, bel_mapO, bel_undef, bel_int, bel_boolv, bel_nilp, bel_nilf, bel_ptr, bel_arr, bel_mp, bel_yld, bel_agg, bel_tup, bel_ref, bel_only, bel_mpr, bel_fn, bel_sl_nil, bel_sl_nilF, bel_sl_nilO, bel_sl_cons, bel_sl_app, belO_cells, belO_tok, belO_dead, belO_deferred, belO_map, belO_iter, belO_loop, e]
      · cases c : decide (soonestL (at_ L i) (at_ t.levels kn) = s.lo)
        · have e := hF (by simpa [endB] using c)
          simp (maxSteps := 4000000) only [go_sem, AV.one, drawV, intsOf, keyIdx, over, putO, memAt, List.map_cons, List.length_cons, ↓reduceIte, snap_trues, imm_trues, enc_pair, enc_iterv, zdrop, one_i, one_b, one_sl, one_ptr, one_ref, one_nilp, one_mp, one_fn, one_nilf, c, bits64, Int.one_mul, Int.cast_ofNat_Int, show (2 : Int).toNat = 2 from rfl, show (3 : Int).toNat = 3 from rfl, show (1 : Int).toNat = 1 from rfl, show (0 : Int).toNat = 0 from rfl]
          all_goals (repeat' (first | with_reducible rfl | with_reducible apply And.intro | ((with_reducible show drawOK _ = true); rfl))) <;> (try first | omega | (simp only [InR]; omega) | with_reducible assumption)
          refine nxt hm trivial ?_
          simp [bel_ints, cs_arr, dep_arr, cs_int, cs_bool, cs_list, cs_rg, cs_mk, AtHead, Same, AllO, Begins, LtAll, headSt, tokz_nil, tokz_cons, tokz1, lk, dep_int, dep_bool, dep_list, dep_rg, dep_mk, memAt, bel_map, bel_mapF, bel_mapO, bel_undef, bel_int, bel_boolv, bel_nilp, bel_nilf, bel_ptr, bel_arr, bel_mp, bel_yld, bel_agg, bel_tup, bel_ref, bel_only, bel_mpr, bel_fn, bel_sl_nil, bel_sl_nilF, bel_sl_nilO, bel_sl_cons, bel_sl_app, belO_cells, belO_tok, belO_dead, belO_deferred, belO_map, belO_iter, belO_loop, e]
        · have e := hT (by simpa [endB] using c)
          simp (maxSteps := 4000000) only [go_sem, AV.one, drawV, intsOf, keyIdx, over, putO, memAt, List.map_cons, List.length_cons, ↓reduceIte, snap_trues, imm_trues, enc_pair, enc_iterv, zdrop, one_i, one_b, one_sl, one_ptr, one_ref, one_nilp, one_mp, one_fn, one_nilf, c, bits64, Int.one_mul, Int.cast_ofNat_Int, show (2 : Int).toNat = 2 from rfl, show (3 : Int).toNat = 3 from rfl, show (1 : Int).toNat = 1 from rfl, show (0 : Int).toNat = 0 from rfl]
          all_goals (repeat' (first | with_reducible rfl | with_reducible apply And.intro | ((with_reducible show drawOK _ = true); rfl))) <;> (try first | omega | (simp only [InR]; omega) | with_reducible assumption)
          refine nxt hm trivial ?_
          simp [bel_ints, cs_arr, dep_arr, cs_int, cs_bool, cs_list, cs_rg, cs_mk, AtHead, Same, AllO, Begins, LtAll, headSt, tokz_nil, tokz_cons, tokz1, lk, dep_int, dep_bool, dep_list, dep_rg, dep_mk, memAt, bel_map, bel_mapF, bel_mapO, bel_undef, bel_int, bel_boolv, bel_nilp, bel_nilf, bel_ptr, bel_arr, bel_mp, bel_yld, bel_agg, bel_tup, bel_ref, bel_only, bel_mpr, bel_fn, bel_sl_nil, bel_sl_nilF, bel_sl_nilO, bel_sl_cons, bel_sl_app, belO_cells, belO_tok, belO_dead, belO_deferred, belO_map, belO_iter, belO_loop, e]
      · cases c : decide (soonestL (at_ L i) (at_ t.levels kn) = s.hi)
        · have e := hF (by simpa [endB] using c)
          simp (maxSteps := 4000000) only [go_sem, AV.one, drawV, intsOf, keyIdx, over, putO, memAt, List.map_cons, List.length_cons, ↓reduceIte, snap_trues, imm_trues, enc_pair, enc_iterv, zdrop, one_i, one_b, one_sl, one_ptr, one_ref, one_nilp, one_mp, one_fn, one_nilf, c, bits64, Int.one_mul, Int.cast_ofNat_Int, show (2 : Int).toNat = 2 from rfl, show (3 : Int).toNat = 3 from rfl, show (1 : Int).toNat = 1 from rfl, show (0 : Int).toNat = 0 from rfl]
          all_goals (repeat' (first | with_reducible rfl | with_reducible apply And.intro | ((with_reducible show drawOK _ = true); rfl))) <;> (try first | omega | (simp only [InR]; omega) | with_reducible assumption)
          refine nxt hm trivial ?_
          simp [bel_ints, cs_arr, dep_arr, cs_int, cs_bool, cs_list, cs_rg, cs_mk, AtHead, Same, AllO, Begins, LtAll, headSt, tokz_nil, tokz_cons, tokz1, lk, dep_int, dep_bool, dep_list, dep_rg, dep_mk, memAt, bel_map, bel_mapF, bel_mapO, bel_undef, bel_int, bel_boolv, bel_nilp, bel_nilf, bel_ptr, bel_arr, bel_mp, bel_yld, bel_agg, bel_tup, bel_ref, bel_only, bel_mpr, bel_fn, bel_sl_nil, bel_sl_nilF, bel_sl_nilO, bel_sl_cons, bel_sl_app, belO_cells, belO_tok, belO_dead, belO_deferred, belO_map, belO_iter, belO_loop, e]
        · have e := hT (by simpa [endB] using c)
          simp (maxSteps := 4000000) only [go_sem, AV.one, drawV, intsOf, keyIdx, over, putO, memAt, List.map_cons, List.length_cons, ↓reduceIte, snap_trues, imm_trues, enc_pair, enc_iterv, zdrop, one_i, one_b, one_sl, one_ptr, one_ref, one_nilp, one_mp, one_fn, one_nilf, c, bits64, Int.one_mul, Int.cast_ofNat_Int, show (2 : Int).toNat = 2 from rfl, show (3 : Int).toNat = 3 from rfl, show (1 : Int).toNat = 1 from rfl, show (0 : Int).toNat = 0 from rfl]
          all_goals (repeat' (first | with_reducible rfl | with_reducible apply And.intro | ((with_reducible show drawOK _ = true); rfl))) <;> (try first | omega | (simp only [InR]; omega) | with_reducible assumption)
          refine nxt hm trivial ?_
          simp [bel_ints, cs_arr, dep_arr, cs_int, cs_bool, cs_list, cs_rg, cs_mk, AtHead, Same, AllO, Begins, LtAll, headSt, tokz_nil, tokz_cons, tokz1, lk, dep_int, dep_bool, dep_list, dep_rg, dep_mk, memAt, bel_map, bel_mapF, bel_mapO, bel_undef, bel_int, bel_boolv, bel_nilp, bel_nilf, bel_ptr, bel_arr, bel_mp, bel_yld, bel_agg, bel_tup, bel_ref, bel_only, bel_mpr, bel_fn, bel_sl_nil, bel_sl_nilF, bel_sl_nilO, bel_sl_cons, bel_sl_app, belO_cells, belO_tok, belO_dead, belO_deferred, belO_map, belO_iter, belO_loop, e]
    · intro _
      simp (maxSteps := 4000000) only [go_sem, AV.one, drawV, intsOf, keyIdx, over, putO, memAt, List.map_cons, List.length_cons, ↓reduceIte, snap_trues, imm_trues, enc_pair, enc_iterv, zdrop, one_i, one_b, one_sl, one_ptr, one_ref, one_nilp, one_mp, one_fn, one_nilf, Int.cast_ofNat_Int, Int.lt_irrefl]
      all_goals (repeat' (first | with_reducible rfl | with_reducible apply And.intro | ((with_reducible show drawOK _ = true); rfl))) <;> (try first | omega | (simp only [InR]; omega) | with_reducible assumption)
      refine nxt hi trivial ?_
      simp [bel_ints, cs_arr, dep_arr, cs_int, cs_bool, cs_list, cs_rg, cs_mk, AtHead, Same, AllO, Begins, LtAll, headSt, tokz_nil, tokz_cons, tokz1, lk, dep_int, dep_bool, dep_list, dep_rg, dep_mk, memAt, bel_map, bel_mapF, bel_mapO, bel_undef, bel_int, bel_boolv, bel_nilp, bel_nilf, bel_ptr, bel_arr, bel_mp, bel_yld, bel_agg, bel_tup, bel_ref, bel_only, bel_mpr, bel_fn, bel_sl_nil, bel_sl_nilF, bel_sl_nilO, bel_sl_cons, bel_sl_app, belO_cells, belO_tok, belO_dead, belO_deferred, belO_map, belO_iter, belO_loop, endsA_succ hi]
  · intro _
    simp (maxSteps := 4000000) only [go_sem, AV.one, drawV, intsOf, keyIdx, over, putO, memAt, List.map_cons, List.length_cons, ↓reduceIte, snap_trues, imm_trues, enc_pair, enc_iterv, zdrop, one_i, one_b, one_sl, one_ptr, one_ref, one_nilp, one_mp, one_fn, one_nilf, hfin, Int.cast_ofNat_Int]
    all_goals (repeat' (first | with_reducible rfl | with_reducible apply And.intro | ((with_reducible show drawOK _ = true); rfl))) <;> (try first | omega | (simp only [InR]; omega) | with_reducible assumption)
end Go.Proofs
