/- The texts S4, S5, S6, S7, S8, S9, S10, joined. -/
import Derived.Test.YtfdnifofpkceiaaG7
set_option linter.all false
namespace Go.Proofs
open Go.Fs
set_option linter.unusedSimpArgs false
set_option linter.unusedVariables false
set_option maxHeartbeats 4000000
set_option maxRecDepth 8000
theorem CheckShelter_call (s : Sh) (h : s.stacks.length ≤ 4096) : CallP Try.prog 24 [Enc.enc s] (· = Enc.enc (faultS s)) := by
  unfold faultS
  cases c0 : decide ((s.stacks.length : Int) > 8)
  · rw [if_neg (by simp at c0; omega)]
    cases c1 : inB s.hands 0 3
    · simp only [enc_fnl, enc_fnb, enc_fnc, enc_refc, enc_arr, enc_int, enc_bool, enc_list, enc_sk, enc_sp, enc_rg, enc_sh, enc_tr, enc_refs, enc_fns, enc_wks]
      refine callP_of_vc (Φ := P18) Try.func24 rfl (by rfl) (by rw [Try.ntmps24]; simp) mixed P18_ok (by simp [AV.strip, AV.strip1, Tk.strip]) ?_
      rw [Try.ntmps24]
      simp only [Try.f24, startSt, tmFrom]
      simp (maxSteps := 4000000) only [go_sem, AV.one, drawV, intsOf, keyIdx, over, putO, memAt, List.map_cons, List.length_cons, ↓reduceIte, zdrop, one_i, one_b, one_sl, one_ptr, one_ref, one_nilp, one_mp, one_fn, one_nilf, c0, c1]
      all_goals (repeat' (first | with_reducible rfl | with_reducible apply And.intro | ((with_reducible show drawOK _ _ = true); rfl))) <;> (try first | omega | (simp only [InR]; omega) | with_reducible assumption)
    cases c2 : hoursB s.rain
    · simp only [enc_fnl, enc_fnb, enc_fnc, enc_refc, enc_arr, enc_int, enc_bool, enc_list, enc_sk, enc_sp, enc_rg, enc_sh, enc_tr, enc_refs, enc_fns, enc_wks]
      refine callP_of_vc (Φ := P18) Try.func24 rfl (by rfl) (by rw [Try.ntmps24]; simp) mixed P18_ok (by simp [AV.strip, AV.strip1, Tk.strip]) ?_
      rw [Try.ntmps24]
      simp only [Try.f24, startSt, tmFrom]
      simp (maxSteps := 4000000) only [go_sem, AV.one, drawV, intsOf, keyIdx, over, putO, memAt, List.map_cons, List.length_cons, ↓reduceIte, zdrop, one_i, one_b, one_sl, one_ptr, one_ref, one_nilp, one_mp, one_fn, one_nilf, c0, c1, c2]
      all_goals (repeat' (first | with_reducible rfl | with_reducible apply And.intro | ((with_reducible show drawOK _ _ = true); rfl))) <;> (try first | omega | (simp only [InR]; omega) | with_reducible assumption)
    cases c3 : s.stacks.all stackB
    · simp only [enc_fnl, enc_fnb, enc_fnc, enc_refc, enc_arr, enc_int, enc_bool, enc_list, enc_sk, enc_sp, enc_rg, enc_sh, enc_tr, enc_refs, enc_fns, enc_wks]
      refine callP_of_vc (Φ := P18) Try.func24 rfl (by rfl) (by rw [Try.ntmps24]; simp) mixed P18_ok (by simp [AV.strip, AV.strip1, Tk.strip]) ?_
      rw [Try.ntmps24]
      simp only [Try.f24, startSt, tmFrom]
      simp (maxSteps := 4000000) only [go_sem, AV.one, drawV, intsOf, keyIdx, over, putO, memAt, List.map_cons, List.length_cons, ↓reduceIte, zdrop, one_i, one_b, one_sl, one_ptr, one_ref, one_nilp, one_mp, one_fn, one_nilf, c0, c1, c2, c3]
      all_goals (repeat' (first | with_reducible rfl | with_reducible apply And.intro | ((with_reducible show drawOK _ _ = true); rfl))) <;> (try first | omega | (simp only [InR]; omega) | with_reducible assumption)
    · simp only [enc_fnl, enc_fnb, enc_fnc, enc_refc, enc_arr, enc_int, enc_bool, enc_list, enc_sk, enc_sp, enc_rg, enc_sh, enc_tr, enc_refs, enc_fns, enc_wks]
      refine callP_of_vc (Φ := P18) Try.func24 rfl (by rfl) (by rw [Try.ntmps24]; simp) mixed P18_ok (by simp [AV.strip, AV.strip1, Tk.strip]) ?_
      rw [Try.ntmps24]
      simp only [Try.f24, startSt, tmFrom]
      simp (maxSteps := 4000000) only [go_sem, AV.one, drawV, intsOf, keyIdx, over, putO, memAt, List.map_cons, List.length_cons, ↓reduceIte, zdrop, one_i, one_b, one_sl, one_ptr, one_ref, one_nilp, one_mp, one_fn, one_nilf, c0, c1, c2, c3]
      all_goals (repeat' (first | with_reducible rfl | with_reducible apply And.intro | ((with_reducible show drawOK _ _ = true); rfl))) <;> (try first | omega | (simp only [InR]; omega) | with_reducible assumption)
  · rw [if_pos (by simp at c0; omega)]
    simp only [enc_fnl, enc_fnb, enc_fnc, enc_refc, enc_arr, enc_int, enc_bool, enc_list, enc_sk, enc_sp, enc_rg, enc_sh, enc_tr, enc_refs, enc_fns, enc_wks]
    refine callP_of_vc (Φ := P18) Try.func24 rfl (by rfl) (by rw [Try.ntmps24]; simp) mixed P18_ok (by simp [AV.strip, AV.strip1, Tk.strip]) ?_
    rw [Try.ntmps24]
    simp only [Try.f24, startSt, tmFrom]
    simp (maxSteps := 4000000) only [go_sem, AV.one, drawV, intsOf, keyIdx, over, putO, memAt, List.map_cons, List.length_cons, ↓reduceIte, zdrop, one_i, one_b, one_sl, one_ptr, one_ref, one_nilp, one_mp, one_fn, one_nilf, c0]
def hcnt (l : List Int) : List Int := (List.range 18).map fun k : Nat => ((l.countP fun q => decide (q = (k : Int)) : Nat) : Int)
theorem hcnt_len (l : List Int) : (hcnt l).length = 18 := by simp [hcnt]
theorem hcnt_at (l : List Int) {k : Nat} (h : k < 18) : at_ (hcnt l) k = ((l.countP fun q => decide (q = (k : Int)) : Nat) : Int) := by
  simp [hcnt, at_, List.getD, h]
theorem hcnt_open (l : List Int) : hcnt (l ++ [-1]) = hcnt l := by
  unfold hcnt
  refine List.map_congr_left fun k _ => ?_
  rw [List.countP_append]
  have : List.countP (fun q => decide (q = (k : Int))) [-1] = 0 := by
    rw [List.countP_singleton, if_neg]; simp
  rw [this, Nat.add_zero]
theorem hcnt_snoc (l : List Int) {k : Nat} (h : k < 18) : hcnt (l ++ [(k : Int)]) = (hcnt l).set k (at_ (hcnt l) k + 1) := by
  apply List.ext_getElem
  · simp [hcnt]
  intro i h1 h2
  have hv := hcnt_at l h
  rw [List.getElem_set]
  split
  · rename_i e
    subst e
    rw [hv]
    simp only [hcnt, List.getElem_map, List.getElem_range, List.countP_append, List.countP_singleton]
    simp
  · rename_i e
    simp only [hcnt, List.getElem_map, List.getElem_range, List.countP_append, List.countP_singleton]
    rw [if_neg (by simp; omega), Nat.add_zero]
def hA (l : List Int) : Arr 18 := ⟨hcnt l, hcnt_len l⟩
def goodL (plan : List Int) : List Int := plan.takeWhile fun p => inB p (-1) 17
def busyQ (s : Sh) (plan : List Int) : Arr 18 × Bool :=
  if plan.length ≠ s.stacks.length then (hA [], false)
  else if (plan.all fun p => inB p (-1) 17) = true then (hA plan, (hcnt plan).all fun n => decide (n ≤ s.hands)) else (hA (goodL plan), false)
theorem good_take {plan : List Int} {i : Nat} (hi : i < plan.length) (h : (plan.take i).all (fun p => inB p (-1) 17) = true) (hb : inB (at_ plan i) (-1) 17 = false) : goodL plan = plan.take i := by
  unfold goodL
  conv => lhs; rw [← List.take_append_drop i plan]
  rw [List.takeWhile_append_of_pos (fun x hx => List.all_eq_true.1 h x hx), drop_at hi, List.takeWhile_cons, hb]
  simp
theorem take_h (l : List Int) : List.take 18 ((hcnt l).map (AV.int .i64)) = (hcnt l).map (AV.int .i64) := List.take_of_length_le (by simp [hcnt_len])
theorem drop_h (l : List Int) : (hcnt l).drop 18 = [] := List.drop_eq_nil_of_le (by simp [hcnt_len])
theorem chunks_ints : ∀ (n : Nat) (l : List Int), l.length = n → chunks 1 n (l.map (AV.int .i64)) = l.map EncE.cs
  | 0, [], _ => rfl
  | n + 1, x :: l, h => by
    simp only [List.map_cons, chunks, List.take_succ_cons, List.take_zero, List.drop_succ_cons, List.drop_zero]
    rw [chunks_ints n l (by simpa using h)]
    rfl
theorem chunks_h (l : List Int) : chunks 1 18 ((hcnt l).map (AV.int .i64)) = (hcnt l).map EncE.cs := chunks_ints 18 _ (hcnt_len l)
theorem e18 : (((18 : Nat) : Int) - 0).toNat = 18 := rfl
theorem take_snoc_at {plan : List Int} {i : Nat} (hi : i < plan.length) : plan.take (i + 1) = plan.take i ++ [at_ plan i] := take_succ_at hi
theorem busy_call (s : Sh) (plan : List Int) (h : s.stacks.length ≤ 4096 ∧ plan.length ≤ 4096) : CallP Try.prog 46 [Enc.enc s, Enc.enc plan] (· = Enc.enc (busyQ s plan)) := by
  have h1 := h.1
  have h2 := h.2
  have hz : (hcnt []).map (AV.int .i64) = List.replicate 18 (AV.int .i64 0) := by rfl
  unfold busyQ
  cases c0 : decide ((plan.length : Int) = s.stacks.length)
  · rw [if_pos (by simp at c0; omega)]
    simp only [enc_fnl, enc_fnb, enc_fnc, enc_refc, enc_arr, enc_int, enc_bool, enc_list, enc_sk, enc_sp, enc_rg, enc_sh, enc_tr, enc_refs, enc_fns, enc_wks]
    refine callP_of_vc (Φ := P18) Try.func46 rfl (by rfl) (by rw [Try.ntmps46]; simp) mixed P18_ok (by simp [AV.strip, AV.strip1, Tk.strip]) ?_
    rw [Try.ntmps46]
    simp only [Try.f46, startSt, tmFrom]
    simp (maxSteps := 4000000) only [go_sem, AV.one, drawV, intsOf, keyIdx, over, putO, memAt, List.map_cons, List.length_cons, ↓reduceIte, zdrop, one_i, one_b, one_sl, one_ptr, one_ref, one_nilp, one_mp, one_fn, one_nilf, c0]
    rfl
  · have hl : plan.length = s.stacks.length := by simp at c0; omega
    rw [if_neg (by simpa using hl)]
    simp only [enc_fnl, enc_fnb, enc_fnc, enc_refc, enc_arr, enc_int, enc_bool, enc_list, enc_sk, enc_sp, enc_rg, enc_sh, enc_tr, enc_refs, enc_fns, enc_wks]
    refine callP_of_vc (Φ := P18) Try.func46 rfl (by rfl) (by rw [Try.ntmps46]; simp) mixed P18_ok (by simp [AV.strip, AV.strip1, Tk.strip]) ?_
    rw [Try.ntmps46]
    simp only [Try.f46, startSt, tmFrom]
    simp (maxSteps := 4000000) only [go_sem, AV.one, drawV, intsOf, keyIdx, over, putO, memAt, List.map_cons, List.length_cons, ↓reduceIte, zdrop, one_i, one_b, one_sl, one_ptr, one_ref, one_nilp, one_mp, one_fn, one_nilf, c0]
    refine loopN (plan.length) [] [2, 4, 5, 15, 16] (fun i => [(17, .int .i64 i)]) (fun i m => m.set 1 (.cells ((hcnt (plan.take i)).map (AV.int .i64)))) (fun i => (plan.take i).all (fun p => inB p (-1) 17) = true) ?_ ?_ ?_ ?_
    · rfl
    · simp [AV.bare, bel_ints, cs_arr, dep_arr, cs_int, cs_bool, cs_list, cs_sk, cs_sp, AtHead, Same, AllO, Begins, LtAll, headSt, tokz_nil, tokz_cons, tokz1, lk, dep_int, dep_bool, dep_list, dep_sk, dep_sp, memAt, bel_map, bel_mapF, bel_mapO, bel_undef, bel_int, bel_boolv, bel_nilp, bel_nilf, bel_ptr, bel_arr, bel_mp, bel_yld, bel_agg, bel_tup, bel_ref, bel_only, bel_mpr, bel_fn, bel_sl_nil, bel_sl_nilF, bel_sl_nilO, bel_sl_cons, bel_sl_app, belO_cells, belO_tok, belO_dead, belO_deferred, belO_map, belO_iter, belO_loop, bel_vec, bel_vp, belO_vecM, belO_vec, hz]
    · intro i hi hI
      have hi' := Int.ofNat_lt.2 hi
      have hts := take_succ_at hi
      have hal := take_all (fun p => inB p (-1) 17) plan hi
      cases c1 : inB (at_ plan i) (-1) 17
      · have hg := good_take hi hI c1
        have hall := all_false (p := fun p => inB p (-1) 17) hi c1
        rw [hall, hg]
        simp (maxSteps := 4000000) only [go_sem, drawV, intsOf, keyIdx, over, putO, memAt, List.map_cons, List.length_cons, ↓reduceIte, zdrop, one_i, one_b, one_sl, one_ptr, one_ref, one_nilp, one_mp, one_fn, one_nilf, getD_mapA hi, hi', c1, hcnt_len, take_h, drop_h, soft_ints, List.length_append, List.length_map]
        all_goals (repeat' (first | with_reducible rfl | with_reducible apply And.intro | ((with_reducible show drawOK _ _ = true); rfl))) <;> (try first | omega | (simp only [InR]; omega) | with_reducible assumption)
        rfl
      rw [hI, c1] at hal
      have hin := (inB_iff _ _ _).1 c1
      cases c2 : decide (at_ plan i = -1)
      · obtain ⟨k, hk⟩ := Int.eq_ofNat_of_zero_le (show 0 ≤ at_ plan i by simp at c2; omega)
        have hk18 : k < 18 := by omega
        have hsn := hcnt_snoc (plan.take i) hk18
        have hat := getD_ints (l := hcnt (plan.take i)) (i := k) (by rw [hcnt_len]; omega)
        have hov := fun v => over_ints (l := hcnt (plan.take i)) (i := k) (by rw [hcnt_len]; omega) v
        have hb := hcnt_at (plan.take i) hk18
        have hcl := List.countP_le_length (p := fun q => decide (q = (k : Int))) (l := plan.take i)
        rw [List.length_take] at hcl
        rw [hk] at c1 c2 hts
        simp (maxSteps := 4000000) only [go_sem, drawV, intsOf, keyIdx, putO, memAt, List.map_cons, List.length_cons, ↓reduceIte, zdrop, one_i, one_b, one_sl, one_ptr, one_ref, one_nilp, one_mp, one_fn, one_nilf, getD_mapA hi, hi', hk, c1, c2, hat, hov, hcnt_len]
        all_goals (repeat' (first | with_reducible rfl | with_reducible apply And.intro | ((with_reducible show drawOK _ _ = true); rfl))) <;> (try first | omega | (simp only [InR]; omega) | with_reducible assumption)
        refine nxt hi (by rw [hal]; rfl) ?_
        simp [AV.bare, bel_ints, cs_arr, dep_arr, cs_int, cs_bool, cs_list, cs_sk, cs_sp, AtHead, Same, AllO, Begins, LtAll, headSt, tokz_nil, tokz_cons, tokz1, lk, dep_int, dep_bool, dep_list, dep_sk, dep_sp, memAt, bel_map, bel_mapF, bel_mapO, bel_undef, bel_int, bel_boolv, bel_nilp, bel_nilf, bel_ptr, bel_arr, bel_mp, bel_yld, bel_agg, bel_tup, bel_ref, bel_only, bel_mpr, bel_fn, bel_sl_nil, bel_sl_nilF, bel_sl_nilO, bel_sl_cons, bel_sl_app, belO_cells, belO_tok, belO_dead, belO_deferred, belO_map, belO_iter, belO_loop, bel_vec, bel_vp, belO_vecM, belO_vec, hts, hsn, -List.map_set]
      · have hk : at_ plan i = -1 := by simpa using c2
        rw [hk] at c1 c2 hts
        simp (maxSteps := 4000000) only [go_sem, AV.one, drawV, intsOf, keyIdx, over, putO, memAt, List.map_cons, List.length_cons, ↓reduceIte, zdrop, one_i, one_b, one_sl, one_ptr, one_ref, one_nilp, one_mp, one_fn, one_nilf, getD_mapA hi, hi', hk, c1, c2]
        all_goals (repeat' (first | with_reducible rfl | with_reducible apply And.intro | ((with_reducible show drawOK _ _ = true); rfl))) <;> (try first | omega | (simp only [InR]; omega) | with_reducible assumption)
        refine nxt hi (by rw [hal]; rfl) ?_
        simp [AV.bare, bel_ints, cs_arr, dep_arr, cs_int, cs_bool, cs_list, cs_sk, cs_sp, AtHead, Same, AllO, Begins, LtAll, headSt, tokz_nil, tokz_cons, tokz1, lk, dep_int, dep_bool, dep_list, dep_sk, dep_sp, memAt, bel_map, bel_mapF, bel_mapO, bel_undef, bel_int, bel_boolv, bel_nilp, bel_nilf, bel_ptr, bel_arr, bel_mp, bel_yld, bel_agg, bel_tup, bel_ref, bel_only, bel_mpr, bel_fn, bel_sl_nil, bel_sl_nilF, bel_sl_nilO, bel_sl_cons, bel_sl_app, belO_cells, belO_tok, belO_dead, belO_deferred, belO_map, belO_iter, belO_loop, bel_vec, bel_vp, belO_vecM, belO_vec, hts, hcnt_open]
    · intro hI
      rw [List.take_length] at hI
      rw [List.take_length, if_pos hI]
      obtain ⟨n, hn⟩ : ∃ n : Nat, n = 18 := ⟨_, rfl⟩
      have hch : chunks 1 n ((hcnt plan).map (AV.int .i64)) = (hcnt plan).map EncE.cs := by rw [hn]; exact chunks_h plan
      have e18 : (((18 : Nat) : Int) - 0).toNat = n := by rw [hn]; rfl
      have hle : n ≤ 18 := by omega
      simp (maxSteps := 4000000) only [go_sem, drawV, intsOf, keyIdx, over, putO, memAt, List.map_cons, List.length_cons, ↓reduceIte, zdrop, one_i, one_b, one_sl, one_ptr, one_ref, one_nilp, one_mp, one_fn, one_nilf, Int.lt_irrefl, hcnt_len, take_h, drop_h, soft_ints, e18, hch, hle, List.length_append, List.length_map]
      all_goals (repeat' (first | with_reducible rfl | with_reducible apply And.intro | ((with_reducible show drawOK _ _ = true); rfl))) <;> (try first | omega | (simp only [InR]; omega) | with_reducible assumption)
      rfl
def P19 : Specs := addSpec 24 (spec1 (fun s : Sh => s.stacks.length ≤ 4096) faultS) (addSpec 46 (spec2 (fun (s : Sh) (p : List Int) => s.stacks.length ≤ 4096 ∧ p.length ≤ 4096) busyQ) (P18))
theorem P19_app (g : FuncId) : P19 g = (addSpec 24 (spec1 (fun s : Sh => s.stacks.length ≤ 4096) faultS) (addSpec 46 (spec2 (fun (s : Sh) (p : List Int) => s.stacks.length ≤ 4096 ∧ p.length ≤ 4096) busyQ) (P18))) g := rfl
theorem P19_ok : SpecsOk Try.prog P19 := addSpec_ok (spec1_ok fun s h => CheckShelter_call s h) (addSpec_ok (spec2_ok busy_call) (P18_ok))
attribute [go_sem] P19_app
theorem P19_flag (d : Option Nat) : flagOf P19 d = none := (flagOf_add (by decide) d).trans ((flagOf_add (by decide) d).trans (P18_flag d))
attribute [go_sem] P19_flag
end Go.Proofs
namespace Go.Proofs
open Go.Fs
set_option linter.unusedSimpArgs false
set_option linter.unusedVariables false
set_option maxHeartbeats 4000000
set_option maxRecDepth 8000
theorem is_call (s : Sh) (t : Tr) (h : s.stacks.length ≤ 4096 ∧ t.leaks.length ≤ 4096) : CallP Try.prog 47 [Enc.enc s, Enc.enc t] (· = Enc.enc (truthB s t)) := by
  unfold truthB
  have h1 := h.1
  have h2 := h.2
  cases c1 : decide ((t.leaks.length : Int) = s.stacks.length)
  · have c1' : decide (t.leaks.length = s.stacks.length) = false := by simp at c1 ⊢; omega
    rw [c1', Bool.and_false, Bool.false_and]
    simp only [enc_fnl, enc_fnb, enc_fnc, enc_refc, enc_arr, enc_int, enc_bool, enc_list, enc_sk, enc_sp, enc_rg, enc_sh, enc_tr, enc_refs, enc_fns, enc_wks]
    refine callP_of_vc (Φ := P19) Try.func47 rfl (by rfl) (by rw [Try.ntmps47]; simp) mixed P19_ok (by simp [AV.strip, AV.strip1, Tk.strip]) ?_
    rw [Try.ntmps47]
    simp only [Try.f47, startSt, tmFrom]
    simp (maxSteps := 4000000) only [go_sem, AV.one, drawV, intsOf, keyIdx, over, putO, memAt, List.map_cons, List.length_cons, ↓reduceIte, zdrop, one_i, one_b, one_sl, one_ptr, one_ref, one_nilp, one_mp, one_fn, one_nilf, c1]
  have hl : t.leaks.length = s.stacks.length := by simp at c1; omega
  have c1' : decide (t.leaks.length = s.stacks.length) = true := by simp [hl]
  rw [c1', Bool.and_true]
  cases c0 : inB t.rain s.rain.lo s.rain.hi
  · simp only [enc_fnl, enc_fnb, enc_fnc, enc_refc, enc_arr, enc_int, enc_bool, enc_list, enc_sk, enc_sp, enc_rg, enc_sh, enc_tr, enc_refs, enc_fns, enc_wks]
    refine callP_of_vc (Φ := P19) Try.func47 rfl (by rfl) (by rw [Try.ntmps47]; simp) mixed P19_ok (by simp [AV.strip, AV.strip1, Tk.strip]) ?_
    rw [Try.ntmps47]
    simp only [Try.f47, startSt, tmFrom]
    simp (maxSteps := 4000000) only [go_sem, AV.one, drawV, intsOf, keyIdx, over, putO, memAt, List.map_cons, List.length_cons, ↓reduceIte, zdrop, one_i, one_b, one_sl, one_ptr, one_ref, one_nilp, one_mp, one_fn, one_nilf, c0, c1]
  simp only [enc_fnl, enc_fnb, enc_fnc, enc_refc, enc_arr, enc_int, enc_bool, enc_list, enc_sk, enc_sp, enc_rg, enc_sh, enc_tr, enc_refs, enc_fns, enc_wks]
  refine callP_of_vc (Φ := P19) Try.func47 rfl (by rfl) (by rw [Try.ntmps47]; simp) mixed P19_ok (by simp [AV.strip, AV.strip1, Tk.strip]) ?_
  rw [Try.ntmps47]
  simp only [Try.f47, startSt, tmFrom]
  simp (maxSteps := 4000000) only [go_sem, AV.one, drawV, intsOf, keyIdx, over, putO, memAt, List.map_cons, List.length_cons, ↓reduceIte, zdrop, one_i, one_b, one_sl, one_ptr, one_ref, one_nilp, one_mp, one_fn, one_nilf, c0, c1]
  refine loopN (s.stacks.length) [] [3, 4, 23, 24] (fun i => [(25, .int .i64 i)]) (fun _ m => m) (fun i => (List.range i).all (fun i => inB (at_ t.leaks i) (at_ s.stacks i).leak.lo (at_ s.stacks i).leak.hi) = true) ?_ ?_ ?_ ?_
  · rfl
  · simp [AV.bare, bel_ints, cs_arr, dep_arr, cs_int, cs_bool, cs_list, cs_sk, cs_sp, AtHead, Same, AllO, Begins, LtAll, headSt, tokz_nil, tokz_cons, tokz1, lk, dep_int, dep_bool, dep_list, dep_sk, dep_sp, memAt, bel_map, bel_mapF, bel_mapO, bel_undef, bel_int, bel_boolv, bel_nilp, bel_nilf, bel_ptr, bel_arr, bel_mp, bel_yld, bel_agg, bel_tup, bel_ref, bel_only, bel_mpr, bel_fn, bel_sl_nil, bel_sl_nilF, bel_sl_nilO, bel_sl_cons, bel_sl_app, belO_cells, belO_tok, belO_dead, belO_deferred, belO_map, belO_iter, belO_loop, bel_vec, bel_vp, belO_vecM, belO_vec]
  · intro i hi hI
    have hi' := Int.ofNat_lt.2 hi
    have hi2 : i < t.leaks.length := by omega
    cases c3 : inB (at_ t.leaks i) (at_ s.stacks i).leak.lo (at_ s.stacks i).leak.hi <;>
      simp (maxSteps := 4000000) only [go_sem, AV.one, drawV, intsOf, keyIdx, over, putO, memAt, List.map_cons, List.length_cons, ↓reduceIte, zdrop, one_i, one_b, one_sl, one_ptr, one_ref, one_nilp, one_mp, one_fn, one_nilf, getD_mapA hi, getD_mapA hi2, hi', c3]
    all_goals all_goals (repeat' (first | with_reducible rfl | with_reducible apply And.intro | ((with_reducible show drawOK _ _ = true); rfl))) <;> (try first | omega | (simp only [InR]; omega) | with_reducible assumption)
    · rw [range_all_false hi2 (p := fun i => inB (at_ t.leaks i) (at_ s.stacks i).leak.lo (at_ s.stacks i).leak.hi) c3]
    · refine nxt hi (by rw [range_all_succ, hI, c3]; rfl) ?_
      simp [AV.bare, bel_ints, cs_arr, dep_arr, cs_int, cs_bool, cs_list, cs_sk, cs_sp, AtHead, Same, AllO, Begins, LtAll, headSt, tokz_nil, tokz_cons, tokz1, lk, dep_int, dep_bool, dep_list, dep_sk, dep_sp, memAt, bel_map, bel_mapF, bel_mapO, bel_undef, bel_int, bel_boolv, bel_nilp, bel_nilf, bel_ptr, bel_arr, bel_mp, bel_yld, bel_agg, bel_tup, bel_ref, bel_only, bel_mpr, bel_fn, bel_sl_nil, bel_sl_nilF, bel_sl_nilO, bel_sl_cons, bel_sl_app, belO_cells, belO_tok, belO_dead, belO_deferred, belO_map, belO_iter, belO_loop, bel_vec, bel_vp, belO_vecM, belO_vec]
  · intro hI
    simp (maxSteps := 4000000) only [go_sem, AV.one, drawV, intsOf, keyIdx, over, putO, memAt, List.map_cons, List.length_cons, ↓reduceIte, zdrop, one_i, one_b, one_sl, one_ptr, one_ref, one_nilp, one_mp, one_fn, one_nilf, Int.lt_irrefl]
    rw [hl, hI]
theorem span_call (s : Sh) (i : Int) (h : (0 ≤ i ∧ i < s.stacks.length) ∧ InR .i64 (spS s i)) : CallP Try.prog 41 [Enc.enc s, Enc.enc i] (· = Enc.enc (spS s i)) := by
  obtain ⟨⟨h0, h1⟩, h3⟩ := h
  obtain ⟨k, rfl⟩ := Int.eq_ofNat_of_zero_le h0
  have hk : k < s.stacks.length := by omega
  unfold spS at h3 ⊢
  rw [Int.toNat_natCast] at h3 ⊢
  simp only [enc_fnl, enc_fnb, enc_fnc, enc_refc, enc_arr, enc_int, enc_bool, enc_list, enc_sk, enc_sp, enc_rg, enc_sh, enc_tr, enc_refs, enc_fns, enc_wks]
  refine callP_of_vc (Φ := P19) Try.func41 rfl (by rfl) (by rw [Try.ntmps41]; simp) mixed P19_ok (by simp [AV.strip, AV.strip1, Tk.strip]) ?_
  rw [Try.ntmps41]
  simp only [Try.f41, startSt, tmFrom]
  simp (maxSteps := 4000000) only [go_sem, AV.one, drawV, intsOf, keyIdx, over, putO, memAt, List.map_cons, List.length_cons, ↓reduceIte, zdrop, one_i, one_b, one_sl, one_ptr, one_ref, one_nilp, one_mp, one_fn, one_nilf, getD_mapA hk]
  all_goals (repeat' (first | with_reducible rfl | with_reducible apply And.intro | ((with_reducible show drawOK _ _ = true); rfl))) <;> (try first | omega | (simp only [InR]; omega) | with_reducible assumption)
def plannedQ (s : Sh) (plan : List Int) : Int := if faultS s ≠ 0 then faultS s else if (busyQ s plan).2 = true then 0 else 2
theorem planned_call (s : Sh) (plan : List Int) (h : s.stacks.length ≤ 4096 ∧ plan.length ≤ 4096) : CallP Try.prog 30 [Enc.enc s, Enc.enc plan] (· = Enc.enc (plannedQ s plan)) := by
  unfold plannedQ
  have h1 := h.1
  have h2 := h.2
  cases c0 : decide (faultS s = 0)
  · rw [if_pos (by simpa using c0)]
    simp only [enc_fnl, enc_fnb, enc_fnc, enc_refc, enc_arr, enc_int, enc_bool, enc_list, enc_sk, enc_sp, enc_rg, enc_sh, enc_tr, enc_refs, enc_fns, enc_wks]
    refine callP_of_vc (Φ := P19) Try.func30 rfl (by rfl) (by rw [Try.ntmps30]; simp) mixed P19_ok (by simp [AV.strip, AV.strip1, Tk.strip]) ?_
    rw [Try.ntmps30]
    simp only [Try.f30, startSt, tmFrom]
    simp (maxSteps := 4000000) only [go_sem, AV.one, drawV, intsOf, keyIdx, over, putO, memAt, List.map_cons, List.length_cons, ↓reduceIte, zdrop, one_i, one_b, one_sl, one_ptr, one_ref, one_nilp, one_mp, one_fn, one_nilf, c0]
    all_goals (repeat' (first | with_reducible rfl | with_reducible apply And.intro | ((with_reducible show drawOK _ _ = true); rfl))) <;> (try first | omega | (simp only [InR]; omega) | with_reducible assumption)
  · rw [if_neg (by simpa using c0)]
    cases c1 : (busyQ s plan).2
    · simp only [enc_fnl, enc_fnb, enc_fnc, enc_refc, enc_arr, enc_int, enc_bool, enc_list, enc_sk, enc_sp, enc_rg, enc_sh, enc_tr, enc_refs, enc_fns, enc_wks]
      refine callP_of_vc (Φ := P19) Try.func30 rfl (by rfl) (by rw [Try.ntmps30]; simp) mixed P19_ok (by simp [AV.strip, AV.strip1, Tk.strip]) ?_
      rw [Try.ntmps30]
      simp only [Try.f30, startSt, tmFrom]
      simp (maxSteps := 4000000) only [go_sem, drawV, intsOf, keyIdx, over, putO, memAt, List.map_cons, List.length_cons, ↓reduceIte, zdrop, one_i, one_b, one_sl, one_ptr, one_ref, one_nilp, one_mp, one_fn, one_nilf, c0, c1, (busyQ s plan).1.h]
      all_goals (repeat' (first | with_reducible rfl | with_reducible apply And.intro | ((with_reducible show drawOK _ _ = true); rfl))) <;> (try first | omega | (simp only [InR]; omega) | with_reducible assumption)
    · simp only [enc_fnl, enc_fnb, enc_fnc, enc_refc, enc_arr, enc_int, enc_bool, enc_list, enc_sk, enc_sp, enc_rg, enc_sh, enc_tr, enc_refs, enc_fns, enc_wks]
      refine callP_of_vc (Φ := P19) Try.func30 rfl (by rfl) (by rw [Try.ntmps30]; simp) mixed P19_ok (by simp [AV.strip, AV.strip1, Tk.strip]) ?_
      rw [Try.ntmps30]
      simp only [Try.f30, startSt, tmFrom]
      simp (maxSteps := 4000000) only [go_sem, drawV, intsOf, keyIdx, over, putO, memAt, List.map_cons, List.length_cons, ↓reduceIte, zdrop, one_i, one_b, one_sl, one_ptr, one_ref, one_nilp, one_mp, one_fn, one_nilf, c0, c1, (busyQ s plan).1.h]
      all_goals (repeat' (first | with_reducible rfl | with_reducible apply And.intro | ((with_reducible show drawOK _ _ = true); rfl))) <;> (try first | omega | (simp only [InR]; omega) | with_reducible assumption)
def P20 : Specs := addSpec 47 (spec2 (fun (s : Sh) (t : Tr) => s.stacks.length ≤ 4096 ∧ t.leaks.length ≤ 4096) truthB) (addSpec 41 (spec2 (fun (s : Sh) (i : Int) => (0 ≤ i ∧ i < s.stacks.length) ∧ InR .i64 (spS s i)) spS) (addSpec 30 (spec2 (fun (s : Sh) (p : List Int) => s.stacks.length ≤ 4096 ∧ p.length ≤ 4096) plannedQ) (P19)))
theorem P20_app (g : FuncId) : P20 g = (addSpec 47 (spec2 (fun (s : Sh) (t : Tr) => s.stacks.length ≤ 4096 ∧ t.leaks.length ≤ 4096) truthB) (addSpec 41 (spec2 (fun (s : Sh) (i : Int) => (0 ≤ i ∧ i < s.stacks.length) ∧ InR .i64 (spS s i)) spS) (addSpec 30 (spec2 (fun (s : Sh) (p : List Int) => s.stacks.length ≤ 4096 ∧ p.length ≤ 4096) plannedQ) (P19)))) g := rfl
theorem P20_ok : SpecsOk Try.prog P20 := addSpec_ok (spec2_ok is_call) (addSpec_ok (spec2_ok span_call) (addSpec_ok (spec2_ok planned_call) (P19_ok)))
attribute [go_sem] P20_app
theorem P20_flag (d : Option Nat) : flagOf P20 d = none := (flagOf_add (by decide) d).trans ((flagOf_add (by decide) d).trans ((flagOf_add (by decide) d).trans (P19_flag d)))
attribute [go_sem] P20_flag
def sureS (s : Sh) (plan : List Int) : Int := wsum plan.length (fun i => chS s i) (fun i => savesB (at_ plan i) (spS s i))
theorem ch_at (s : Sh) (i : Nat) : chS s i = (at_ s.stacks i).chairs := by simp [chS]
theorem sure_call (s : Sh) (plan : List Int) (h : ShOk s ∧ plan.length = s.stacks.length) : CallP Try.prog 31 [Enc.enc s, Enc.enc plan] (· = Enc.enc (sureS s plan)) := by
  obtain ⟨hs, hl⟩ := h
  have h8 := hs.len
  unfold sureS
  simp only [enc_fnl, enc_fnb, enc_fnc, enc_refc, enc_arr, enc_int, enc_bool, enc_list, enc_sk, enc_sp, enc_rg, enc_sh, enc_tr, enc_refs, enc_fns, enc_wks]
  refine callP_of_vc (Φ := P20) Try.func31 rfl (by rfl) (by rw [Try.ntmps31]; simp) mixed P20_ok (by simp [AV.strip, AV.strip1, Tk.strip]) ?_
  rw [Try.ntmps31]
  simp only [Try.f31, startSt, tmFrom]
  simp (maxSteps := 4000000) only [go_sem, AV.one, drawV, intsOf, keyIdx, over, putO, memAt, List.map_cons, List.length_cons, ↓reduceIte, zdrop, one_i, one_b, one_sl, one_ptr, one_ref, one_nilp, one_mp, one_fn, one_nilf]
  refine loopN (plan.length) [] [2, 7, 8] (fun i => [(9, .int .i64 i), (4, .int .i64 (wsum i (fun i => chS s i) (fun i => savesB (at_ plan i) (spS s i))))]) (fun _ m => m) (fun _ => True) ?_ ?_ ?_ ?_
  · trivial
  · simp [AV.bare, bel_ints, cs_arr, dep_arr, cs_int, cs_bool, cs_list, cs_sk, cs_sp, AtHead, Same, AllO, Begins, LtAll, headSt, tokz_nil, tokz_cons, tokz1, lk, dep_int, dep_bool, dep_list, dep_sk, dep_sp, memAt, bel_map, bel_mapF, bel_mapO, bel_undef, bel_int, bel_boolv, bel_nilp, bel_nilf, bel_ptr, bel_arr, bel_mp, bel_yld, bel_agg, bel_tup, bel_ref, bel_only, bel_mpr, bel_fn, bel_sl_nil, bel_sl_nilF, bel_sl_nilO, bel_sl_cons, bel_sl_app, belO_cells, belO_tok, belO_dead, belO_deferred, belO_map, belO_iter, belO_loop, bel_vec, bel_vp, belO_vecM, belO_vec, wsum]
  · intro i hi _
    have hi' := Int.ofNat_lt.2 hi
    have hi2 : i < s.stacks.length := by omega
    have hsp := hs.sp hi2
    have hch := hs.ch hi2
    rw [ch_at] at hch
    have hb := wsum_bd (n := i) (f := fun i => chS s i) (m := 99) (fun i => savesB (at_ plan i) (spS s i)) (by omega) (fun j hj => hs.ch (by omega))
    cases c3 : savesB (at_ plan i) (spS s i) <;>
      simp (maxSteps := 4000000) only [go_sem, AV.one, drawV, intsOf, keyIdx, over, putO, memAt, List.map_cons, List.length_cons, ↓reduceIte, zdrop, one_i, one_b, one_sl, one_ptr, one_ref, one_nilp, one_mp, one_fn, one_nilf, getD_mapA hi, getD_mapA hi2, hi', c3]
    all_goals all_goals (repeat' (first | with_reducible rfl | with_reducible apply And.intro | ((with_reducible show drawOK _ _ = true); rfl))) <;> (try first | omega | (simp only [InR]; omega) | with_reducible assumption)
    all_goals
      refine nxt hi trivial ?_
      simp [AV.bare, bel_ints, cs_arr, dep_arr, cs_int, cs_bool, cs_list, cs_sk, cs_sp, AtHead, Same, AllO, Begins, LtAll, headSt, tokz_nil, tokz_cons, tokz1, lk, dep_int, dep_bool, dep_list, dep_sk, dep_sp, memAt, bel_map, bel_mapF, bel_mapO, bel_undef, bel_int, bel_boolv, bel_nilp, bel_nilf, bel_ptr, bel_arr, bel_mp, bel_yld, bel_agg, bel_tup, bel_ref, bel_only, bel_mpr, bel_fn, bel_sl_nil, bel_sl_nilF, bel_sl_nilO, bel_sl_cons, bel_sl_app, belO_cells, belO_tok, belO_dead, belO_deferred, belO_map, belO_iter, belO_loop, bel_vec, bel_vp, belO_vecM, belO_vec, wsum, c3, ch_at]
  · intro _
    simp (maxSteps := 4000000) only [go_sem, AV.one, drawV, intsOf, keyIdx, over, putO, memAt, List.map_cons, List.length_cons, ↓reduceIte, zdrop, one_i, one_b, one_sl, one_ptr, one_ref, one_nilp, one_mp, one_fn, one_nilf, Int.lt_irrefl]
def totalS (s : Sh) : Int := wsum s.stacks.length (fun i => chS s i) (fun _ => true)
theorem total_call (s : Sh) (hs : ShOk s) : CallP Try.prog 42 [Enc.enc s] (· = Enc.enc (totalS s)) := by
  have h8 := hs.len
  unfold totalS
  simp only [enc_fnl, enc_fnb, enc_fnc, enc_refc, enc_arr, enc_int, enc_bool, enc_list, enc_sk, enc_sp, enc_rg, enc_sh, enc_tr, enc_refs, enc_fns, enc_wks]
  refine callP_of_vc (Φ := P20) Try.func42 rfl (by rfl) (by rw [Try.ntmps42]; simp) mixed P20_ok (by simp [AV.strip, AV.strip1, Tk.strip]) ?_
  rw [Try.ntmps42]
  simp only [Try.f42, startSt, tmFrom]
  simp (maxSteps := 4000000) only [go_sem, AV.one, drawV, intsOf, keyIdx, over, putO, memAt, List.map_cons, List.length_cons, ↓reduceIte, zdrop, one_i, one_b, one_sl, one_ptr, one_ref, one_nilp, one_mp, one_fn, one_nilf]
  refine loopN (s.stacks.length) [] [6, 7] (fun i => [(8, .int .i64 i), (2, .int .i64 (wsum i (fun i => chS s i) (fun _ => true)))]) (fun _ m => m) (fun _ => True) ?_ ?_ ?_ ?_
  · trivial
  · simp [AV.bare, bel_ints, cs_arr, dep_arr, cs_int, cs_bool, cs_list, cs_sk, cs_sp, AtHead, Same, AllO, Begins, LtAll, headSt, tokz_nil, tokz_cons, tokz1, lk, dep_int, dep_bool, dep_list, dep_sk, dep_sp, memAt, bel_map, bel_mapF, bel_mapO, bel_undef, bel_int, bel_boolv, bel_nilp, bel_nilf, bel_ptr, bel_arr, bel_mp, bel_yld, bel_agg, bel_tup, bel_ref, bel_only, bel_mpr, bel_fn, bel_sl_nil, bel_sl_nilF, bel_sl_nilO, bel_sl_cons, bel_sl_app, belO_cells, belO_tok, belO_dead, belO_deferred, belO_map, belO_iter, belO_loop, bel_vec, bel_vp, belO_vecM, belO_vec, wsum]
  · intro i hi _
    have hi' := Int.ofNat_lt.2 hi
    have hch := hs.ch hi
    rw [ch_at] at hch
    have hb := wsum_bd (n := i) (f := fun i => chS s i) (m := 99) (fun _ => true) (by omega) (fun j hj => hs.ch (by omega))
    simp (maxSteps := 4000000) only [go_sem, AV.one, drawV, intsOf, keyIdx, over, putO, memAt, List.map_cons, List.length_cons, ↓reduceIte, zdrop, one_i, one_b, one_sl, one_ptr, one_ref, one_nilp, one_mp, one_fn, one_nilf, getD_mapA hi, hi']
    all_goals (repeat' (first | with_reducible rfl | with_reducible apply And.intro | ((with_reducible show drawOK _ _ = true); rfl))) <;> (try first | omega | (simp only [InR]; omega) | with_reducible assumption)
    refine nxt hi trivial ?_
    simp [AV.bare, bel_ints, cs_arr, dep_arr, cs_int, cs_bool, cs_list, cs_sk, cs_sp, AtHead, Same, AllO, Begins, LtAll, headSt, tokz_nil, tokz_cons, tokz1, lk, dep_int, dep_bool, dep_list, dep_sk, dep_sp, memAt, bel_map, bel_mapF, bel_mapO, bel_undef, bel_int, bel_boolv, bel_nilp, bel_nilf, bel_ptr, bel_arr, bel_mp, bel_yld, bel_agg, bel_tup, bel_ref, bel_only, bel_mpr, bel_fn, bel_sl_nil, bel_sl_nilF, bel_sl_nilO, bel_sl_cons, bel_sl_app, belO_cells, belO_tok, belO_dead, belO_deferred, belO_map, belO_iter, belO_loop, bel_vec, bel_vp, belO_vecM, belO_vec, wsum, ch_at]
  · intro _
    simp (maxSteps := 4000000) only [go_sem, AV.one, drawV, intsOf, keyIdx, over, putO, memAt, List.map_cons, List.length_cons, ↓reduceIte, zdrop, one_i, one_b, one_sl, one_ptr, one_ref, one_nilp, one_mp, one_fn, one_nilf, Int.lt_irrefl]
def P21 : Specs := addSpec 31 (spec2 (fun (s : Sh) (p : List Int) => ShOk s ∧ p.length = s.stacks.length) sureS) (addSpec 42 (spec1 (fun s : Sh => ShOk s) totalS) (P20))
theorem P21_app (g : FuncId) : P21 g = (addSpec 31 (spec2 (fun (s : Sh) (p : List Int) => ShOk s ∧ p.length = s.stacks.length) sureS) (addSpec 42 (spec1 (fun s : Sh => ShOk s) totalS) (P20))) g := rfl
theorem P21_ok : SpecsOk Try.prog P21 := addSpec_ok (spec2_ok sure_call) (addSpec_ok (spec1_ok total_call) (P20_ok))
attribute [go_sem] P21_app
theorem P21_flag (d : Option Nat) : flagOf P21 d = none := (flagOf_add (by decide) d).trans ((flagOf_add (by decide) d).trans (P20_flag d))
attribute [go_sem] P21_flag
theorem busy_len {s : Sh} {plan : List Int} (h : (busyQ s plan).2 = true) : plan.length = s.stacks.length := by
  unfold busyQ at h
  split at h
  · cases h
  · rename_i e; omega
theorem planned_zero {s : Sh} {plan : List Int} (h : plannedQ s plan = 0) : ShOk s ∧ (busyQ s plan).2 = true := by
  unfold plannedQ at h
  split at h
  · contradiction
  · rename_i h0
    split at h
    · rename_i h1
      exact ⟨fault_ok (by omega), h1⟩
    · cases h
def sureQ (s : Sh) (plan : List Int) : Int × Int := if plannedQ s plan ≠ 0 then (0, plannedQ s plan) else (sureS s plan, 0)
theorem Sure_call (s : Sh) (plan : List Int) (h : s.stacks.length ≤ 4096 ∧ plan.length ≤ 4096) : CallP Try.prog 9 [Enc.enc s, Enc.enc plan] (· = Enc.enc (sureQ s plan)) := by
  unfold sureQ
  have h1 := h.1
  have h2 := h.2
  cases c0 : decide (plannedQ s plan = 0)
  · rw [if_pos (by simpa using c0)]
    simp only [enc_fnl, enc_fnb, enc_fnc, enc_refc, enc_arr, enc_int, enc_bool, enc_list, enc_sk, enc_sp, enc_rg, enc_sh, enc_tr, enc_refs, enc_fns, enc_wks]
    refine callP_of_vc (Φ := P21) Try.func9 rfl (by rfl) (by rw [Try.ntmps9]; simp) mixed P21_ok (by simp [AV.strip, AV.strip1, Tk.strip]) ?_
    rw [Try.ntmps9]
    simp only [Try.f9, startSt, tmFrom]
    simp (maxSteps := 4000000) only [go_sem, AV.one, drawV, intsOf, keyIdx, over, putO, memAt, List.map_cons, List.length_cons, ↓reduceIte, zdrop, one_i, one_b, one_sl, one_ptr, one_ref, one_nilp, one_mp, one_fn, one_nilf, c0]
    all_goals (repeat' (first | with_reducible rfl | with_reducible apply And.intro | ((with_reducible show drawOK _ _ = true); rfl))) <;> (try first | omega | (simp only [InR]; omega) | with_reducible assumption)
  · have hp : plannedQ s plan = 0 := by simpa using c0
    rw [if_neg (by simpa using c0)]
    obtain ⟨k1, k2⟩ := planned_zero hp
    have k3 := busy_len k2
    simp only [enc_fnl, enc_fnb, enc_fnc, enc_refc, enc_arr, enc_int, enc_bool, enc_list, enc_sk, enc_sp, enc_rg, enc_sh, enc_tr, enc_refs, enc_fns, enc_wks]
    refine callP_of_vc (Φ := P21) Try.func9 rfl (by rfl) (by rw [Try.ntmps9]; simp) mixed P21_ok (by simp [AV.strip, AV.strip1, Tk.strip]) ?_
    rw [Try.ntmps9]
    simp only [Try.f9, startSt, tmFrom]
    simp (maxSteps := 4000000) only [go_sem, AV.one, drawV, intsOf, keyIdx, over, putO, memAt, List.map_cons, List.length_cons, ↓reduceIte, zdrop, one_i, one_b, one_sl, one_ptr, one_ref, one_nilp, one_mp, one_fn, one_nilf, c0, hp]
    all_goals (repeat' (first | with_reducible rfl | with_reducible apply And.intro | ((with_reducible show drawOK _ _ = true); rfl))) <;> (try first | omega | (simp only [InR]; omega) | with_reducible assumption)
def P22 : Specs := addSpec 9 (spec2 (fun (s : Sh) (p : List Int) => s.stacks.length ≤ 4096 ∧ p.length ≤ 4096) sureQ) (P21)
theorem P22_app (g : FuncId) : P22 g = (addSpec 9 (spec2 (fun (s : Sh) (p : List Int) => s.stacks.length ≤ 4096 ∧ p.length ≤ 4096) sureQ) (P21)) g := rfl
theorem P22_ok : SpecsOk Try.prog P22 := addSpec_ok (spec2_ok Sure_call) (P21_ok)
attribute [go_sem] P22_app
theorem P22_flag (d : Option Nat) : flagOf P22 d = none := (flagOf_add (by decide) d).trans (P21_flag d)
attribute [go_sem] P22_flag
def proveSureB (s : Sh) (plan : List Int) (m : Int) : Bool := decide ((sureQ s plan).2 = 0) && decide (m ≤ (sureQ s plan).1)
theorem ProveSure_call (s : Sh) (plan : List Int) (m : Int) (h : s.stacks.length ≤ 4096 ∧ plan.length ≤ 4096) : CallP Try.prog 20 [Enc.enc s, Enc.enc plan, Enc.enc m] (· = Enc.enc (proveSureB s plan m)) := by
  unfold proveSureB
  have h1 := h.1
  have h2 := h.2
  cases c0 : decide ((sureQ s plan).2 = 0)
  · simp only [enc_fnl, enc_fnb, enc_fnc, enc_refc, enc_arr, enc_int, enc_bool, enc_list, enc_sk, enc_sp, enc_rg, enc_sh, enc_tr, enc_refs, enc_fns, enc_wks]
    refine callP_of_vc (Φ := P22) Try.func20 rfl (by rfl) (by rw [Try.ntmps20]; simp) mixed P22_ok (by simp [AV.strip, AV.strip1, Tk.strip]) ?_
    rw [Try.ntmps20]
    simp only [Try.f20, startSt, tmFrom]
    simp (maxSteps := 4000000) only [go_sem, AV.one, drawV, intsOf, keyIdx, over, putO, memAt, List.map_cons, List.length_cons, ↓reduceIte, zdrop, one_i, one_b, one_sl, one_ptr, one_ref, one_nilp, one_mp, one_fn, one_nilf, c0]
    all_goals (repeat' (first | with_reducible rfl | with_reducible apply And.intro | ((with_reducible show drawOK _ _ = true); rfl))) <;> (try first | omega | (simp only [InR]; omega) | with_reducible assumption)
  · simp only [enc_fnl, enc_fnb, enc_fnc, enc_refc, enc_arr, enc_int, enc_bool, enc_list, enc_sk, enc_sp, enc_rg, enc_sh, enc_tr, enc_refs, enc_fns, enc_wks]
    refine callP_of_vc (Φ := P22) Try.func20 rfl (by rfl) (by rw [Try.ntmps20]; simp) mixed P22_ok (by simp [AV.strip, AV.strip1, Tk.strip]) ?_
    rw [Try.ntmps20]
    simp only [Try.f20, startSt, tmFrom]
    simp (maxSteps := 4000000) only [go_sem, AV.one, drawV, intsOf, keyIdx, over, putO, memAt, List.map_cons, List.length_cons, ↓reduceIte, zdrop, one_i, one_b, one_sl, one_ptr, one_ref, one_nilp, one_mp, one_fn, one_nilf, c0]
    all_goals (repeat' (first | with_reducible rfl | with_reducible apply And.intro | ((with_reducible show drawOK _ _ = true); rfl))) <;> (try first | omega | (simp only [InR]; omega) | with_reducible assumption)
def playQ (s : Sh) (plan : List Int) (t : Tr) : List Bool × Int :=
  if faultS s ≠ 0 then ([], faultS s) else if ((busyQ s plan).2 && truthB s t) = true then ((List.range plan.length).map fun i => savesB (at_ plan i) (t.rain + at_ t.leaks i), 0) else ([], 2)
theorem truth_bd {s : Sh} {t : Tr} (hs : ShOk s) (h : truthB s t = true) : (0 ≤ t.rain ∧ t.rain ≤ 9) ∧ t.leaks.length = s.stacks.length ∧ ∀ i : Nat, i < s.stacks.length → (at_ s.stacks i).leak.lo ≤ at_ t.leaks i ∧ at_ t.leaks i ≤ (at_ s.stacks i).leak.hi ∧ 0 ≤ at_ t.leaks i ∧ at_ t.leaks i ≤ 9 := by
  unfold truthB at h
  simp only [Bool.and_eq_true, decide_eq_true_eq, List.all_eq_true, List.mem_range, inB_iff] at h
  obtain ⟨⟨h1, h2⟩, h3⟩ := h
  have h4 := hs.r
  refine ⟨by omega, h2, fun i hi => ?_⟩
  have h5 := h3 i (by omega)
  have h6 := (hs.st _ (at_mem hi)).2
  omega
theorem Play_call (s : Sh) (plan : List Int) (t : Tr) (h : (s.stacks.length ≤ 4096 ∧ plan.length ≤ 4096) ∧ t.leaks.length ≤ 4096) : CallP Try.prog 22 [Enc.enc s, Enc.enc plan, Enc.enc t] (· = Enc.enc (playQ s plan t)) := by
  unfold playQ
  obtain ⟨⟨h1, h2⟩, h3⟩ := h
  cases c0 : decide (faultS s = 0)
  · rw [if_pos (by simpa using c0)]
    simp only [enc_fnl, enc_fnb, enc_fnc, enc_refc, enc_arr, enc_int, enc_bool, enc_list, enc_sk, enc_sp, enc_rg, enc_sh, enc_tr, enc_refs, enc_fns, enc_wks]
    refine callP_of_vc (Φ := P22) Try.func22 rfl (by rfl) (by rw [Try.ntmps22]; simp) mixed P22_ok (by simp [AV.strip, AV.strip1, Tk.strip]) ?_
    rw [Try.ntmps22]
    simp only [Try.f22, startSt, tmFrom]
    simp (maxSteps := 4000000) only [go_sem, AV.one, drawV, intsOf, keyIdx, over, putO, memAt, List.map_cons, List.length_cons, ↓reduceIte, zdrop, one_i, one_b, one_sl, one_ptr, one_ref, one_nilp, one_mp, one_fn, one_nilf, c0]
    all_goals (repeat' (first | with_reducible rfl | with_reducible apply And.intro | ((with_reducible show drawOK _ _ = true); rfl))) <;> (try first | omega | (simp only [InR]; omega) | with_reducible assumption)
  have hf : faultS s = 0 := by simpa using c0
  have hs := fault_ok hf
  rw [if_neg (by simpa using c0)]
  cases c1 : (busyQ s plan).2
  · simp only [enc_fnl, enc_fnb, enc_fnc, enc_refc, enc_arr, enc_int, enc_bool, enc_list, enc_sk, enc_sp, enc_rg, enc_sh, enc_tr, enc_refs, enc_fns, enc_wks]
    refine callP_of_vc (Φ := P22) Try.func22 rfl (by rfl) (by rw [Try.ntmps22]; simp) mixed P22_ok (by simp [AV.strip, AV.strip1, Tk.strip]) ?_
    rw [Try.ntmps22]
    simp only [Try.f22, startSt, tmFrom]
    simp (maxSteps := 4000000) only [go_sem, drawV, intsOf, keyIdx, over, putO, memAt, List.map_cons, List.length_cons, ↓reduceIte, zdrop, one_i, one_b, one_sl, one_ptr, one_ref, one_nilp, one_mp, one_fn, one_nilf, c0, hf, c1, (busyQ s plan).1.h]
    all_goals (repeat' (first | with_reducible rfl | with_reducible apply And.intro | ((with_reducible show drawOK _ _ = true); rfl))) <;> (try first | omega | (simp only [InR]; omega) | with_reducible assumption)
  cases c2 : truthB s t
  · simp only [enc_fnl, enc_fnb, enc_fnc, enc_refc, enc_arr, enc_int, enc_bool, enc_list, enc_sk, enc_sp, enc_rg, enc_sh, enc_tr, enc_refs, enc_fns, enc_wks]
    refine callP_of_vc (Φ := P22) Try.func22 rfl (by rfl) (by rw [Try.ntmps22]; simp) mixed P22_ok (by simp [AV.strip, AV.strip1, Tk.strip]) ?_
    rw [Try.ntmps22]
    simp only [Try.f22, startSt, tmFrom]
    simp (maxSteps := 4000000) only [go_sem, drawV, intsOf, keyIdx, over, putO, memAt, List.map_cons, List.length_cons, ↓reduceIte, zdrop, one_i, one_b, one_sl, one_ptr, one_ref, one_nilp, one_mp, one_fn, one_nilf, c0, hf, c1, c2, (busyQ s plan).1.h]
    all_goals (repeat' (first | with_reducible rfl | with_reducible apply And.intro | ((with_reducible show drawOK _ _ = true); rfl))) <;> (try first | omega | (simp only [InR]; omega) | with_reducible assumption)
  obtain ⟨b1, b2, b3⟩ := truth_bd hs c2
  have hl := busy_len c1
  have h8 := hs.len
  simp only [enc_fnl, enc_fnb, enc_fnc, enc_refc, enc_arr, enc_int, enc_bool, enc_list, enc_sk, enc_sp, enc_rg, enc_sh, enc_tr, enc_refs, enc_fns, enc_wks]
  refine callP_of_vc (Φ := P22) Try.func22 rfl (by rfl) (by rw [Try.ntmps22]; simp) mixed P22_ok (by simp [AV.strip, AV.strip1, Tk.strip]) ?_
  rw [Try.ntmps22]
  simp only [Try.f22, startSt, tmFrom]
  simp (maxSteps := 4000000) only [go_sem, drawV, intsOf, keyIdx, over, putO, memAt, List.map_cons, List.length_cons, ↓reduceIte, zdrop, one_i, one_b, one_sl, one_ptr, one_ref, one_nilp, one_mp, one_fn, one_nilf, c0, hf, c1, c2, (busyQ s plan).1.h]
  all_goals (repeat' (first | with_reducible rfl | with_reducible apply And.intro | ((with_reducible show drawOK _ _ = true); rfl))) <;> (try first | omega | (simp only [InR]; omega) | with_reducible assumption)
  obtain ⟨L, hL⟩ : ∃ L : Nat → List Bool, ∀ n, L n = (List.range n).map fun i => savesB (at_ plan i) (t.rain + at_ t.leaks i) := ⟨_, fun _ => rfl⟩
  have hLl : ∀ n, (L n).length = n := fun n => by rw [hL]; simp
  have hLs : ∀ n, L (n + 1) = L n ++ [savesB (at_ plan n) (t.rain + at_ t.leaks n)] := fun n => by rw [hL, hL, List.range_succ, List.map_append]; rfl
  rw [← hL]
  refine loopN (plan.length) [.slot 11 1] [5, 6, 7, 33, 34] (fun i => [(35, .int .i64 i), (11, .sl ((L i).map EncE.cs) (.own 3))]) (fun i m => m.set 3 (.tok i 1)) (fun _ => True) ?_ ?_ ?_ ?_
  · trivial
  · simp [AV.bare, bel_ints, cs_arr, dep_arr, cs_int, cs_bool, cs_list, cs_sk, cs_sp, AtHead, Same, AllO, Begins, LtAll, headSt, tokz_nil, tokz_cons, tokz1, lk, dep_int, dep_bool, dep_list, dep_sk, dep_sp, memAt, bel_map, bel_mapF, bel_mapO, bel_undef, bel_int, bel_boolv, bel_nilp, bel_nilf, bel_ptr, bel_arr, bel_mp, bel_yld, bel_agg, bel_tup, bel_ref, bel_only, bel_mpr, bel_fn, bel_sl_nil, bel_sl_nilF, bel_sl_nilO, bel_sl_cons, bel_sl_app, belO_cells, belO_tok, belO_dead, belO_deferred, belO_map, belO_iter, belO_loop, bel_vec, bel_vp, belO_vecM, belO_vec, hL]
  · intro i hi _
    have hi' := Int.ofNat_lt.2 hi
    have hi2 : i < t.leaks.length := by omega
    have hb := b3 i (by omega)
    have hll := hLl i
    simp (maxSteps := 4000000) only [go_sem, AV.one, drawV, intsOf, keyIdx, over, putO, memAt, List.map_cons, List.length_cons, ↓reduceIte, zdrop, one_i, one_b, one_sl, one_ptr, one_ref, one_nilp, one_mp, one_fn, one_nilf, getD_mapA hi, getD_mapA hi2, hi', hll]
    all_goals (repeat' (first | with_reducible rfl | with_reducible apply And.intro | ((with_reducible show drawOK _ _ = true); rfl))) <;> (try first | omega | (simp only [InR]; omega) | with_reducible assumption)
    refine nxt hi trivial ?_
    simp [AV.bare, bel_ints, cs_arr, dep_arr, cs_int, cs_bool, cs_list, cs_sk, cs_sp, AtHead, Same, AllO, Begins, LtAll, headSt, tokz_nil, tokz_cons, tokz1, lk, dep_int, dep_bool, dep_list, dep_sk, dep_sp, memAt, bel_map, bel_mapF, bel_mapO, bel_undef, bel_int, bel_boolv, bel_nilp, bel_nilf, bel_ptr, bel_arr, bel_mp, bel_yld, bel_agg, bel_tup, bel_ref, bel_only, bel_mpr, bel_fn, bel_sl_nil, bel_sl_nilF, bel_sl_nilO, bel_sl_cons, bel_sl_app, belO_cells, belO_tok, belO_dead, belO_deferred, belO_map, belO_iter, belO_loop, bel_vec, bel_vp, belO_vecM, belO_vec, hLs, -List.map_map]
  · intro _
    simp (maxSteps := 4000000) only [go_sem, AV.one, drawV, intsOf, keyIdx, over, putO, memAt, List.map_cons, List.length_cons, ↓reduceIte, zdrop, one_i, one_b, one_sl, one_ptr, one_ref, one_nilp, one_mp, one_fn, one_nilf, Int.lt_irrefl]
    all_goals (repeat' (first | with_reducible rfl | with_reducible apply And.intro | ((with_reducible show drawOK _ _ = true); rfl))) <;> (try first | omega | (simp only [InR]; omega) | with_reducible assumption)
end Go.Proofs
namespace Go.Proofs
open Go.Fs
set_option linter.unusedSimpArgs false
set_option linter.unusedVariables false
set_option maxHeartbeats 4000000
set_option maxRecDepth 8000
def P23 : Specs := addSpec 20 (spec3 (fun (s : Sh) (p : List Int) (_ : Int) => s.stacks.length ≤ 4096 ∧ p.length ≤ 4096) proveSureB) (addSpec 22 (spec3 (fun (s : Sh) (p : List Int) (t : Tr) => (s.stacks.length ≤ 4096 ∧ p.length ≤ 4096) ∧ t.leaks.length ≤ 4096) playQ) (P22))
theorem P23_app (g : FuncId) : P23 g = (addSpec 20 (spec3 (fun (s : Sh) (p : List Int) (_ : Int) => s.stacks.length ≤ 4096 ∧ p.length ≤ 4096) proveSureB) (addSpec 22 (spec3 (fun (s : Sh) (p : List Int) (t : Tr) => (s.stacks.length ≤ 4096 ∧ p.length ≤ 4096) ∧ t.leaks.length ≤ 4096) playQ) (P22))) g := rfl
theorem P23_ok : SpecsOk Try.prog P23 := addSpec_ok (spec3_ok ProveSure_call) (addSpec_ok (spec3_ok Play_call) (P22_ok))
attribute [go_sem] P23_app
theorem P23_flag (d : Option Nat) : flagOf P23 d = none := (flagOf_add (by decide) d).trans ((flagOf_add (by decide) d).trans (P22_flag d))
attribute [go_sem] P23_flag
theorem weight_call (x : Sk) : CallP Try.prog 74 [Enc.enc x] (· = Enc.enc x.chairs) := by
  simp only [enc_fnl, enc_fnb, enc_fnc, enc_refc, enc_arr, enc_int, enc_bool, enc_list, enc_sk, enc_sp, enc_rg, enc_sh, enc_tr, enc_refs, enc_fns, enc_wks]
  refine callP_of_vc (Φ := P23) Try.func74 rfl (by rfl) (by rw [Try.ntmps74]; simp) mixed P23_ok (by simp [AV.strip, AV.strip1, Tk.strip]) ?_
  rw [Try.ntmps74]
  simp only [Try.f74, startSt, tmFrom]
  simp (maxSteps := 4000000) only [go_sem, AV.one, drawV, intsOf, keyIdx, over, putO, memAt, List.map_cons, List.length_cons, ↓reduceIte, zdrop, one_i, one_b, one_sl, one_ptr, one_ref, one_nilp, one_mp, one_fn, one_nilf]
theorem first_call (x : Sk) : CallP Try.prog 77 [Enc.enc x] (· = Enc.enc x.leak.lo) := by
  simp only [enc_fnl, enc_fnb, enc_fnc, enc_refc, enc_arr, enc_int, enc_bool, enc_list, enc_sk, enc_sp, enc_rg, enc_sh, enc_tr, enc_refs, enc_fns, enc_wks]
  refine callP_of_vc (Φ := P23) Try.func77 rfl (by rfl) (by rw [Try.ntmps77]; simp) mixed P23_ok (by simp [AV.strip, AV.strip1, Tk.strip]) ?_
  rw [Try.ntmps77]
  simp only [Try.f77, startSt, tmFrom]
  simp (maxSteps := 4000000) only [go_sem, AV.one, drawV, intsOf, keyIdx, over, putO, memAt, List.map_cons, List.length_cons, ↓reduceIte, zdrop, one_i, one_b, one_sl, one_ptr, one_ref, one_nilp, one_mp, one_fn, one_nilf]
def P24 : Specs := addSpec 74 (spec1 (fun _ => True) (fun x : Sk => x.chairs)) (addSpec 77 (spec1 (fun _ => True) (fun x : Sk => x.leak.lo)) (P23))
theorem P24_app (g : FuncId) : P24 g = (addSpec 74 (spec1 (fun _ => True) (fun x : Sk => x.chairs)) (addSpec 77 (spec1 (fun _ => True) (fun x : Sk => x.leak.lo)) (P23))) g := rfl
theorem P24_ok : SpecsOk Try.prog P24 := addSpec_ok (spec1_ok fun x _ => weight_call x) (addSpec_ok (spec1_ok fun x _ => first_call x) (P23_ok))
attribute [go_sem] P24_app
theorem P24_flag (d : Option Nat) : flagOf P24 d = none := (flagOf_add (by decide) d).trans ((flagOf_add (by decide) d).trans (P23_flag d))
attribute [go_sem] P24_flag
def idxOk (s : Sh) (a : Int) : Prop := 0 ≤ a ∧ a < s.stacks.length
def lkS (s : Sh) (i : Int) : Int := (at_ s.stacks i.toNat).leak.lo
theorem heaviest1_call (a b : Int) (q : RefC (FnL 74)) (w : RefC WkS) (h : ShOk w.x.s ∧ idxOk w.x.s a ∧ idxOk w.x.s b) :
    CallP Try.prog 76 [Enc.enc a, Enc.enc b, Enc.enc q, Enc.enc w] (· = Enc.enc (chS w.x.s b - chS w.x.s a)) := by
  obtain ⟨hs, ⟨a0, a1⟩, b0, b1⟩ := h
  obtain ⟨i, rfl⟩ := Int.eq_ofNat_of_zero_le a0
  obtain ⟨j, rfl⟩ := Int.eq_ofNat_of_zero_le b0
  have hi : i < w.x.s.stacks.length := by omega
  have hj : j < w.x.s.stacks.length := by omega
  have ci := hs.ch hi
  have cj := hs.ch hj
  rw [ch_at] at ci cj
  rw [ch_at, ch_at]
  simp only [enc_fnl, enc_fnb, enc_fnc, enc_refc, enc_arr, enc_int, enc_bool, enc_list, enc_sk, enc_sp, enc_rg, enc_sh, enc_tr, enc_refs, enc_fns, enc_wks]
  refine callP_of_vc (Φ := P24) Try.func76 rfl (by rfl) (by rw [Try.ntmps76]; simp) mixed P24_ok (by simp [AV.strip, AV.strip1, Tk.strip]) ?_
  rw [Try.ntmps76]
  simp only [Try.f76, startSt, tmFrom]
  simp (maxSteps := 4000000) only [go_sem, AV.one, drawV, intsOf, keyIdx, over, putO, memAt, List.map_cons, List.length_cons, ↓reduceIte, zdrop, one_i, one_b, one_sl, one_ptr, one_ref, one_nilp, one_mp, one_fn, one_nilf, getD_mapA hi, getD_mapA hj]
  all_goals (repeat' (first | with_reducible rfl | with_reducible apply And.intro | ((with_reducible show drawOK _ _ = true); rfl))) <;> (try first | omega | (simp only [InR]; omega) | with_reducible assumption)
theorem ordered1_call (a b : Int) (q : RefC (FnL 77)) (w : RefC WkS) (h : ShOk w.x.s ∧ idxOk w.x.s a ∧ idxOk w.x.s b) :
    CallP Try.prog 78 [Enc.enc a, Enc.enc b, Enc.enc q, Enc.enc w] (· = Enc.enc (lkS w.x.s a - lkS w.x.s b)) := by
  obtain ⟨hs, ⟨a0, a1⟩, b0, b1⟩ := h
  obtain ⟨i, rfl⟩ := Int.eq_ofNat_of_zero_le a0
  obtain ⟨j, rfl⟩ := Int.eq_ofNat_of_zero_le b0
  have hi : i < w.x.s.stacks.length := by omega
  have hj : j < w.x.s.stacks.length := by omega
  have ci := (hs.st _ (at_mem hi)).2
  have cj := (hs.st _ (at_mem hj)).2
  unfold lkS
  rw [Int.toNat_natCast, Int.toNat_natCast]
  simp only [enc_fnl, enc_fnb, enc_fnc, enc_refc, enc_arr, enc_int, enc_bool, enc_list, enc_sk, enc_sp, enc_rg, enc_sh, enc_tr, enc_refs, enc_fns, enc_wks]
  refine callP_of_vc (Φ := P24) Try.func78 rfl (by rfl) (by rw [Try.ntmps78]; simp) mixed P24_ok (by simp [AV.strip, AV.strip1, Tk.strip]) ?_
  rw [Try.ntmps78]
  simp only [Try.f78, startSt, tmFrom]
  simp (maxSteps := 4000000) only [go_sem, AV.one, drawV, intsOf, keyIdx, over, putO, memAt, List.map_cons, List.length_cons, ↓reduceIte, zdrop, one_i, one_b, one_sl, one_ptr, one_ref, one_nilp, one_mp, one_fn, one_nilf, getD_mapA hi, getD_mapA hj]
  all_goals (repeat' (first | with_reducible rfl | with_reducible apply And.intro | ((with_reducible show drawOK _ _ = true); rfl))) <;> (try first | omega | (simp only [InR]; omega) | with_reducible assumption)
def P25 : Specs := addSpec 76 (spec4 (fun (a b : Int) (_ : RefC (FnL 74)) (w : RefC WkS) => ShOk w.x.s ∧ idxOk w.x.s a ∧ idxOk w.x.s b) (fun a b _ w => chS w.x.s b - chS w.x.s a)) (addSpec 78 (spec4 (fun (a b : Int) (_ : RefC (FnL 77)) (w : RefC WkS) => ShOk w.x.s ∧ idxOk w.x.s a ∧ idxOk w.x.s b) (fun a b _ w => lkS w.x.s a - lkS w.x.s b)) (P24))
theorem P25_app (g : FuncId) : P25 g = (addSpec 76 (spec4 (fun (a b : Int) (_ : RefC (FnL 74)) (w : RefC WkS) => ShOk w.x.s ∧ idxOk w.x.s a ∧ idxOk w.x.s b) (fun a b _ w => chS w.x.s b - chS w.x.s a)) (addSpec 78 (spec4 (fun (a b : Int) (_ : RefC (FnL 77)) (w : RefC WkS) => ShOk w.x.s ∧ idxOk w.x.s a ∧ idxOk w.x.s b) (fun a b _ w => lkS w.x.s a - lkS w.x.s b)) (P24))) g := rfl
theorem P25_ok : SpecsOk Try.prog P25 := addSpec_ok (spec4_ok heaviest1_call) (addSpec_ok (spec4_ok ordered1_call) (P24_ok))
attribute [go_sem] P25_app
theorem P25_flag (d : Option Nat) : flagOf P25 d = none := (flagOf_add (by decide) d).trans ((flagOf_add (by decide) d).trans (P24_flag d))
attribute [go_sem] P25_flag
end Go.Proofs
namespace Go.Proofs
open Go.Fs
set_option linter.unusedSimpArgs false
set_option linter.unusedVariables false
set_option maxHeartbeats 4000000
set_option maxRecDepth 8000
def mS (w : WkS) (K : Nat) (es : List Int) (st : Nat) : List AObj := [.cells [.ref (wkC w) 0], .vec (es.map EncE.cs) 1 st, .cells [.fn (.func K) [] []]]
theorem at_mid {α : Type} [Inhabited α] (A : List α) (x : α) (B : List α) {j : Nat} (h : A.length = j) : at_ (A ++ x :: B) j = x := by
  subst h; simp [at_, List.getD]
theorem at_take {l : List Int} {i n : Nat} (h : i < n) : at_ (l.take n) i = at_ l i := by
  simp [at_, List.getD, List.getElem?_take, h]
theorem at_set_ne {l : List Int} {i j : Nat} (h : i ≠ j) (v : Int) : at_ (l.set i v) j = at_ l j := by
  simp [at_, List.getD, List.getElem?_set, h]
theorem set_cs (l : List Int) (i : Nat) (v : Int) : (l.map EncE.cs).set i [AV.int .i64 v] = (l.set i v).map EncE.cs := by
  rw [List.map_set]; rfl
theorem swap_mid (P : List Int) (x : Int) (rest : List Int) {j : Nat} (hj : j < P.length) :
    ((P.take (j + 1) ++ x :: P.drop (j + 1) ++ rest).set (j + 1) (at_ P j)).set j x = P.take j ++ x :: P.drop j ++ rest := by
  have e1 := take_succ_at hj
  have e2 := drop_at hj
  rw [e1, e2]
  have hl : (P.take j).length = j := by rw [List.length_take]; omega
  simp only [List.append_assoc, List.cons_append, List.nil_append, List.singleton_append]
  rw [List.set_append_right _ _ (by omega), List.set_append_right _ _ (by omega), hl]
  simp
theorem ins_sorted_at {key : Int → Int} {l : List Int} {i : Nat} (hi : i < l.length) : sortS key (l.take (i + 1)) = insS key (sortS key (l.take i)) (at_ l i) := by
  rw [take_succ_at hi, sortS_snoc]
theorem ins_hv (w : WkS) (hs : ShOk w.s) (l : List Int) (hl : ∀ x ∈ l, idxOk w.s x) (hn : l.length ≤ 8) (st : Nat) :
    CallX Try.prog 102 [.vec 1 st 0 l.length 1, .int .i64 0, .int .i64 l.length, .fn (.func 76) [] [.ptr 2 0, .ptr 0 0]] (mS w 74 l st)
      (fun r m => r = .tup [] ∧ m = mS w 74 (sortS (fun i => -chS w.s i) l) st) := by
  unfold mS
  refine callX_of_vc (Φ := P25) Try.func102 rfl (by rfl) (by rw [Try.ntmps102]; simp) mixed P25_ok ?_
  rw [Try.ntmps102]
  simp only [Try.f102, startSt, tmFrom]
  obtain ⟨key, hkey⟩ : ∃ key : Int → Int, key = (fun i => -chS w.s i) := ⟨_, rfl⟩
  rw [← hkey]
  have hlt : ∀ x y, (key x < key y) = (chS w.s y - chS w.s x < 0) := fun x y => by rw [hkey]; simp only [eq_iff_iff]; omega
  have hw : wkC w = [.sl (w.s.stacks.map EncE.cs) .no, .int .i64 w.s.hands, .int .i64 w.s.rain.lo, .int .i64 w.s.rain.hi, .mpr w.ks (w.vs.map (AV.int .i64))] := rfl
  rw [hw]
  simp (maxSteps := 4000000) only [go_sem, AV.one, drawV, intsOf, keyIdx, over, putO, memAt, List.map_cons, List.length_cons, ↓reduceIte, zdrop, one_i, one_b, one_sl, one_ptr, one_ref, one_nilp, one_mp, one_fn, one_nilf]
  all_goals (repeat' (first | with_reducible rfl | with_reducible apply And.intro | ((with_reducible show drawOK _ _ = true); rfl))) <;> (try first | omega | (simp only [InR]; omega) | with_reducible assumption)
  refine loopN (l.length - 1) [] [0, 1, 2, 3] (fun i => [(8, .int .i64 ((i + 1 : Nat) : Int))]) (fun i m => m.set 1 (.vec ((sortS key (l.take (i + 1)) ++ l.drop (i + 1)).map EncE.cs) 1 st)) (fun _ => True) ?_ ?_ ?_ ?_
  · trivial
  · have e : sortS key (l.take (0 + 1)) ++ l.drop (0 + 1) = l := by
      cases l with
      | nil => rfl
      | cons x r => simp [sortS, insS, insJ]
    simp only [e]
    simp [AV.bare, bel_ints, cs_arr, dep_arr, cs_int, cs_bool, cs_list, cs_sk, cs_sp, AtHead, Same, AllO, Begins, LtAll, headSt, tokz_nil, tokz_cons, tokz1, lk, dep_int, dep_bool, dep_list, dep_sk, dep_sp, memAt, bel_map, bel_mapF, bel_mapO, bel_undef, bel_int, bel_boolv, bel_nilp, bel_nilf, bel_ptr, bel_arr, bel_mp, bel_yld, bel_agg, bel_tup, bel_ref, bel_only, bel_mpr, bel_fn, bel_sl_nil, bel_sl_nilF, bel_sl_nilO, bel_sl_cons, bel_sl_app, belO_cells, belO_tok, belO_dead, belO_deferred, belO_map, belO_iter, belO_loop, bel_vec, bel_vp, belO_vecM, belO_vec, -List.map_map]
  · intro i hi _
    have hi1 : i + 1 < l.length := by omega
    have hi' := Int.ofNat_lt.2 hi1
    have hPl : (sortS key (l.take (i + 1))).length = i + 1 := by rw [sortS_len, List.length_take]; omega
    have hPm : ∀ y ∈ sortS key (l.take (i + 1)), idxOk w.s y := fun y hy => hl _ (List.mem_of_mem_take ((sortS_mem _ _ _).1 hy))
    have hS := ins_sorted_at (key := key) hi1
    have hx := hl _ (at_mem hi1)
    have hdr := drop_at hi1
    obtain ⟨x, hxe⟩ : ∃ x, at_ l (i + 1) = x := ⟨_, rfl⟩
    obtain ⟨P, hP⟩ : ∃ P, sortS key (l.take (i + 1)) = P := ⟨_, rfl⟩
    obtain ⟨rest, hrest⟩ : ∃ rest, l.drop (i + 1 + 1) = rest := ⟨_, rfl⟩
    rw [hxe] at hS hx hdr
    rw [hP] at hPl hPm hS
    rw [hrest] at hdr
    have hlen : l.length = (i + 1) + 1 + rest.length := by rw [← hrest, List.length_drop]; omega
    rw [hP, hdr]
    simp (maxSteps := 4000000) only [go_sem, AV.one, drawV, intsOf, keyIdx, over, putO, memAt, List.map_cons, List.length_cons, ↓reduceIte, zdrop, one_i, one_b, one_sl, one_ptr, one_ref, one_nilp, one_mp, one_fn, one_nilf, hi']
    all_goals (repeat' (first | with_reducible rfl | with_reducible apply And.intro | ((with_reducible show drawOK _ _ = true); rfl))) <;> (try first | omega | (simp only [InR]; omega) | with_reducible assumption)
    refine loopB [] [0, 1, 2, 3, 8, 12, 13, 17] (fun j : Nat => [(9, .int .i64 j)]) (fun j m => m.set 1 (.vec ((P.take j ++ x :: P.drop j ++ rest).map EncE.cs) 1 st)) (fun j => j ≤ i + 1 ∧ insJ key P x j = insS key P x) (fun j => j) (i + 1) ?_ ?_ ?_
    · exact ⟨Nat.le_refl _, by unfold insS; rw [hPl]⟩
    · have e : P.take (i + 1) ++ x :: P.drop (i + 1) ++ rest = P ++ x :: rest := by
        rw [List.take_of_length_le (by omega), List.drop_eq_nil_of_le (by omega)]; simp
      obtain ⟨L, hL⟩ : ∃ L, P ++ x :: rest = L := ⟨_, rfl⟩
      simp only [e, hL]
      simp [AV.bare, bel_ints, cs_arr, dep_arr, cs_int, cs_bool, cs_list, cs_sk, cs_sp, AtHead, Same, AllO, Begins, LtAll, headSt, tokz_nil, tokz_cons, tokz1, lk, dep_int, dep_bool, dep_list, dep_sk, dep_sp, memAt, bel_map, bel_mapF, bel_mapO, bel_undef, bel_int, bel_boolv, bel_nilp, bel_nilf, bel_ptr, bel_arr, bel_mp, bel_yld, bel_agg, bel_tup, bel_ref, bel_only, bel_mpr, bel_fn, bel_sl_nil, bel_sl_nilF, bel_sl_nilO, bel_sl_cons, bel_sl_app, belO_cells, belO_tok, belO_dead, belO_deferred, belO_map, belO_iter, belO_loop, bel_vec, bel_vp, belO_vecM, belO_vec, -List.map_map]
    · rintro j ⟨hj, hI⟩
      cases j with
      | zero =>
        have h01 : ((0 : Int) - 1).toNat = 0 := rfl
        have hg0 : ((P.take 0 ++ x :: P.drop 0 ++ rest).map EncE.cs).getD 0 [] = [AV.int .i64 x] := rfl
        have hfin : P.take 0 ++ x :: P.drop 0 ++ rest = sortS key (l.take (i + 1 + 1)) ++ l.drop (i + 1 + 1) := by rw [hS, ← hI, hrest]; rfl
        obtain ⟨L, hL⟩ : ∃ L, P.take 0 ++ x :: P.drop 0 ++ rest = L := ⟨_, rfl⟩
        rw [hL] at hg0 hfin
        simp only [hL]
        simp (maxSteps := 4000000) only [go_sem, AV.one, drawV, intsOf, keyIdx, over, putO, memAt, List.map_cons, List.length_cons, ↓reduceIte, zdrop, one_i, one_b, one_sl, one_ptr, one_ref, one_nilp, one_mp, one_fn, one_nilf, hg0, h01]
        all_goals (repeat' (first | with_reducible rfl | with_reducible apply And.intro | ((with_reducible show drawOK _ _ = true); rfl))) <;> (try first | omega | (simp only [InR]; omega) | with_reducible assumption)
        refine nxt hi trivial ?_
        rw [← hfin]
        simp [AV.bare, bel_ints, cs_arr, dep_arr, cs_int, cs_bool, cs_list, cs_sk, cs_sp, AtHead, Same, AllO, Begins, LtAll, headSt, tokz_nil, tokz_cons, tokz1, lk, dep_int, dep_bool, dep_list, dep_sk, dep_sp, memAt, bel_map, bel_mapF, bel_mapO, bel_undef, bel_int, bel_boolv, bel_nilp, bel_nilf, bel_ptr, bel_arr, bel_mp, bel_yld, bel_agg, bel_tup, bel_ref, bel_only, bel_mpr, bel_fn, bel_sl_nil, bel_sl_nilF, bel_sl_nilO, bel_sl_cons, bel_sl_app, belO_cells, belO_tok, belO_dead, belO_deferred, belO_map, belO_iter, belO_loop, bel_vec, bel_vp, belO_vecM, belO_vec, -List.map_map]
      | succ j =>
        have hjP : j < P.length := by omega
        have hjl : j + 1 < l.length := by omega
        have hsub : (((j + 1 : Nat) : Int) - 1).toNat = j := by omega
        have hsub2 : ((j + 1 : Nat) : Int) - 1 = (j : Int) := by omega
        have hgt : decide (((j + 1 : Nat) : Int) > 0) = true := by simp
        have hyok := hPm _ (at_mem hjP)
        have hltj := hlt x (at_ P j)
        have hins : insJ key P x (j + 1) = if key x < key (at_ P j) then insJ key P x j else P.take (j + 1) ++ x :: P.drop (j + 1) := rfl
        have hswap := swap_mid P x rest hjP
        have htl : (P.take (j + 1)).length = j + 1 := by rw [List.length_take]; omega
        obtain ⟨L, hL⟩ : ∃ L, P.take (j + 1) ++ x :: P.drop (j + 1) ++ rest = L := ⟨_, rfl⟩
        have hLl : L.length = l.length := by
          rw [← hL]; simp; omega
        have hax : at_ L (j + 1) = x := by
          rw [← hL, List.append_assoc, List.cons_append]; exact at_mid _ _ _ htl
        have hay : at_ L j = at_ P j := by
          rw [← hL, List.append_assoc, at_append_left (by omega), at_take (by omega)]
        obtain ⟨y, hy⟩ : ∃ y, at_ P j = y := ⟨_, rfl⟩
        rw [hy] at hyok hltj hins hswap hay
        rw [hL] at hswap
        have hgx : (L.map EncE.cs).getD (j + 1) [] = [AV.int .i64 x] := by rw [getD_mapA (by omega), hax]; rfl
        have hgy : (L.map EncE.cs).getD j [] = [AV.int .i64 y] := by rw [getD_mapA (by omega), hay]; rfl
        have hgy2 : ∀ v, ((L.set (j + 1) v).map EncE.cs).getD j [] = [AV.int .i64 y] := fun v => by
          rw [getD_mapA (by simp; omega), at_set_ne (by omega), hay]; rfl
        simp only [hL]
        cases c : decide (chS w.s y - chS w.s x < 0)
        · have c' : ¬ key x < key y := by rw [hltj]; simpa using c
          rw [if_neg c'] at hins
          have hfin : L = sortS key (l.take (i + 1 + 1)) ++ l.drop (i + 1 + 1) := by rw [hS, ← hI, hins, hrest, hL]
          simp (maxSteps := 4000000) only [go_sem, AV.one, drawV, intsOf, keyIdx, over, putO, memAt, List.map_cons, List.length_cons, ↓reduceIte, zdrop, one_i, one_b, one_sl, one_ptr, one_ref, one_nilp, one_mp, one_fn, one_nilf, hgx, hgy, hsub, hsub2, hgt, c]
          all_goals (repeat' (first | with_reducible rfl | with_reducible apply And.intro | ((with_reducible show drawOK _ _ = true); rfl))) <;> (try first | omega | (simp only [InR]; omega) | with_reducible assumption)
          refine nxt hi trivial ?_
          rw [← hfin]
          simp [AV.bare, bel_ints, cs_arr, dep_arr, cs_int, cs_bool, cs_list, cs_sk, cs_sp, AtHead, Same, AllO, Begins, LtAll, headSt, tokz_nil, tokz_cons, tokz1, lk, dep_int, dep_bool, dep_list, dep_sk, dep_sp, memAt, bel_map, bel_mapF, bel_mapO, bel_undef, bel_int, bel_boolv, bel_nilp, bel_nilf, bel_ptr, bel_arr, bel_mp, bel_yld, bel_agg, bel_tup, bel_ref, bel_only, bel_mpr, bel_fn, bel_sl_nil, bel_sl_nilF, bel_sl_nilO, bel_sl_cons, bel_sl_app, belO_cells, belO_tok, belO_dead, belO_deferred, belO_map, belO_iter, belO_loop, bel_vec, bel_vp, belO_vecM, belO_vec, -List.map_map]
        · have c' : key x < key y := by rw [hltj]; simpa using c
          rw [if_pos c'] at hins
          simp (maxSteps := 4000000) only [go_sem, AV.one, drawV, intsOf, keyIdx, over, putO, memAt, List.map_cons, List.length_cons, ↓reduceIte, zdrop, one_i, one_b, one_sl, one_ptr, one_ref, one_nilp, one_mp, one_fn, one_nilf, hgx, hgy, hgy2, set_cs, hsub, hsub2, hgt, c, hLl, List.length_set]
          all_goals (repeat' (first | with_reducible rfl | with_reducible apply And.intro | ((with_reducible show drawOK _ _ = true); rfl))) <;> (try first | omega | (simp only [InR]; omega) | with_reducible assumption)
          refine ⟨j, ⟨by omega, by rw [← hins]; exact hI⟩, by omega, atHead_weak ?_⟩
          rw [hswap]
          obtain ⟨L2, hL2⟩ : ∃ L2, P.take j ++ x :: P.drop j ++ rest = L2 := ⟨_, rfl⟩
          simp only [hL2, hsub2]
          simp [AV.bare, bel_ints, cs_arr, dep_arr, cs_int, cs_bool, cs_list, cs_sk, cs_sp, AtHead, Same, AllO, Begins, LtAll, headSt, tokz_nil, tokz_cons, tokz1, lk, dep_int, dep_bool, dep_list, dep_sk, dep_sp, memAt, bel_map, bel_mapF, bel_mapO, bel_undef, bel_int, bel_boolv, bel_nilp, bel_nilf, bel_ptr, bel_arr, bel_mp, bel_yld, bel_agg, bel_tup, bel_ref, bel_only, bel_mpr, bel_fn, bel_sl_nil, bel_sl_nilF, bel_sl_nilO, bel_sl_cons, bel_sl_app, belO_cells, belO_tok, belO_dead, belO_deferred, belO_map, belO_iter, belO_loop, bel_vec, bel_vp, belO_vecM, belO_vec, -List.map_map]
  · intro _
    have hn' : ¬ (((l.length - 1 + 1 : Nat) : Int) < (l.length : Int)) := by omega
    have hfin : sortS key (l.take (l.length - 1 + 1)) ++ l.drop (l.length - 1 + 1) = sortS key l := by
      rw [List.take_of_length_le (by omega), List.drop_eq_nil_of_le (by omega), List.append_nil]
    simp only [hfin]
    simp (maxSteps := 4000000) only [go_sem, AV.one, drawV, intsOf, keyIdx, over, putO, memAt, List.map_cons, List.length_cons, ↓reduceIte, zdrop, one_i, one_b, one_sl, one_ptr, one_ref, one_nilp, one_mp, one_fn, one_nilf, hn']
    all_goals (repeat' (first | with_reducible rfl | with_reducible apply And.intro | ((with_reducible show drawOK _ _ = true); rfl))) <;> (try first | omega | (simp only [InR]; omega) | with_reducible assumption)
    refine ⟨3, Nat.le_refl _, Nat.le_refl _, ?_⟩
    simp [AV.bare, bel_ints, cs_arr, dep_arr, cs_int, cs_bool, cs_list, cs_sk, cs_sp, AtHead, Same, AllO, Begins, LtAll, headSt, tokz_nil, tokz_cons, tokz1, lk, dep_int, dep_bool, dep_list, dep_sk, dep_sp, memAt, bel_map, bel_mapF, bel_mapO, bel_undef, bel_int, bel_boolv, bel_nilp, bel_nilf, bel_ptr, bel_arr, bel_mp, bel_yld, bel_agg, bel_tup, bel_ref, bel_only, bel_mpr, bel_fn, bel_sl_nil, bel_sl_nilF, bel_sl_nilO, bel_sl_cons, bel_sl_app, belO_cells, belO_tok, belO_dead, belO_deferred, belO_map, belO_iter, belO_loop, bel_vec, bel_vp, belO_vecM, belO_vec, -List.map_map]
theorem ins_od (w : WkS) (hs : ShOk w.s) (l : List Int) (hl : ∀ x ∈ l, idxOk w.s x) (hn : l.length ≤ 8) (st : Nat) :
    CallX Try.prog 102 [.vec 1 st 0 l.length 1, .int .i64 0, .int .i64 l.length, .fn (.func 78) [] [.ptr 2 0, .ptr 0 0]] (mS w 77 l st)
      (fun r m => r = .tup [] ∧ m = mS w 77 (sortS (spS w.s) l) st) := by
  unfold mS
  refine callX_of_vc (Φ := P25) Try.func102 rfl (by rfl) (by rw [Try.ntmps102]; simp) mixed P25_ok ?_
  rw [Try.ntmps102]
  simp only [Try.f102, startSt, tmFrom]
  obtain ⟨key, hkey⟩ : ∃ key : Int → Int, key = (spS w.s) := ⟨_, rfl⟩
  rw [← hkey]
  have hlt : ∀ x y, (key x < key y) = (lkS w.s x - lkS w.s y < 0) := fun x y => by rw [hkey]; simp only [eq_iff_iff, spS, lkS]; omega
  have hw : wkC w = [.sl (w.s.stacks.map EncE.cs) .no, .int .i64 w.s.hands, .int .i64 w.s.rain.lo, .int .i64 w.s.rain.hi, .mpr w.ks (w.vs.map (AV.int .i64))] := rfl
  rw [hw]
  simp (maxSteps := 4000000) only [go_sem, AV.one, drawV, intsOf, keyIdx, over, putO, memAt, List.map_cons, List.length_cons, ↓reduceIte, zdrop, one_i, one_b, one_sl, one_ptr, one_ref, one_nilp, one_mp, one_fn, one_nilf]
  all_goals (repeat' (first | with_reducible rfl | with_reducible apply And.intro | ((with_reducible show drawOK _ _ = true); rfl))) <;> (try first | omega | (simp only [InR]; omega) | with_reducible assumption)
  refine loopN (l.length - 1) [] [0, 1, 2, 3] (fun i => [(8, .int .i64 ((i + 1 : Nat) : Int))]) (fun i m => m.set 1 (.vec ((sortS key (l.take (i + 1)) ++ l.drop (i + 1)).map EncE.cs) 1 st)) (fun _ => True) ?_ ?_ ?_ ?_
  · trivial
  · have e : sortS key (l.take (0 + 1)) ++ l.drop (0 + 1) = l := by
      cases l with
      | nil => rfl
      | cons x r => simp [sortS, insS, insJ]
    simp only [e]
    simp [AV.bare, bel_ints, cs_arr, dep_arr, cs_int, cs_bool, cs_list, cs_sk, cs_sp, AtHead, Same, AllO, Begins, LtAll, headSt, tokz_nil, tokz_cons, tokz1, lk, dep_int, dep_bool, dep_list, dep_sk, dep_sp, memAt, bel_map, bel_mapF, bel_mapO, bel_undef, bel_int, bel_boolv, bel_nilp, bel_nilf, bel_ptr, bel_arr, bel_mp, bel_yld, bel_agg, bel_tup, bel_ref, bel_only, bel_mpr, bel_fn, bel_sl_nil, bel_sl_nilF, bel_sl_nilO, bel_sl_cons, bel_sl_app, belO_cells, belO_tok, belO_dead, belO_deferred, belO_map, belO_iter, belO_loop, bel_vec, bel_vp, belO_vecM, belO_vec, -List.map_map]
  · intro i hi _
    have hi1 : i + 1 < l.length := by omega
    have hi' := Int.ofNat_lt.2 hi1
    have hPl : (sortS key (l.take (i + 1))).length = i + 1 := by rw [sortS_len, List.length_take]; omega
    have hPm : ∀ y ∈ sortS key (l.take (i + 1)), idxOk w.s y := fun y hy => hl _ (List.mem_of_mem_take ((sortS_mem _ _ _).1 hy))
    have hS := ins_sorted_at (key := key) hi1
    have hx := hl _ (at_mem hi1)
    have hdr := drop_at hi1
    obtain ⟨x, hxe⟩ : ∃ x, at_ l (i + 1) = x := ⟨_, rfl⟩
    obtain ⟨P, hP⟩ : ∃ P, sortS key (l.take (i + 1)) = P := ⟨_, rfl⟩
    obtain ⟨rest, hrest⟩ : ∃ rest, l.drop (i + 1 + 1) = rest := ⟨_, rfl⟩
    rw [hxe] at hS hx hdr
    rw [hP] at hPl hPm hS
    rw [hrest] at hdr
    have hlen : l.length = (i + 1) + 1 + rest.length := by rw [← hrest, List.length_drop]; omega
    rw [hP, hdr]
    simp (maxSteps := 4000000) only [go_sem, AV.one, drawV, intsOf, keyIdx, over, putO, memAt, List.map_cons, List.length_cons, ↓reduceIte, zdrop, one_i, one_b, one_sl, one_ptr, one_ref, one_nilp, one_mp, one_fn, one_nilf, hi']
    all_goals (repeat' (first | with_reducible rfl | with_reducible apply And.intro | ((with_reducible show drawOK _ _ = true); rfl))) <;> (try first | omega | (simp only [InR]; omega) | with_reducible assumption)
    refine loopB [] [0, 1, 2, 3, 8, 12, 13, 17] (fun j : Nat => [(9, .int .i64 j)]) (fun j m => m.set 1 (.vec ((P.take j ++ x :: P.drop j ++ rest).map EncE.cs) 1 st)) (fun j => j ≤ i + 1 ∧ insJ key P x j = insS key P x) (fun j => j) (i + 1) ?_ ?_ ?_
    · exact ⟨Nat.le_refl _, by unfold insS; rw [hPl]⟩
    · have e : P.take (i + 1) ++ x :: P.drop (i + 1) ++ rest = P ++ x :: rest := by
        rw [List.take_of_length_le (by omega), List.drop_eq_nil_of_le (by omega)]; simp
      obtain ⟨L, hL⟩ : ∃ L, P ++ x :: rest = L := ⟨_, rfl⟩
      simp only [e, hL]
      simp [AV.bare, bel_ints, cs_arr, dep_arr, cs_int, cs_bool, cs_list, cs_sk, cs_sp, AtHead, Same, AllO, Begins, LtAll, headSt, tokz_nil, tokz_cons, tokz1, lk, dep_int, dep_bool, dep_list, dep_sk, dep_sp, memAt, bel_map, bel_mapF, bel_mapO, bel_undef, bel_int, bel_boolv, bel_nilp, bel_nilf, bel_ptr, bel_arr, bel_mp, bel_yld, bel_agg, bel_tup, bel_ref, bel_only, bel_mpr, bel_fn, bel_sl_nil, bel_sl_nilF, bel_sl_nilO, bel_sl_cons, bel_sl_app, belO_cells, belO_tok, belO_dead, belO_deferred, belO_map, belO_iter, belO_loop, bel_vec, bel_vp, belO_vecM, belO_vec, -List.map_map]
    · rintro j ⟨hj, hI⟩
      cases j with
      | zero =>
        have h01 : ((0 : Int) - 1).toNat = 0 := rfl
        have hg0 : ((P.take 0 ++ x :: P.drop 0 ++ rest).map EncE.cs).getD 0 [] = [AV.int .i64 x] := rfl
        have hfin : P.take 0 ++ x :: P.drop 0 ++ rest = sortS key (l.take (i + 1 + 1)) ++ l.drop (i + 1 + 1) := by rw [hS, ← hI, hrest]; rfl
        obtain ⟨L, hL⟩ : ∃ L, P.take 0 ++ x :: P.drop 0 ++ rest = L := ⟨_, rfl⟩
        rw [hL] at hg0 hfin
        simp only [hL]
        simp (maxSteps := 4000000) only [go_sem, AV.one, drawV, intsOf, keyIdx, over, putO, memAt, List.map_cons, List.length_cons, ↓reduceIte, zdrop, one_i, one_b, one_sl, one_ptr, one_ref, one_nilp, one_mp, one_fn, one_nilf, hg0, h01]
        all_goals (repeat' (first | with_reducible rfl | with_reducible apply And.intro | ((with_reducible show drawOK _ _ = true); rfl))) <;> (try first | omega | (simp only [InR]; omega) | with_reducible assumption)
        refine nxt hi trivial ?_
        rw [← hfin]
        simp [AV.bare, bel_ints, cs_arr, dep_arr, cs_int, cs_bool, cs_list, cs_sk, cs_sp, AtHead, Same, AllO, Begins, LtAll, headSt, tokz_nil, tokz_cons, tokz1, lk, dep_int, dep_bool, dep_list, dep_sk, dep_sp, memAt, bel_map, bel_mapF, bel_mapO, bel_undef, bel_int, bel_boolv, bel_nilp, bel_nilf, bel_ptr, bel_arr, bel_mp, bel_yld, bel_agg, bel_tup, bel_ref, bel_only, bel_mpr, bel_fn, bel_sl_nil, bel_sl_nilF, bel_sl_nilO, bel_sl_cons, bel_sl_app, belO_cells, belO_tok, belO_dead, belO_deferred, belO_map, belO_iter, belO_loop, bel_vec, bel_vp, belO_vecM, belO_vec, -List.map_map]
      | succ j =>
        have hjP : j < P.length := by omega
        have hjl : j + 1 < l.length := by omega
        have hsub : (((j + 1 : Nat) : Int) - 1).toNat = j := by omega
        have hsub2 : ((j + 1 : Nat) : Int) - 1 = (j : Int) := by omega
        have hgt : decide (((j + 1 : Nat) : Int) > 0) = true := by simp
        have hyok := hPm _ (at_mem hjP)
        have hltj := hlt x (at_ P j)
        have hins : insJ key P x (j + 1) = if key x < key (at_ P j) then insJ key P x j else P.take (j + 1) ++ x :: P.drop (j + 1) := rfl
        have hswap := swap_mid P x rest hjP
        have htl : (P.take (j + 1)).length = j + 1 := by rw [List.length_take]; omega
        obtain ⟨L, hL⟩ : ∃ L, P.take (j + 1) ++ x :: P.drop (j + 1) ++ rest = L := ⟨_, rfl⟩
        have hLl : L.length = l.length := by
          rw [← hL]; simp; omega
        have hax : at_ L (j + 1) = x := by
          rw [← hL, List.append_assoc, List.cons_append]; exact at_mid _ _ _ htl
        have hay : at_ L j = at_ P j := by
          rw [← hL, List.append_assoc, at_append_left (by omega), at_take (by omega)]
        obtain ⟨y, hy⟩ : ∃ y, at_ P j = y := ⟨_, rfl⟩
        rw [hy] at hyok hltj hins hswap hay
        rw [hL] at hswap
        have hgx : (L.map EncE.cs).getD (j + 1) [] = [AV.int .i64 x] := by rw [getD_mapA (by omega), hax]; rfl
        have hgy : (L.map EncE.cs).getD j [] = [AV.int .i64 y] := by rw [getD_mapA (by omega), hay]; rfl
        have hgy2 : ∀ v, ((L.set (j + 1) v).map EncE.cs).getD j [] = [AV.int .i64 y] := fun v => by
          rw [getD_mapA (by simp; omega), at_set_ne (by omega), hay]; rfl
        simp only [hL]
        cases c : decide (lkS w.s x - lkS w.s y < 0)
        · have c' : ¬ key x < key y := by rw [hltj]; simpa using c
          rw [if_neg c'] at hins
          have hfin : L = sortS key (l.take (i + 1 + 1)) ++ l.drop (i + 1 + 1) := by rw [hS, ← hI, hins, hrest, hL]
          simp (maxSteps := 4000000) only [go_sem, AV.one, drawV, intsOf, keyIdx, over, putO, memAt, List.map_cons, List.length_cons, ↓reduceIte, zdrop, one_i, one_b, one_sl, one_ptr, one_ref, one_nilp, one_mp, one_fn, one_nilf, hgx, hgy, hsub, hsub2, hgt, c]
          all_goals (repeat' (first | with_reducible rfl | with_reducible apply And.intro | ((with_reducible show drawOK _ _ = true); rfl))) <;> (try first | omega | (simp only [InR]; omega) | with_reducible assumption)
          refine nxt hi trivial ?_
          rw [← hfin]
          simp [AV.bare, bel_ints, cs_arr, dep_arr, cs_int, cs_bool, cs_list, cs_sk, cs_sp, AtHead, Same, AllO, Begins, LtAll, headSt, tokz_nil, tokz_cons, tokz1, lk, dep_int, dep_bool, dep_list, dep_sk, dep_sp, memAt, bel_map, bel_mapF, bel_mapO, bel_undef, bel_int, bel_boolv, bel_nilp, bel_nilf, bel_ptr, bel_arr, bel_mp, bel_yld, bel_agg, bel_tup, bel_ref, bel_only, bel_mpr, bel_fn, bel_sl_nil, bel_sl_nilF, bel_sl_nilO, bel_sl_cons, bel_sl_app, belO_cells, belO_tok, belO_dead, belO_deferred, belO_map, belO_iter, belO_loop, bel_vec, bel_vp, belO_vecM, belO_vec, -List.map_map]
        · have c' : key x < key y := by rw [hltj]; simpa using c
          rw [if_pos c'] at hins
          simp (maxSteps := 4000000) only [go_sem, AV.one, drawV, intsOf, keyIdx, over, putO, memAt, List.map_cons, List.length_cons, ↓reduceIte, zdrop, one_i, one_b, one_sl, one_ptr, one_ref, one_nilp, one_mp, one_fn, one_nilf, hgx, hgy, hgy2, set_cs, hsub, hsub2, hgt, c, hLl, List.length_set]
          all_goals (repeat' (first | with_reducible rfl | with_reducible apply And.intro | ((with_reducible show drawOK _ _ = true); rfl))) <;> (try first | omega | (simp only [InR]; omega) | with_reducible assumption)
          refine ⟨j, ⟨by omega, by rw [← hins]; exact hI⟩, by omega, atHead_weak ?_⟩
          rw [hswap]
          obtain ⟨L2, hL2⟩ : ∃ L2, P.take j ++ x :: P.drop j ++ rest = L2 := ⟨_, rfl⟩
          simp only [hL2, hsub2]
          simp [AV.bare, bel_ints, cs_arr, dep_arr, cs_int, cs_bool, cs_list, cs_sk, cs_sp, AtHead, Same, AllO, Begins, LtAll, headSt, tokz_nil, tokz_cons, tokz1, lk, dep_int, dep_bool, dep_list, dep_sk, dep_sp, memAt, bel_map, bel_mapF, bel_mapO, bel_undef, bel_int, bel_boolv, bel_nilp, bel_nilf, bel_ptr, bel_arr, bel_mp, bel_yld, bel_agg, bel_tup, bel_ref, bel_only, bel_mpr, bel_fn, bel_sl_nil, bel_sl_nilF, bel_sl_nilO, bel_sl_cons, bel_sl_app, belO_cells, belO_tok, belO_dead, belO_deferred, belO_map, belO_iter, belO_loop, bel_vec, bel_vp, belO_vecM, belO_vec, -List.map_map]
  · intro _
    have hn' : ¬ (((l.length - 1 + 1 : Nat) : Int) < (l.length : Int)) := by omega
    have hfin : sortS key (l.take (l.length - 1 + 1)) ++ l.drop (l.length - 1 + 1) = sortS key l := by
      rw [List.take_of_length_le (by omega), List.drop_eq_nil_of_le (by omega), List.append_nil]
    simp only [hfin]
    simp (maxSteps := 4000000) only [go_sem, AV.one, drawV, intsOf, keyIdx, over, putO, memAt, List.map_cons, List.length_cons, ↓reduceIte, zdrop, one_i, one_b, one_sl, one_ptr, one_ref, one_nilp, one_mp, one_fn, one_nilf, hn']
    all_goals (repeat' (first | with_reducible rfl | with_reducible apply And.intro | ((with_reducible show drawOK _ _ = true); rfl))) <;> (try first | omega | (simp only [InR]; omega) | with_reducible assumption)
    refine ⟨3, Nat.le_refl _, Nat.le_refl _, ?_⟩
    simp [AV.bare, bel_ints, cs_arr, dep_arr, cs_int, cs_bool, cs_list, cs_sk, cs_sp, AtHead, Same, AllO, Begins, LtAll, headSt, tokz_nil, tokz_cons, tokz1, lk, dep_int, dep_bool, dep_list, dep_sk, dep_sp, memAt, bel_map, bel_mapF, bel_mapO, bel_undef, bel_int, bel_boolv, bel_nilp, bel_nilf, bel_ptr, bel_arr, bel_mp, bel_yld, bel_agg, bel_tup, bel_ref, bel_only, bel_mpr, bel_fn, bel_sl_nil, bel_sl_nilF, bel_sl_nilO, bel_sl_cons, bel_sl_app, belO_cells, belO_tok, belO_dead, belO_deferred, belO_map, belO_iter, belO_loop, bel_vec, bel_vp, belO_vecM, belO_vec, -List.map_map]
end Go.Proofs
namespace Go.Proofs
open Go.Fs
set_option linter.unusedSimpArgs false
set_option linter.unusedVariables false
set_option maxHeartbeats 4000000
set_option maxRecDepth 8000
theorem stable_hv (w : WkS) (hs : ShOk w.s) (l : List Int) (hl : ∀ x ∈ l, idxOk w.s x) (hn : l.length ≤ 8) (st : Nat) :
    CallX Try.prog 94 [.vec 1 st 0 l.length 1, .int .i64 l.length, .fn (.func 76) [] [.ptr 2 0, .ptr 0 0]] (mS w 74 l st)
      (fun r m => r = .tup [] ∧ m = mS w 74 (sortS (fun i => -chS w.s i) l) st) := by
  have hc := ins_hv w hs l hl hn st
  have hw : wkC w = [.sl (w.s.stacks.map EncE.cs) .no, .int .i64 w.s.hands, .int .i64 w.s.rain.lo, .int .i64 w.s.rain.hi, .mpr w.ks (w.vs.map (AV.int .i64))] := rfl
  have hm : ∀ es st, mS w 74 es st = [.cells [.ref (wkC w) 0], .vec (es.map EncE.cs) 1 st, .cells [.fn (.func 74) [] []]] := fun _ _ => rfl
  obtain ⟨S, hS⟩ : ∃ S, sortS (fun i => -chS w.s i) l = S := ⟨_, rfl⟩
  rw [hS] at hc ⊢
  simp only [hm, hw] at hc ⊢
  refine callX_of_vc (Φ := P25) Try.func94 rfl (by rfl) (by rw [Try.ntmps94]; simp) mixed P25_ok ?_
  rw [Try.ntmps94]
  simp only [Try.f94, startSt, tmFrom]
  have n1 : ¬ ((20 : Int) ≤ (l.length : Int)) := by omega
  have n2 : ¬ ((20 : Int) < (l.length : Int)) := by omega
  simp (maxSteps := 4000000) only [go_sem, AV.one, drawV, intsOf, keyIdx, over, putO, memAt, List.map_cons, List.length_cons, ↓reduceIte, zdrop, one_i, one_b, one_sl, one_ptr, one_ref, one_nilp, one_mp, one_fn, one_nilf, n1, n2]
  all_goals (repeat' (first | with_reducible rfl | with_reducible apply And.intro | ((with_reducible show drawOK _ _ = true); rfl))) <;> (try first | omega | (simp only [InR]; omega) | with_reducible assumption)
  refine loopN (0) [] [0, 1, 2, 6] (fun _ => [(7, .int .i64 0), (8, .int .i64 20)]) (fun _ m => m) (fun _ => True) ?_ ?_ ?_ ?_
  · trivial
  · simp [AV.bare, bel_ints, cs_arr, dep_arr, cs_int, cs_bool, cs_list, cs_sk, cs_sp, AtHead, Same, AllO, Begins, LtAll, headSt, tokz_nil, tokz_cons, tokz1, lk, dep_int, dep_bool, dep_list, dep_sk, dep_sp, memAt, bel_map, bel_mapF, bel_mapO, bel_undef, bel_int, bel_boolv, bel_nilp, bel_nilf, bel_ptr, bel_arr, bel_mp, bel_yld, bel_agg, bel_tup, bel_ref, bel_only, bel_mpr, bel_fn, bel_sl_nil, bel_sl_nilF, bel_sl_nilO, bel_sl_cons, bel_sl_app, belO_cells, belO_tok, belO_dead, belO_deferred, belO_map, belO_iter, belO_loop, bel_vec, bel_vp, belO_vecM, belO_vec, -List.map_map]
  · intro i hi _
    omega
  · intro _
    simp (maxSteps := 4000000) only [go_sem, AV.one, drawV, intsOf, keyIdx, over, putO, memAt, List.map_cons, List.length_cons, ↓reduceIte, zdrop, one_i, one_b, one_sl, one_ptr, one_ref, one_nilp, one_mp, one_fn, one_nilf, n1, n2]
    all_goals (repeat' (first | with_reducible rfl | with_reducible apply And.intro | ((with_reducible show drawOK _ _ = true); rfl))) <;> (try first | omega | (simp only [InR]; omega) | with_reducible assumption)
    refine ⟨_, hc, ?_⟩
    rintro r mem' ⟨rfl, rfl⟩ _
    refine loopN (0) [] [0, 1, 2, 7, 8] (fun _ => [(6, .int .i64 20)]) (fun _ m => m) (fun _ => True) ?_ ?_ ?_ ?_
    · trivial
    · simp [AV.bare, bel_ints, cs_arr, dep_arr, cs_int, cs_bool, cs_list, cs_sk, cs_sp, AtHead, Same, AllO, Begins, LtAll, headSt, tokz_nil, tokz_cons, tokz1, lk, dep_int, dep_bool, dep_list, dep_sk, dep_sp, memAt, bel_map, bel_mapF, bel_mapO, bel_undef, bel_int, bel_boolv, bel_nilp, bel_nilf, bel_ptr, bel_arr, bel_mp, bel_yld, bel_agg, bel_tup, bel_ref, bel_only, bel_mpr, bel_fn, bel_sl_nil, bel_sl_nilF, bel_sl_nilO, bel_sl_cons, bel_sl_app, belO_cells, belO_tok, belO_dead, belO_deferred, belO_map, belO_iter, belO_loop, bel_vec, bel_vp, belO_vecM, belO_vec, -List.map_map]
    · intro i hi _
      omega
    · intro _
      simp (maxSteps := 4000000) only [go_sem, AV.one, drawV, intsOf, keyIdx, over, putO, memAt, List.map_cons, List.length_cons, ↓reduceIte, zdrop, one_i, one_b, one_sl, one_ptr, one_ref, one_nilp, one_mp, one_fn, one_nilf, n1, n2]
      all_goals (repeat' (first | with_reducible rfl | with_reducible apply And.intro | ((with_reducible show drawOK _ _ = true); rfl))) <;> (try first | omega | (simp only [InR]; omega) | with_reducible assumption)
      refine ⟨3, Nat.le_refl _, Nat.le_refl _, ?_⟩
      simp [AV.bare, bel_ints, cs_arr, dep_arr, cs_int, cs_bool, cs_list, cs_sk, cs_sp, AtHead, Same, AllO, Begins, LtAll, headSt, tokz_nil, tokz_cons, tokz1, lk, dep_int, dep_bool, dep_list, dep_sk, dep_sp, memAt, bel_map, bel_mapF, bel_mapO, bel_undef, bel_int, bel_boolv, bel_nilp, bel_nilf, bel_ptr, bel_arr, bel_mp, bel_yld, bel_agg, bel_tup, bel_ref, bel_only, bel_mpr, bel_fn, bel_sl_nil, bel_sl_nilF, bel_sl_nilO, bel_sl_cons, bel_sl_app, belO_cells, belO_tok, belO_dead, belO_deferred, belO_map, belO_iter, belO_loop, bel_vec, bel_vp, belO_vecM, belO_vec, -List.map_map]
theorem sortStable_hv (w : WkS) (hs : ShOk w.s) (l : List Int) (hl : ∀ x ∈ l, idxOk w.s x) (hn : l.length ≤ 8) (st : Nat) :
    CallX Try.prog 75 [.vec 1 st 0 l.length 1, .fn (.func 76) [] [.ptr 2 0, .ptr 0 0]] (mS w 74 l st)
      (fun r m => r = .tup [] ∧ m = mS w 74 (sortS (fun i => -chS w.s i) l) st) := by
  have hc := stable_hv w hs l hl hn st
  have hw : wkC w = [.sl (w.s.stacks.map EncE.cs) .no, .int .i64 w.s.hands, .int .i64 w.s.rain.lo, .int .i64 w.s.rain.hi, .mpr w.ks (w.vs.map (AV.int .i64))] := rfl
  have hm : ∀ es st, mS w 74 es st = [.cells [.ref (wkC w) 0], .vec (es.map EncE.cs) 1 st, .cells [.fn (.func 74) [] []]] := fun _ _ => rfl
  obtain ⟨S, hS⟩ : ∃ S, sortS (fun i => -chS w.s i) l = S := ⟨_, rfl⟩
  rw [hS] at hc ⊢
  simp only [hm, hw] at hc ⊢
  refine callX_of_vc (Φ := P25) Try.func75 rfl (by rfl) (by rw [Try.ntmps75]; simp) mixed P25_ok ?_
  rw [Try.ntmps75]
  simp only [Try.f75, startSt, tmFrom]
  simp (maxSteps := 4000000) only [go_sem, AV.one, drawV, intsOf, keyIdx, over, putO, memAt, List.map_cons, List.length_cons, ↓reduceIte, zdrop, one_i, one_b, one_sl, one_ptr, one_ref, one_nilp, one_mp, one_fn, one_nilf]
  all_goals (repeat' (first | with_reducible rfl | with_reducible apply And.intro | ((with_reducible show drawOK _ _ = true); rfl))) <;> (try first | omega | (simp only [InR]; omega) | with_reducible assumption)
  refine ⟨_, hc, ?_⟩
  rintro r mem' ⟨rfl, rfl⟩ _
  simp (maxSteps := 4000000) only [go_sem, AV.one, drawV, intsOf, keyIdx, over, putO, memAt, List.map_cons, List.length_cons, ↓reduceIte, zdrop, one_i, one_b, one_sl, one_ptr, one_ref, one_nilp, one_mp, one_fn, one_nilf]
  all_goals (repeat' (first | with_reducible rfl | with_reducible apply And.intro | ((with_reducible show drawOK _ _ = true); rfl))) <;> (try first | omega | (simp only [InR]; omega) | with_reducible assumption)
  refine ⟨3, Nat.le_refl _, Nat.le_refl _, ?_⟩
  simp [AV.bare, bel_ints, cs_arr, dep_arr, cs_int, cs_bool, cs_list, cs_sk, cs_sp, AtHead, Same, AllO, Begins, LtAll, headSt, tokz_nil, tokz_cons, tokz1, lk, dep_int, dep_bool, dep_list, dep_sk, dep_sp, memAt, bel_map, bel_mapF, bel_mapO, bel_undef, bel_int, bel_boolv, bel_nilp, bel_nilf, bel_ptr, bel_arr, bel_mp, bel_yld, bel_agg, bel_tup, bel_ref, bel_only, bel_mpr, bel_fn, bel_sl_nil, bel_sl_nilF, bel_sl_nilO, bel_sl_cons, bel_sl_app, belO_cells, belO_tok, belO_dead, belO_deferred, belO_map, belO_iter, belO_loop, bel_vec, bel_vp, belO_vecM, belO_vec, -List.map_map]
theorem stable_od (w : WkS) (hs : ShOk w.s) (l : List Int) (hl : ∀ x ∈ l, idxOk w.s x) (hn : l.length ≤ 8) (st : Nat) :
    CallX Try.prog 94 [.vec 1 st 0 l.length 1, .int .i64 l.length, .fn (.func 78) [] [.ptr 2 0, .ptr 0 0]] (mS w 77 l st)
      (fun r m => r = .tup [] ∧ m = mS w 77 (sortS (spS w.s) l) st) := by
  have hc := ins_od w hs l hl hn st
  have hw : wkC w = [.sl (w.s.stacks.map EncE.cs) .no, .int .i64 w.s.hands, .int .i64 w.s.rain.lo, .int .i64 w.s.rain.hi, .mpr w.ks (w.vs.map (AV.int .i64))] := rfl
  have hm : ∀ es st, mS w 77 es st = [.cells [.ref (wkC w) 0], .vec (es.map EncE.cs) 1 st, .cells [.fn (.func 77) [] []]] := fun _ _ => rfl
  obtain ⟨S, hS⟩ : ∃ S, sortS (spS w.s) l = S := ⟨_, rfl⟩
  rw [hS] at hc ⊢
  simp only [hm, hw] at hc ⊢
  refine callX_of_vc (Φ := P25) Try.func94 rfl (by rfl) (by rw [Try.ntmps94]; simp) mixed P25_ok ?_
  rw [Try.ntmps94]
  simp only [Try.f94, startSt, tmFrom]
  have n1 : ¬ ((20 : Int) ≤ (l.length : Int)) := by omega
  have n2 : ¬ ((20 : Int) < (l.length : Int)) := by omega
  simp (maxSteps := 4000000) only [go_sem, AV.one, drawV, intsOf, keyIdx, over, putO, memAt, List.map_cons, List.length_cons, ↓reduceIte, zdrop, one_i, one_b, one_sl, one_ptr, one_ref, one_nilp, one_mp, one_fn, one_nilf, n1, n2]
  all_goals (repeat' (first | with_reducible rfl | with_reducible apply And.intro | ((with_reducible show drawOK _ _ = true); rfl))) <;> (try first | omega | (simp only [InR]; omega) | with_reducible assumption)
  refine loopN (0) [] [0, 1, 2, 6] (fun _ => [(7, .int .i64 0), (8, .int .i64 20)]) (fun _ m => m) (fun _ => True) ?_ ?_ ?_ ?_
  · trivial
  · simp [AV.bare, bel_ints, cs_arr, dep_arr, cs_int, cs_bool, cs_list, cs_sk, cs_sp, AtHead, Same, AllO, Begins, LtAll, headSt, tokz_nil, tokz_cons, tokz1, lk, dep_int, dep_bool, dep_list, dep_sk, dep_sp, memAt, bel_map, bel_mapF, bel_mapO, bel_undef, bel_int, bel_boolv, bel_nilp, bel_nilf, bel_ptr, bel_arr, bel_mp, bel_yld, bel_agg, bel_tup, bel_ref, bel_only, bel_mpr, bel_fn, bel_sl_nil, bel_sl_nilF, bel_sl_nilO, bel_sl_cons, bel_sl_app, belO_cells, belO_tok, belO_dead, belO_deferred, belO_map, belO_iter, belO_loop, bel_vec, bel_vp, belO_vecM, belO_vec, -List.map_map]
  · intro i hi _
    omega
  · intro _
    simp (maxSteps := 4000000) only [go_sem, AV.one, drawV, intsOf, keyIdx, over, putO, memAt, List.map_cons, List.length_cons, ↓reduceIte, zdrop, one_i, one_b, one_sl, one_ptr, one_ref, one_nilp, one_mp, one_fn, one_nilf, n1, n2]
    all_goals (repeat' (first | with_reducible rfl | with_reducible apply And.intro | ((with_reducible show drawOK _ _ = true); rfl))) <;> (try first | omega | (simp only [InR]; omega) | with_reducible assumption)
    refine ⟨_, hc, ?_⟩
    rintro r mem' ⟨rfl, rfl⟩ _
    refine loopN (0) [] [0, 1, 2, 7, 8] (fun _ => [(6, .int .i64 20)]) (fun _ m => m) (fun _ => True) ?_ ?_ ?_ ?_
    · trivial
    · simp [AV.bare, bel_ints, cs_arr, dep_arr, cs_int, cs_bool, cs_list, cs_sk, cs_sp, AtHead, Same, AllO, Begins, LtAll, headSt, tokz_nil, tokz_cons, tokz1, lk, dep_int, dep_bool, dep_list, dep_sk, dep_sp, memAt, bel_map, bel_mapF, bel_mapO, bel_undef, bel_int, bel_boolv, bel_nilp, bel_nilf, bel_ptr, bel_arr, bel_mp, bel_yld, bel_agg, bel_tup, bel_ref, bel_only, bel_mpr, bel_fn, bel_sl_nil, bel_sl_nilF, bel_sl_nilO, bel_sl_cons, bel_sl_app, belO_cells, belO_tok, belO_dead, belO_deferred, belO_map, belO_iter, belO_loop, bel_vec, bel_vp, belO_vecM, belO_vec, -List.map_map]
    · intro i hi _
      omega
    · intro _
      simp (maxSteps := 4000000) only [go_sem, AV.one, drawV, intsOf, keyIdx, over, putO, memAt, List.map_cons, List.length_cons, ↓reduceIte, zdrop, one_i, one_b, one_sl, one_ptr, one_ref, one_nilp, one_mp, one_fn, one_nilf, n1, n2]
      all_goals (repeat' (first | with_reducible rfl | with_reducible apply And.intro | ((with_reducible show drawOK _ _ = true); rfl))) <;> (try first | omega | (simp only [InR]; omega) | with_reducible assumption)
      refine ⟨3, Nat.le_refl _, Nat.le_refl _, ?_⟩
      simp [AV.bare, bel_ints, cs_arr, dep_arr, cs_int, cs_bool, cs_list, cs_sk, cs_sp, AtHead, Same, AllO, Begins, LtAll, headSt, tokz_nil, tokz_cons, tokz1, lk, dep_int, dep_bool, dep_list, dep_sk, dep_sp, memAt, bel_map, bel_mapF, bel_mapO, bel_undef, bel_int, bel_boolv, bel_nilp, bel_nilf, bel_ptr, bel_arr, bel_mp, bel_yld, bel_agg, bel_tup, bel_ref, bel_only, bel_mpr, bel_fn, bel_sl_nil, bel_sl_nilF, bel_sl_nilO, bel_sl_cons, bel_sl_app, belO_cells, belO_tok, belO_dead, belO_deferred, belO_map, belO_iter, belO_loop, bel_vec, bel_vp, belO_vecM, belO_vec, -List.map_map]
theorem sortStable_od (w : WkS) (hs : ShOk w.s) (l : List Int) (hl : ∀ x ∈ l, idxOk w.s x) (hn : l.length ≤ 8) (st : Nat) :
    CallX Try.prog 75 [.vec 1 st 0 l.length 1, .fn (.func 78) [] [.ptr 2 0, .ptr 0 0]] (mS w 77 l st)
      (fun r m => r = .tup [] ∧ m = mS w 77 (sortS (spS w.s) l) st) := by
  have hc := stable_od w hs l hl hn st
  have hw : wkC w = [.sl (w.s.stacks.map EncE.cs) .no, .int .i64 w.s.hands, .int .i64 w.s.rain.lo, .int .i64 w.s.rain.hi, .mpr w.ks (w.vs.map (AV.int .i64))] := rfl
  have hm : ∀ es st, mS w 77 es st = [.cells [.ref (wkC w) 0], .vec (es.map EncE.cs) 1 st, .cells [.fn (.func 77) [] []]] := fun _ _ => rfl
  obtain ⟨S, hS⟩ : ∃ S, sortS (spS w.s) l = S := ⟨_, rfl⟩
  rw [hS] at hc ⊢
  simp only [hm, hw] at hc ⊢
  refine callX_of_vc (Φ := P25) Try.func75 rfl (by rfl) (by rw [Try.ntmps75]; simp) mixed P25_ok ?_
  rw [Try.ntmps75]
  simp only [Try.f75, startSt, tmFrom]
  simp (maxSteps := 4000000) only [go_sem, AV.one, drawV, intsOf, keyIdx, over, putO, memAt, List.map_cons, List.length_cons, ↓reduceIte, zdrop, one_i, one_b, one_sl, one_ptr, one_ref, one_nilp, one_mp, one_fn, one_nilf]
  all_goals (repeat' (first | with_reducible rfl | with_reducible apply And.intro | ((with_reducible show drawOK _ _ = true); rfl))) <;> (try first | omega | (simp only [InR]; omega) | with_reducible assumption)
  refine ⟨_, hc, ?_⟩
  rintro r mem' ⟨rfl, rfl⟩ _
  simp (maxSteps := 4000000) only [go_sem, AV.one, drawV, intsOf, keyIdx, over, putO, memAt, List.map_cons, List.length_cons, ↓reduceIte, zdrop, one_i, one_b, one_sl, one_ptr, one_ref, one_nilp, one_mp, one_fn, one_nilf]
  all_goals (repeat' (first | with_reducible rfl | with_reducible apply And.intro | ((with_reducible show drawOK _ _ = true); rfl))) <;> (try first | omega | (simp only [InR]; omega) | with_reducible assumption)
  refine ⟨3, Nat.le_refl _, Nat.le_refl _, ?_⟩
  simp [AV.bare, bel_ints, cs_arr, dep_arr, cs_int, cs_bool, cs_list, cs_sk, cs_sp, AtHead, Same, AllO, Begins, LtAll, headSt, tokz_nil, tokz_cons, tokz1, lk, dep_int, dep_bool, dep_list, dep_sk, dep_sp, memAt, bel_map, bel_mapF, bel_mapO, bel_undef, bel_int, bel_boolv, bel_nilp, bel_nilf, bel_ptr, bel_arr, bel_mp, bel_yld, bel_agg, bel_tup, bel_ref, bel_only, bel_mpr, bel_fn, bel_sl_nil, bel_sl_nilF, bel_sl_nilO, bel_sl_cons, bel_sl_app, belO_cells, belO_tok, belO_dead, belO_deferred, belO_map, belO_iter, belO_loop, bel_vec, bel_vp, belO_vecM, belO_vec, -List.map_map]
end Go.Proofs
namespace Go.Proofs
open Go.Fs
set_option linter.unusedSimpArgs false
set_option linter.unusedVariables false
set_option maxHeartbeats 4000000
set_option maxRecDepth 8000
theorem rangeI_len (n : Nat) : (rangeI n).length = n := by simp [rangeI]
theorem rangeI_succ (n : Nat) : rangeI (n + 1) = rangeI n ++ [(n : Int)] := by simp [rangeI, List.range_succ]
theorem heaviest_call (w : WkS) (hs : ShOk w.s) : CallP Try.prog 57 [Enc.enc w] (· = Enc.enc (heavyS w.s)) := by
  have h8 := hs.len
  obtain ⟨n, hn⟩ : ∃ n, w.s.stacks.length = n := ⟨_, rfl⟩
  have hc := sortStable_hv w hs (rangeI n) (fun x hx => by rw [← hn] at hx; exact (mem_rangeI _ _).1 hx) (by rw [rangeI_len]; omega) n
  rw [rangeI_len] at hc
  have hh : heavyS w.s = sortS (fun i => -chS w.s i) (rangeI n) := by unfold heavyS; rw [hn]
  have hlen : (heavyS w.s).length = n := by rw [hh, sortS_len, rangeI_len]
  rw [← hh] at hc
  have hm : ∀ K es st, mS w K es st = [.cells [.ref [.sl (w.s.stacks.map EncE.cs) .no, .int .i64 w.s.hands, .int .i64 w.s.rain.lo, .int .i64 w.s.rain.hi, .mpr w.ks (w.vs.map (AV.int .i64))] 0], .vec (es.map EncE.cs) 1 st, .cells [.fn (.func K) [] []]] := fun _ _ _ => rfl
  simp only [hm] at hc
  simp only [enc_fnl, enc_fnb, enc_fnc, enc_refc, enc_arr, enc_int, enc_bool, enc_list, enc_sk, enc_sp, enc_rg, enc_sh, enc_tr, enc_refs, enc_fns, enc_wks]
  refine callP_of_vc (Φ := P25) Try.func57 rfl (by rfl) (by rw [Try.ntmps57]; simp) mixed P25_ok (by simp [AV.strip, AV.strip1, Tk.strip]) ?_
  rw [Try.ntmps57]
  simp only [Try.f57, startSt, tmFrom]
  simp (maxSteps := 4000000) only [go_sem, AV.one, drawV, intsOf, keyIdx, over, putO, memAt, List.map_cons, List.length_cons, ↓reduceIte, zdrop, one_i, one_b, one_sl, one_ptr, one_ref, one_nilp, one_mp, one_fn, one_nilf, hn]
  all_goals (repeat' (first | with_reducible rfl | with_reducible apply And.intro | ((with_reducible show drawOK _ _ = true); rfl))) <;> (try first | omega | (simp only [InR]; omega) | with_reducible assumption)
  refine loopN (n) [.vslot 3 1] [1, 2, 11] (fun i => [(12, .int .i64 i), (3, .vec 1 i 0 i 1)]) (fun i m => m.set 1 (.vec ((rangeI i).map EncE.cs) 1 i)) (fun _ => True) ?_ ?_ ?_ ?_
  · trivial
  · simp [AV.bare, bel_ints, cs_arr, dep_arr, cs_int, cs_bool, cs_list, cs_sk, cs_sp, AtHead, Same, AllO, Begins, LtAll, headSt, tokz_nil, tokz_cons, tokz1, lk, dep_int, dep_bool, dep_list, dep_sk, dep_sp, memAt, bel_map, bel_mapF, bel_mapO, bel_undef, bel_int, bel_boolv, bel_nilp, bel_nilf, bel_ptr, bel_arr, bel_mp, bel_yld, bel_agg, bel_tup, bel_ref, bel_only, bel_mpr, bel_fn, bel_sl_nil, bel_sl_nilF, bel_sl_nilO, bel_sl_cons, bel_sl_app, belO_cells, belO_tok, belO_dead, belO_deferred, belO_map, belO_iter, belO_loop, bel_vec, bel_vp, belO_vecM, belO_vec, rangeI]
  · intro i hi _
    have hi' := Int.ofNat_lt.2 hi
    have htk : List.take i ((rangeI i).map EncE.cs) = (rangeI i).map EncE.cs := List.take_of_length_le (by simp [rangeI_len])
    have hrs := rangeI_succ i
    simp (maxSteps := 4000000) only [go_sem, AV.one, drawV, intsOf, keyIdx, over, putO, memAt, List.map_cons, List.length_cons, ↓reduceIte, zdrop, one_i, one_b, one_sl, one_ptr, one_ref, one_nilp, one_mp, one_fn, one_nilf, hi', htk]
    all_goals (repeat' (first | with_reducible rfl | with_reducible apply And.intro | ((with_reducible show drawOK _ _ = true); rfl))) <;> (try first | omega | (simp only [InR]; omega) | with_reducible assumption)
    refine nxt hi trivial ?_
    obtain ⟨L, hL⟩ : ∃ L, rangeI (i + 1) = L := ⟨_, rfl⟩
    have e : (rangeI i).map EncE.cs ++ [[AV.int .i64 (i : Int)]] = L.map EncE.cs := by rw [← hL, hrs, List.map_append]; rfl
    simp only [e]
    simp [AV.bare, bel_ints, cs_arr, dep_arr, cs_int, cs_bool, cs_list, cs_sk, cs_sp, AtHead, Same, AllO, Begins, LtAll, headSt, tokz_nil, tokz_cons, tokz1, lk, dep_int, dep_bool, dep_list, dep_sk, dep_sp, memAt, bel_map, bel_mapF, bel_mapO, bel_undef, bel_int, bel_boolv, bel_nilp, bel_nilf, bel_ptr, bel_arr, bel_mp, bel_yld, bel_agg, bel_tup, bel_ref, bel_only, bel_mpr, bel_fn, bel_sl_nil, bel_sl_nilF, bel_sl_nilO, bel_sl_cons, bel_sl_app, belO_cells, belO_tok, belO_dead, belO_deferred, belO_map, belO_iter, belO_loop, bel_vec, bel_vp, belO_vecM, belO_vec, hL, -List.map_map]
  · intro _
    simp (maxSteps := 4000000) only [go_sem, AV.one, drawV, intsOf, keyIdx, over, putO, memAt, List.map_cons, List.length_cons, ↓reduceIte, zdrop, one_i, one_b, one_sl, one_ptr, one_ref, one_nilp, one_mp, one_fn, one_nilf, Int.lt_irrefl]
    all_goals (repeat' (first | with_reducible rfl | with_reducible apply And.intro | ((with_reducible show drawOK _ _ = true); rfl))) <;> (try first | omega | (simp only [InR]; omega) | with_reducible assumption)
    refine ⟨_, hc, ?_⟩
    rintro r mem' ⟨rfl, rfl⟩ _
    have htk : List.take n ((heavyS w.s).map EncE.cs) = (heavyS w.s).map EncE.cs := List.take_of_length_le (by simp [hlen])
    simp (maxSteps := 4000000) only [go_sem, AV.one, drawV, intsOf, keyIdx, over, putO, memAt, List.map_cons, List.length_cons, ↓reduceIte, zdrop, one_i, one_b, one_sl, one_ptr, one_ref, one_nilp, one_mp, one_fn, one_nilf, htk]
    all_goals (repeat' (first | with_reducible rfl | with_reducible apply And.intro | ((with_reducible show drawOK _ _ = true); rfl))) <;> (try first | omega | (simp only [InR]; omega) | with_reducible assumption)
def P26 : Specs := addSpec 57 (spec1 (fun w : WkS => ShOk w.s) (fun w => heavyS w.s)) (P25)
theorem P26_app (g : FuncId) : P26 g = (addSpec 57 (spec1 (fun w : WkS => ShOk w.s) (fun w => heavyS w.s)) (P25)) g := rfl
theorem P26_ok : SpecsOk Try.prog P26 := addSpec_ok (spec1_ok heaviest_call) (P25_ok)
attribute [go_sem] P26_app
theorem P26_flag (d : Option Nat) : flagOf P26 d = none := (flagOf_add (by decide) d).trans (P25_flag d)
attribute [go_sem] P26_flag
def P2601 : Specs := vecT [7] P26
theorem P2601_app (g : FuncId) (h : ¬ (g = 4000000000)) : P2601 g = P26 g := by unfold P2601 vecT; rw [if_neg h]
theorem P2601_ok : SpecsOk Try.prog P2601 := vecT_ok P26_ok
theorem P2601_flag (d : Nat) : flagOf P2601 (some d) = if d ∈ ([7] : List Nat) then some d else none := flagOf_vecT _ _ d
attribute [go_sem] P2601_app P2601_flag
theorem CloneX_call (w : WkS) (l : List Int) (h : l.length ≤ 4096) (h0 : l ≠ []) : CallX Try.prog 58 [.sl (l.map EncE.cs) .no] [.cells [.ref (wkC w) 0]]
    (fun r m => r = .vec 1 1 0 l.length 1 ∧ m = [.cells [.ref (wkC w) 0], .vec (l.map EncE.cs) 1 1]) := by
  have hw : wkC w = [.sl (w.s.stacks.map EncE.cs) .no, .int .i64 w.s.hands, .int .i64 w.s.rain.lo, .int .i64 w.s.rain.hi, .mpr w.ks (w.vs.map (AV.int .i64))] := rfl
  rw [hw]
  refine callX_of_vc (Φ := P2601) Try.func58 rfl (by rfl) (by rw [Try.ntmps58]; simp) mixed P2601_ok ?_
  rw [Try.ntmps58]
  simp only [Try.f58, startSt, tmFrom]
  simp (maxSteps := 4000000) only [go_sem, AV.one, drawV, intsOf, keyIdx, over, putO, memAt, List.map_cons, List.length_cons, ↓reduceIte, zdrop, one_i, one_b, one_sl, one_ptr, one_ref, one_nilp, one_mp, one_fn, one_nilf, ne_eq]
  all_goals (repeat' (first | with_reducible rfl | with_reducible apply And.intro | ((with_reducible show drawOK _ _ = true); rfl))) <;> (try first | omega | (simp only [InR]; omega) | with_reducible assumption)
  intro b hb
  cases b
  · simp (maxSteps := 4000000) only [go_sem, AV.one, drawV, intsOf, keyIdx, over, putO, memAt, List.map_cons, List.length_cons, ↓reduceIte, zdrop, one_i, one_b, one_sl, one_ptr, one_ref, one_nilp, one_mp, one_fn, one_nilf, ne_eq]
    all_goals (repeat' (first | with_reducible rfl | with_reducible apply And.intro | ((with_reducible show drawOK _ _ = true); rfl))) <;> (try first | omega | (simp only [InR]; omega) | with_reducible assumption)
    · simp [cs_int, AV.one]
    · refine ⟨2, by simp, by simp, ?_⟩
      simp [AV.bare, bel_ints, cs_arr, dep_arr, cs_int, cs_bool, cs_list, cs_sk, cs_sp, AtHead, Same, AllO, Begins, LtAll, headSt, tokz_nil, tokz_cons, tokz1, lk, dep_int, dep_bool, dep_list, dep_sk, dep_sp, memAt, bel_map, bel_mapF, bel_mapO, bel_undef, bel_int, bel_boolv, bel_nilp, bel_nilf, bel_ptr, bel_arr, bel_mp, bel_yld, bel_agg, bel_tup, bel_ref, bel_only, bel_mpr, bel_fn, bel_sl_nil, bel_sl_nilF, bel_sl_nilO, bel_sl_cons, bel_sl_app, belO_cells, belO_tok, belO_dead, belO_deferred, belO_map, belO_iter, belO_loop, bel_vec, bel_vp, belO_vecM, belO_vec, -List.map_map]
  · have : l = [] := by simpa using hb
    exact absurd this h0
end Go.Proofs
namespace Go.Proofs
open Go.Fs
set_option linter.unusedSimpArgs false
set_option linter.unusedVariables false
set_option maxHeartbeats 4000000
set_option maxRecDepth 8000
theorem begins_refl : ∀ l : List AObj, Begins l l
  | [] => trivial
  | a :: l => ⟨rfl, begins_refl l⟩
theorem allO_of {k : Nat} : ∀ {l : List AObj}, (∀ o ∈ l, belO k o) → AllO k l
  | [], _ => trivial
  | a :: l, h => ⟨h a (by simp), allO_of fun o ho => h o (by simp [ho])⟩
theorem insNil (tk : Tk) (gf a b : Nat) (mem : List AObj) (ha : a < mem.length) (hb : b < mem.length) (ht : bel mem.length 9 (.sl [] tk)) (hm : ∀ o ∈ mem, belO mem.length o) : CallX Try.prog 102 [.sl [] tk, .int .i64 0, .int .i64 0, .fn (.func gf) [] [.ptr a 0, .ptr b 0]] mem (fun r m => r = .tup [] ∧ m = mem) := by
  refine callX_of_vc (Φ := P26) Try.func102 rfl (by rfl) (by rw [Try.ntmps102]; simp) mixed P26_ok ?_
  rw [Try.ntmps102]
  simp only [Try.f102, startSt, tmFrom]
  simp (maxSteps := 4000000) only [go_sem, AV.one, drawV, intsOf, keyIdx, over, putO, memAt, List.map_cons, List.length_cons, ↓reduceIte, zdrop, one_i, one_b, one_sl, one_ptr, one_ref, one_nilp, one_mp, one_fn, one_nilf]
  all_goals (repeat' (first | with_reducible rfl | with_reducible apply And.intro | ((with_reducible show drawOK _ _ = true); rfl))) <;> (try first | omega | (simp only [InR]; omega) | with_reducible assumption)
  refine loopN (0) [] [0, 1, 2, 3] (fun _ => [(8, .int .i64 1)]) (fun _ m => m) (fun _ => True) ?_ ?_ ?_ ?_
  · trivial
  · refine ⟨rfl, rfl, rfl, Nat.le_refl _, begins_refl _, ?_, allO_of hm, trivial⟩
    show Same _ mem.length _
    simp [AV.bare, bel_ints, cs_arr, dep_arr, cs_int, cs_bool, cs_list, cs_sk, cs_sp, AtHead, Same, AllO, Begins, LtAll, headSt, tokz_nil, tokz_cons, tokz1, lk, dep_int, dep_bool, dep_list, dep_sk, dep_sp, memAt, bel_map, bel_mapF, bel_mapO, bel_undef, bel_int, bel_boolv, bel_nilp, bel_nilf, bel_ptr, bel_arr, bel_mp, bel_yld, bel_agg, bel_tup, bel_ref, bel_only, bel_mpr, bel_fn, bel_sl_nil, bel_sl_nilF, bel_sl_nilO, bel_sl_cons, bel_sl_app, belO_cells, belO_tok, belO_dead, belO_deferred, belO_map, belO_iter, belO_loop, bel_vec, bel_vp, belO_vecM, belO_vec, ha, hb, ht]
  · intro i hi _
    omega
  · intro _
    have n1 : ¬ ((1 : Int) < 0) := by omega
    simp (maxSteps := 4000000) only [go_sem, AV.one, drawV, intsOf, keyIdx, over, putO, memAt, List.map_cons, List.length_cons, ↓reduceIte, zdrop, one_i, one_b, one_sl, one_ptr, one_ref, one_nilp, one_mp, one_fn, one_nilf, n1]
    all_goals (repeat' (first | with_reducible rfl | with_reducible apply And.intro | ((with_reducible show drawOK _ _ = true); rfl))) <;> (try first | omega | (simp only [InR]; omega) | with_reducible assumption)
    refine ⟨mem.length, Nat.le_refl _, Nat.le_refl _, ?_⟩
    rw [List.take_length]
    exact ⟨rfl, by simp [AV.bare, bel_ints, cs_arr, dep_arr, cs_int, cs_bool, cs_list, cs_sk, cs_sp, AtHead, Same, AllO, Begins, LtAll, headSt, tokz_nil, tokz_cons, tokz1, lk, dep_int, dep_bool, dep_list, dep_sk, dep_sp, memAt, bel_map, bel_mapF, bel_mapO, bel_undef, bel_int, bel_boolv, bel_nilp, bel_nilf, bel_ptr, bel_arr, bel_mp, bel_yld, bel_agg, bel_tup, bel_ref, bel_only, bel_mpr, bel_fn, bel_sl_nil, bel_sl_nilF, bel_sl_nilO, bel_sl_cons, bel_sl_app, belO_cells, belO_tok, belO_dead, belO_deferred, belO_map, belO_iter, belO_loop, bel_vec, bel_vp, belO_vecM, belO_vec], hm⟩
theorem stableNil (tk : Tk) (gf a b : Nat) (mem : List AObj) (ha : a < mem.length) (hb : b < mem.length) (ht : bel mem.length 9 (.sl [] tk)) (hm : ∀ o ∈ mem, belO mem.length o) : CallX Try.prog 94 [.sl [] tk, .int .i64 0, .fn (.func gf) [] [.ptr a 0, .ptr b 0]] mem (fun r m => r = .tup [] ∧ m = mem) := by
  have hc := insNil tk gf a b mem ha hb ht hm
  refine callX_of_vc (Φ := P26) Try.func94 rfl (by rfl) (by rw [Try.ntmps94]; simp) mixed P26_ok ?_
  rw [Try.ntmps94]
  simp only [Try.f94, startSt, tmFrom]
  have n1 : ¬ ((20 : Int) ≤ 0) := by omega
  have n2 : ¬ ((20 : Int) < 0) := by omega
  simp (maxSteps := 4000000) only [go_sem, AV.one, drawV, intsOf, keyIdx, over, putO, memAt, List.map_cons, List.length_cons, ↓reduceIte, zdrop, one_i, one_b, one_sl, one_ptr, one_ref, one_nilp, one_mp, one_fn, one_nilf, n1, n2]
  all_goals (repeat' (first | with_reducible rfl | with_reducible apply And.intro | ((with_reducible show drawOK _ _ = true); rfl))) <;> (try first | omega | (simp only [InR]; omega) | with_reducible assumption)
  refine loopN (0) [] [0, 1, 2, 6] (fun _ => [(7, .int .i64 0), (8, .int .i64 20)]) (fun _ m => m) (fun _ => True) ?_ ?_ ?_ ?_
  · trivial
  · refine ⟨rfl, rfl, rfl, Nat.le_refl _, begins_refl _, ?_, allO_of hm, trivial⟩
    show Same _ mem.length _
    simp [AV.bare, bel_ints, cs_arr, dep_arr, cs_int, cs_bool, cs_list, cs_sk, cs_sp, AtHead, Same, AllO, Begins, LtAll, headSt, tokz_nil, tokz_cons, tokz1, lk, dep_int, dep_bool, dep_list, dep_sk, dep_sp, memAt, bel_map, bel_mapF, bel_mapO, bel_undef, bel_int, bel_boolv, bel_nilp, bel_nilf, bel_ptr, bel_arr, bel_mp, bel_yld, bel_agg, bel_tup, bel_ref, bel_only, bel_mpr, bel_fn, bel_sl_nil, bel_sl_nilF, bel_sl_nilO, bel_sl_cons, bel_sl_app, belO_cells, belO_tok, belO_dead, belO_deferred, belO_map, belO_iter, belO_loop, bel_vec, bel_vp, belO_vecM, belO_vec, ha, hb, ht]
  · intro i hi _
    omega
  · intro _
    simp (maxSteps := 4000000) only [go_sem, AV.one, drawV, intsOf, keyIdx, over, putO, memAt, List.map_cons, List.length_cons, ↓reduceIte, zdrop, one_i, one_b, one_sl, one_ptr, one_ref, one_nilp, one_mp, one_fn, one_nilf, n1, n2]
    all_goals (repeat' (first | with_reducible rfl | with_reducible apply And.intro | ((with_reducible show drawOK _ _ = true); rfl))) <;> (try first | omega | (simp only [InR]; omega) | with_reducible assumption)
    refine ⟨_, hc, ?_⟩
    rintro r mem' ⟨rfl, rfl⟩ _
    refine loopN (0) [] [0, 1, 2, 7, 8] (fun _ => [(6, .int .i64 20)]) (fun _ m => m) (fun _ => True) ?_ ?_ ?_ ?_
    · trivial
    · refine ⟨rfl, rfl, rfl, Nat.le_refl _, begins_refl _, ?_, allO_of hm, trivial⟩
      show Same _ mem'.length _
      simp [AV.bare, bel_ints, cs_arr, dep_arr, cs_int, cs_bool, cs_list, cs_sk, cs_sp, AtHead, Same, AllO, Begins, LtAll, headSt, tokz_nil, tokz_cons, tokz1, lk, dep_int, dep_bool, dep_list, dep_sk, dep_sp, memAt, bel_map, bel_mapF, bel_mapO, bel_undef, bel_int, bel_boolv, bel_nilp, bel_nilf, bel_ptr, bel_arr, bel_mp, bel_yld, bel_agg, bel_tup, bel_ref, bel_only, bel_mpr, bel_fn, bel_sl_nil, bel_sl_nilF, bel_sl_nilO, bel_sl_cons, bel_sl_app, belO_cells, belO_tok, belO_dead, belO_deferred, belO_map, belO_iter, belO_loop, bel_vec, bel_vp, belO_vecM, belO_vec, ha, hb, ht]
    · intro i hi _
      omega
    · intro _
      simp (maxSteps := 4000000) only [go_sem, AV.one, drawV, intsOf, keyIdx, over, putO, memAt, List.map_cons, List.length_cons, ↓reduceIte, zdrop, one_i, one_b, one_sl, one_ptr, one_ref, one_nilp, one_mp, one_fn, one_nilf, n1, n2]
      all_goals (repeat' (first | with_reducible rfl | with_reducible apply And.intro | ((with_reducible show drawOK _ _ = true); rfl))) <;> (try first | omega | (simp only [InR]; omega) | with_reducible assumption)
      refine ⟨mem'.length, Nat.le_refl _, Nat.le_refl _, ?_⟩
      rw [List.take_length]
      exact ⟨rfl, by simp [AV.bare, bel_ints, cs_arr, dep_arr, cs_int, cs_bool, cs_list, cs_sk, cs_sp, AtHead, Same, AllO, Begins, LtAll, headSt, tokz_nil, tokz_cons, tokz1, lk, dep_int, dep_bool, dep_list, dep_sk, dep_sp, memAt, bel_map, bel_mapF, bel_mapO, bel_undef, bel_int, bel_boolv, bel_nilp, bel_nilf, bel_ptr, bel_arr, bel_mp, bel_yld, bel_agg, bel_tup, bel_ref, bel_only, bel_mpr, bel_fn, bel_sl_nil, bel_sl_nilF, bel_sl_nilO, bel_sl_cons, bel_sl_app, belO_cells, belO_tok, belO_dead, belO_deferred, belO_map, belO_iter, belO_loop, bel_vec, bel_vp, belO_vecM, belO_vec], hm⟩
theorem sortNil (tk : Tk) (gf a b : Nat) (mem : List AObj) (ha : a < mem.length) (hb : b < mem.length) (ht : bel mem.length 9 (.sl [] tk)) (hm : ∀ o ∈ mem, belO mem.length o) : CallX Try.prog 75 [.sl [] tk, .fn (.func gf) [] [.ptr a 0, .ptr b 0]] mem (fun r m => r = .tup [] ∧ m = mem) := by
  have hc := stableNil tk gf a b mem ha hb ht hm
  refine callX_of_vc (Φ := P26) Try.func75 rfl (by rfl) (by rw [Try.ntmps75]; simp) mixed P26_ok ?_
  rw [Try.ntmps75]
  simp only [Try.f75, startSt, tmFrom]
  simp (maxSteps := 4000000) only [go_sem, AV.one, drawV, intsOf, keyIdx, over, putO, memAt, List.map_cons, List.length_cons, ↓reduceIte, zdrop, one_i, one_b, one_sl, one_ptr, one_ref, one_nilp, one_mp, one_fn, one_nilf]
  all_goals (repeat' (first | with_reducible rfl | with_reducible apply And.intro | ((with_reducible show drawOK _ _ = true); rfl))) <;> (try first | omega | (simp only [InR]; omega) | with_reducible assumption)
  refine ⟨_, hc, ?_⟩
  rintro r mem' ⟨rfl, rfl⟩ _
  refine ⟨mem'.length, Nat.le_refl _, Nat.le_refl _, ?_⟩
  rw [List.take_length]
  exact ⟨rfl, by simp [AV.bare, bel_ints, cs_arr, dep_arr, cs_int, cs_bool, cs_list, cs_sk, cs_sp, AtHead, Same, AllO, Begins, LtAll, headSt, tokz_nil, tokz_cons, tokz1, lk, dep_int, dep_bool, dep_list, dep_sk, dep_sp, memAt, bel_map, bel_mapF, bel_mapO, bel_undef, bel_int, bel_boolv, bel_nilp, bel_nilf, bel_ptr, bel_arr, bel_mp, bel_yld, bel_agg, bel_tup, bel_ref, bel_only, bel_mpr, bel_fn, bel_sl_nil, bel_sl_nilF, bel_sl_nilO, bel_sl_cons, bel_sl_app, belO_cells, belO_tok, belO_dead, belO_deferred, belO_map, belO_iter, belO_loop, bel_vec, bel_vp, belO_vecM, belO_vec], hm⟩
theorem CloneNil_call (w : WkS) : CallX Try.prog 58 [.sl [] .no] [.cells [.ref (wkC w) 0]]
    (fun r m => (r = .sl [] .full ∧ m = [.cells [.ref (wkC w) 0]]) ∨ (r = .sl [] (.own 1) ∧ m = [.cells [.ref (wkC w) 0], .tok 0 1])) := by
  have hw : wkC w = [.sl (w.s.stacks.map EncE.cs) .no, .int .i64 w.s.hands, .int .i64 w.s.rain.lo, .int .i64 w.s.rain.hi, .mpr w.ks (w.vs.map (AV.int .i64))] := rfl
  rw [hw]
  refine callX_of_vc (Φ := P26) Try.func58 rfl (by rfl) (by rw [Try.ntmps58]; simp) mixed P26_ok ?_
  rw [Try.ntmps58]
  simp only [Try.f58, startSt, tmFrom]
  simp (maxSteps := 4000000) only [go_sem, AV.one, drawV, intsOf, keyIdx, over, putO, memAt, List.map_cons, List.length_cons, ↓reduceIte, zdrop, one_i, one_b, one_sl, one_ptr, one_ref, one_nilp, one_mp, one_fn, one_nilf]
  all_goals (repeat' (first | with_reducible rfl | with_reducible apply And.intro | ((with_reducible show drawOK _ _ = true); rfl))) <;> (try first | omega | (simp only [InR]; omega) | with_reducible assumption)
  intro b
  cases b
  · simp (maxSteps := 4000000) only [go_sem, AV.one, drawV, intsOf, keyIdx, over, putO, memAt, List.map_cons, List.length_cons, ↓reduceIte, zdrop, one_i, one_b, one_sl, one_ptr, one_ref, one_nilp, one_mp, one_fn, one_nilf]
    all_goals (repeat' (first | with_reducible rfl | with_reducible apply And.intro | ((with_reducible show drawOK _ _ = true); rfl))) <;> (try first | omega | (simp only [InR]; omega) | with_reducible assumption)
    · refine ⟨2, by simp, by simp, .inr ?_, ?_⟩
      · simp
      · simp [AV.bare, bel_ints, cs_arr, dep_arr, cs_int, cs_bool, cs_list, cs_sk, cs_sp, AtHead, Same, AllO, Begins, LtAll, headSt, tokz_nil, tokz_cons, tokz1, lk, dep_int, dep_bool, dep_list, dep_sk, dep_sp, memAt, bel_map, bel_mapF, bel_mapO, bel_undef, bel_int, bel_boolv, bel_nilp, bel_nilf, bel_ptr, bel_arr, bel_mp, bel_yld, bel_agg, bel_tup, bel_ref, bel_only, bel_mpr, bel_fn, bel_sl_nil, bel_sl_nilF, bel_sl_nilO, bel_sl_cons, bel_sl_app, belO_cells, belO_tok, belO_dead, belO_deferred, belO_map, belO_iter, belO_loop, bel_vec, bel_vp, belO_vecM, belO_vec, -List.map_map]
  · simp (maxSteps := 4000000) only [go_sem, AV.one, drawV, intsOf, keyIdx, over, putO, memAt, List.map_cons, List.length_cons, ↓reduceIte, zdrop, one_i, one_b, one_sl, one_ptr, one_ref, one_nilp, one_mp, one_fn, one_nilf]
    all_goals (repeat' (first | with_reducible rfl | with_reducible apply And.intro | ((with_reducible show drawOK _ _ = true); rfl))) <;> (try first | omega | (simp only [InR]; omega) | with_reducible assumption)
    refine ⟨1, by simp, by simp, .inl ?_, ?_⟩
    · simp
    · simp [AV.bare, bel_ints, cs_arr, dep_arr, cs_int, cs_bool, cs_list, cs_sk, cs_sp, AtHead, Same, AllO, Begins, LtAll, headSt, tokz_nil, tokz_cons, tokz1, lk, dep_int, dep_bool, dep_list, dep_sk, dep_sp, memAt, bel_map, bel_mapF, bel_mapO, bel_undef, bel_int, bel_boolv, bel_nilp, bel_nilf, bel_ptr, bel_arr, bel_mp, bel_yld, bel_agg, bel_tup, bel_ref, bel_only, bel_mpr, bel_fn, bel_sl_nil, bel_sl_nilF, bel_sl_nilO, bel_sl_cons, bel_sl_app, belO_cells, belO_tok, belO_dead, belO_deferred, belO_map, belO_iter, belO_loop, bel_vec, bel_vp, belO_vecM, belO_vec, -List.map_map]
end Go.Proofs
