/- The law ShelterNames (printed by tools/mkn11.py). -/
import Derived.Test.YtfdnifofpkceiaaG14
set_option linter.all false
namespace Go.Proofs
open Go.Fs
set_option linter.unusedSimpArgs false
set_option linter.unusedVariables false
set_option maxHeartbeats 8000000
set_option maxRecDepth 8000
/-! The shelter of the examples, as one that may be changed. -/
def P4914 : Specs := vecT [7] P49
theorem P4914_app (g : FuncId) (h : ¬ (g = 4000000000)) : P4914 g = P49 g := by unfold P4914 vecT; rw [if_neg h]
theorem P4914_ok : SpecsOk Try.prog P4914 := vecT_ok P49_ok
theorem P4914_flag (d : Nat) : flagOf P4914 (some d) = if d ∈ ([7] : List Nat) then some d else none := flagOf_vecT _ _ d
attribute [go_sem] P4914_app P4914_flag
def FourR (mem : List AObj) (r : AV) (m : List AObj) : Prop :=
  (∃ o0, r = .agg [.vec (mem.length + 1) 1 0 4 3, .int .i64 1, .int .i64 2, .int .i64 4] ∧ m = mem ++ [o0, .vec [[.int .i64 10, .int .i64 0, .int .i64 1], [.int .i64 8, .int .i64 0, .int .i64 0], [.int .i64 6, .int .i64 1, .int .i64 2], [.int .i64 5, .int .i64 0, .int .i64 0]] 3 1]) ∧ ∀ o ∈ m, belO m.length o
theorem fourX_call {mem : List AObj} (hm : ∀ o ∈ mem, belO mem.length o) : CallX Try.prog 15 [] mem (FourR mem) := by
  unfold FourR
  obtain ⟨n0, hn0⟩ : ∃ n0, mem.length = n0 := ⟨_, rfl⟩
  rw [hn0] at hm
  have g0 : ∀ r, memAt (mem ++ r) n0 = memAt r 0 := fun r => by rw [← hn0]; exact memAt_app _ _ 0
  have gk : ∀ r k, memAt (mem ++ r) (n0 + k) = memAt r k := fun r k => by rw [← hn0]; exact memAt_app _ _ k
  have s0 : ∀ r o, (mem ++ r).set n0 o = mem ++ r.set 0 o := fun r o => by rw [← hn0]; exact set_app _ _ 0 _
  have sk : ∀ r k o, (mem ++ r).set (n0 + k) o = mem ++ r.set k o := fun r k o => by rw [← hn0]; exact set_app _ _ k _
  rw [hn0]
  refine callX_of_vc (Φ := P4914) Try.func15 rfl (by rfl) (by rw [Try.ntmps15]; simp) mixed P4914_ok ?_
  rw [Try.ntmps15]
  simp only [Try.f15, startSt, tmFrom]
  simp (maxSteps := 4000000) only [go_sem, AV.one, drawV, intsOf, keyIdx, over, putO, List.map_cons, List.length_cons, ↓reduceIte, zdrop, one_i, one_b, one_sl, one_ptr, one_ref, one_nilp, one_mp, one_fn, one_nilf, dep_uk, g0, gk, s0, sk, hn0, List.append_assoc, List.length_append, Nat.add_assoc, Int.sub_zero, Int.toNat_natCast]
  all_goals (repeat' (first | with_reducible rfl | with_reducible apply And.intro | ((with_reducible show drawOK _ _ = true); rfl))) <;> (try first | omega | (simp only [InR]; omega) | with_reducible assumption)
  have htk : ∀ a b : AObj, List.take (n0 + 2) (mem ++ [a, b]) = mem ++ [a, b] := fun a b => List.take_of_length_le (by simp [hn0])
  refine ⟨n0 + 2, by omega, by omega, ?_, ?_, ?_⟩
  · rw [htk]
    refine ⟨⟨_, (by first | exact rfl | exact ⟨rfl, rfl⟩)⟩, ?_⟩
    rw [List.length_append, hn0]
    exact ok_app hm (by omega) (by simp [AV.bare, bel_ints, cs_arr, dep_arr, cs_int, cs_bool, cs_list, cs_sk, cs_sp, AtHead, Same, AllO, Begins, LtAll, headSt, tokz_nil, tokz_cons, tokz1, lk, dep_int, dep_bool, dep_list, dep_sk, dep_sp, memAt, bel_map, bel_mapF, bel_mapO, bel_undef, bel_int, bel_boolv, bel_nilp, bel_nilf, bel_ptr, bel_arr, bel_mp, bel_yld, bel_agg, bel_tup, bel_ref, bel_only, bel_mpr, bel_fn, bel_sl_nil, bel_sl_nilF, bel_sl_nilO, bel_sl_cons, bel_sl_app, belO_cells, belO_tok, belO_dead, belO_deferred, belO_map, belO_iter, belO_loop, bel_vec, bel_vp, belO_vecM, belO_vec])
  · simp [AV.bare, bel_ints, cs_arr, dep_arr, cs_int, cs_bool, cs_list, cs_sk, cs_sp, AtHead, Same, AllO, Begins, LtAll, headSt, tokz_nil, tokz_cons, tokz1, lk, dep_int, dep_bool, dep_list, dep_sk, dep_sp, memAt, bel_map, bel_mapF, bel_mapO, bel_undef, bel_int, bel_boolv, bel_nilp, bel_nilf, bel_ptr, bel_arr, bel_mp, bel_yld, bel_agg, bel_tup, bel_ref, bel_only, bel_mpr, bel_fn, bel_sl_nil, bel_sl_nilF, bel_sl_nilO, bel_sl_cons, bel_sl_app, belO_cells, belO_tok, belO_dead, belO_deferred, belO_map, belO_iter, belO_loop, bel_vec, bel_vp, belO_vecM, belO_vec]
  · rw [htk]
    exact ok_app hm (by omega) (by simp [AV.bare, bel_ints, cs_arr, dep_arr, cs_int, cs_bool, cs_list, cs_sk, cs_sp, AtHead, Same, AllO, Begins, LtAll, headSt, tokz_nil, tokz_cons, tokz1, lk, dep_int, dep_bool, dep_list, dep_sk, dep_sp, memAt, bel_map, bel_mapF, bel_mapO, bel_undef, bel_int, bel_boolv, bel_nilp, bel_nilf, bel_ptr, bel_arr, bel_mp, bel_yld, bel_agg, bel_tup, bel_ref, bel_only, bel_mpr, bel_fn, bel_sl_nil, bel_sl_nilF, bel_sl_nilO, bel_sl_cons, bel_sl_app, belO_cells, belO_tok, belO_dead, belO_deferred, belO_map, belO_iter, belO_loop, bel_vec, bel_vp, belO_vecM, belO_vec])
theorem en_n1 : savedQ fourS [0, 1, 2, -1] = ([1, 1, 1, 2], 0) := by decide +kernel
theorem en_n2 : sureQ fourS [0, 1, 2, -1] = (24, 0) := by decide +kernel
theorem en_n3 : lostQ fourS = ([], 0) := by decide +kernel
theorem en_w0 : worthQ fourS 0 = (5, 0) := by decide +kernel
theorem en_w1 : worthQ fourS 1 = (3, 0) := by decide +kernel
theorem en_w2 : worthQ fourS 2 = (6, 0) := by decide +kernel
theorem en_w3 : worthQ fourS 3 = (0, 0) := by decide +kernel
theorem en_n4 : proveSureB fourS [0, 1, 2, -1] 24 = true := by decide +kernel
theorem en_n5 : proveSureB fourS [0, 1, 2, -1] 25 = false := by decide +kernel
theorem en_n6 : proveBoundB fourS [⟨5, 2⟩, ⟨10, 0⟩] 24 = true := by decide +kernel
theorem en_n7 : proveBoundB fourS [⟨5, 2⟩, ⟨10, 0⟩] 23 = false := by decide +kernel
theorem en_n8 : proveBoundB fourS [] 99 = false := by decide +kernel
theorem en_n9 : proveBoundB fourS [⟨5, 2⟩, ⟨5, 0⟩] 99 = false := by decide +kernel
theorem en_n10 : playQ fourS [0, 0, 1, 2] ⟨3, [0, 0, 1, 0]⟩ = ([], 2) := by decide +kernel
theorem en_n11 : playQ fourS [0, 1, 2, 3] ⟨5, [0, 0, 1, 0]⟩ = ([], 2) := by decide +kernel
theorem en_n12 : savedQ fourS [0, 1, 2] = ([], 2) := by decide +kernel
theorem en_n13 : sureQ fourS [0, 1, 2, 18] = (0, 2) := by decide +kernel
theorem en_n14 : worthQ fourS 4 = (0, 2) := by decide +kernel
theorem en_n15 : leftQ fourS [0, 1, 2, -1] 5 = ⟨⟨[], 0, ⟨0, 0⟩⟩, 0, 2⟩ := by decide +kernel
theorem en_n16 : leftQ fourS [0, 1, 2, -2] 3 = ⟨⟨[], 0, ⟨0, 0⟩⟩, 0, 2⟩ := by decide +kernel
theorem en_n17 : faultS ⟨fourS.stacks, 4, fourS.rain⟩ = 1 := by decide +kernel
theorem en_n18 : faultS ⟨fourS.stacks, fourS.hands, ⟨3, 10⟩⟩ = 1 := by decide +kernel
theorem en_n19 : faultS ⟨[⟨0, ⟨0, 0⟩⟩, ⟨0, ⟨0, 0⟩⟩, ⟨0, ⟨0, 0⟩⟩, ⟨0, ⟨0, 0⟩⟩, ⟨0, ⟨0, 0⟩⟩, ⟨0, ⟨0, 0⟩⟩, ⟨0, ⟨0, 0⟩⟩, ⟨0, ⟨0, 0⟩⟩, ⟨0, ⟨0, 0⟩⟩], fourS.hands, fourS.rain⟩ = 3 := by decide +kernel
theorem en_e1 : lostQ (⟨[⟨10, ⟨0, 1⟩⟩, ⟨8, ⟨0, 0⟩⟩, ⟨6, ⟨0, 0⟩⟩, ⟨5, ⟨0, 0⟩⟩], 1, ⟨0, 4⟩⟩ : Sh) = ([0, 1, 2, 3], 0) := by decide +kernel
theorem en_e2 : handsQ (⟨[⟨10, ⟨0, 1⟩⟩, ⟨8, ⟨0, 0⟩⟩, ⟨6, ⟨0, 0⟩⟩, ⟨5, ⟨0, 0⟩⟩], 1, ⟨0, 4⟩⟩ : Sh) = (0, 10) := by decide +kernel
theorem en_e3 : faultS (⟨[⟨100, ⟨0, 1⟩⟩, ⟨8, ⟨0, 0⟩⟩, ⟨6, ⟨1, 2⟩⟩, ⟨5, ⟨0, 0⟩⟩], 1, ⟨2, 4⟩⟩ : Sh) = 1 := by decide +kernel
theorem en_e4 : faultS (⟨[⟨10, ⟨0, 1⟩⟩, ⟨8, ⟨1, 0⟩⟩, ⟨6, ⟨1, 2⟩⟩, ⟨5, ⟨0, 0⟩⟩], 1, ⟨2, 4⟩⟩ : Sh) = 1 := by decide +kernel
theorem en_e5 : bestQ (⟨[], 0, ⟨0, 0⟩⟩ : Sh) = ⟨[], 0, 0⟩ := by decide +kernel
theorem four_len : fourS.stacks.length = 4 := rfl
def PW9 (T : Sh) : Specs := addSpec 15 (spec0 T) P49
theorem PW9_app (T : Sh) (g : FuncId) : PW9 T g = (addSpec 15 (spec0 T) P49) g := rfl
theorem PW9_ok {T : Sh} (h : CallP Try.prog 15 [] (· = Enc.enc T)) : SpecsOk Try.prog (PW9 T) := addSpec_ok (spec0_ok h) P49_ok
def PN9 (T : Sh) : Specs := vecT [67, 76, 209, 210] (PW9 T)
theorem PN9_ok {T : Sh} (h : CallP Try.prog 15 [] (· = Enc.enc T)) : SpecsOk Try.prog (PN9 T) := vecT_ok (PW9_ok h)
theorem PN9_app (T : Sh) (g : FuncId) (h : ¬ (g = 4000000000)) : PN9 T g = PW9 T g := by unfold PN9 vecT; rw [if_neg h]
theorem PN9_flag (T : Sh) (d : Nat) : flagOf (PN9 T) (some d) = if d ∈ ([67, 76, 209, 210] : List Nat) then some d else none := flagOf_vecT _ _ d
attribute [go_sem] PN9_app PN9_flag
theorem names_gen (T : Sh) (h : CallP Try.prog 15 [] (· = Enc.enc T)) (hT : T.stacks.length = 4)
    (n1 : savedQ T [0, 1, 2, -1] = ([1, 1, 1, 2], 0)) (n2 : sureQ T [0, 1, 2, -1] = (24, 0)) (n3 : lostQ T = ([], 0)) (w0 : worthQ T 0 = (5, 0)) (w1 : worthQ T 1 = (3, 0)) (w2 : worthQ T 2 = (6, 0)) (w3 : worthQ T 3 = (0, 0)) (n4 : proveSureB T [0, 1, 2, -1] 24 = true) (n5 : proveSureB T [0, 1, 2, -1] 25 = false) (n6 : proveBoundB T [⟨5, 2⟩, ⟨10, 0⟩] 24 = true) (n7 : proveBoundB T [⟨5, 2⟩, ⟨10, 0⟩] 23 = false) (n8 : proveBoundB T [] 99 = false) (n9 : proveBoundB T [⟨5, 2⟩, ⟨5, 0⟩] 99 = false) (n10 : playQ T [0, 0, 1, 2] ⟨3, [0, 0, 1, 0]⟩ = ([], 2)) (n11 : playQ T [0, 1, 2, 3] ⟨5, [0, 0, 1, 0]⟩ = ([], 2)) (n12 : savedQ T [0, 1, 2] = ([], 2)) (n13 : sureQ T [0, 1, 2, 18] = (0, 2)) (n14 : worthQ T 4 = (0, 2)) (n15 : leftQ T [0, 1, 2, -1] 5 = ⟨⟨[], 0, ⟨0, 0⟩⟩, 0, 2⟩) (n16 : leftQ T [0, 1, 2, -2] 3 = ⟨⟨[], 0, ⟨0, 0⟩⟩, 0, 2⟩) (n17 : faultS ⟨T.stacks, 4, T.rain⟩ = 1) (n18 : faultS ⟨T.stacks, T.hands, ⟨3, 10⟩⟩ = 1) (n19 : faultS ⟨[⟨0, ⟨0, 0⟩⟩, ⟨0, ⟨0, 0⟩⟩, ⟨0, ⟨0, 0⟩⟩, ⟨0, ⟨0, 0⟩⟩, ⟨0, ⟨0, 0⟩⟩, ⟨0, ⟨0, 0⟩⟩, ⟨0, ⟨0, 0⟩⟩, ⟨0, ⟨0, 0⟩⟩, ⟨0, ⟨0, 0⟩⟩], T.hands, T.rain⟩ = 3) (e1 : lostQ (⟨[⟨10, ⟨0, 1⟩⟩, ⟨8, ⟨0, 0⟩⟩, ⟨6, ⟨0, 0⟩⟩, ⟨5, ⟨0, 0⟩⟩], 1, ⟨0, 4⟩⟩ : Sh) = ([0, 1, 2, 3], 0)) (e2 : handsQ (⟨[⟨10, ⟨0, 1⟩⟩, ⟨8, ⟨0, 0⟩⟩, ⟨6, ⟨0, 0⟩⟩, ⟨5, ⟨0, 0⟩⟩], 1, ⟨0, 4⟩⟩ : Sh) = (0, 10)) (e3 : faultS (⟨[⟨100, ⟨0, 1⟩⟩, ⟨8, ⟨0, 0⟩⟩, ⟨6, ⟨1, 2⟩⟩, ⟨5, ⟨0, 0⟩⟩], 1, ⟨2, 4⟩⟩ : Sh) = 1) (e4 : faultS (⟨[⟨10, ⟨0, 1⟩⟩, ⟨8, ⟨1, 0⟩⟩, ⟨6, ⟨1, 2⟩⟩, ⟨5, ⟨0, 0⟩⟩], 1, ⟨2, 4⟩⟩ : Sh) = 1) (e5 : bestQ (⟨[], 0, ⟨0, 0⟩⟩ : Sh) = ⟨[], 0, 0⟩) : CallP Try.prog 5 [] (· = Enc.enc true) := by
  simp only [enc_bool]
  refine callP_of_vc (Φ := PN9 T) Try.func5 rfl (by rfl) (by rw [Try.ntmps5]; simp) mixed (PN9_ok h) (by simp [AV.strip, AV.strip1, Tk.strip]) ?_
  rw [Try.ntmps5]
  simp only [Try.f5, startSt, tmFrom]
  refine vc_seqK fun Q1 h1 => ?_
  simp (maxSteps := 4000000) only [go_sem, AV.one, drawV, intsOf, keyIdx, over, putO, memAt, List.map_cons, List.length_cons, ↓reduceIte, zdrop, one_i, one_b, one_sl, one_ptr, one_ref, one_nilp, one_mp, one_fn, one_nilf, dep_uk, PW9_app]
  all_goals (repeat' (first | with_reducible rfl | with_reducible apply And.intro | ((with_reducible show drawOK _ _ = true); rfl))) <;> (try first | omega | (simp only [InR]; omega) | with_reducible assumption)
  rw [h1]; clear h1 Q1; simp only [thenA, vc_assoc]
  refine vc_seqK fun Q1 h1 => ?_
  simp (maxSteps := 4000000) only [go_sem, AV.one, drawV, intsOf, keyIdx, over, putO, memAt, List.map_cons, List.length_cons, ↓reduceIte, zdrop, one_i, one_b, one_sl, one_ptr, one_ref, one_nilp, one_mp, one_fn, one_nilf, dep_uk, PW9_app, n1]
  all_goals (repeat' (first | with_reducible rfl | with_reducible apply And.intro | ((with_reducible show drawOK _ _ = true); rfl))) <;> (try first | omega | (simp only [InR]; omega) | with_reducible assumption)
  rw [h1]; clear h1 Q1; simp only [thenA, vc_assoc]
  refine vc_seqK fun Q1 h1 => ?_
  simp (maxSteps := 4000000) only [go_sem, AV.one, drawV, intsOf, keyIdx, over, putO, memAt, List.map_cons, List.length_cons, ↓reduceIte, zdrop, one_i, one_b, one_sl, one_ptr, one_ref, one_nilp, one_mp, one_fn, one_nilf, dep_uk, PW9_app, n2]
  all_goals (repeat' (first | with_reducible rfl | with_reducible apply And.intro | ((with_reducible show drawOK _ _ = true); rfl))) <;> (try first | omega | (simp only [InR]; omega) | with_reducible assumption)
  rw [h1]; clear h1 Q1; simp only [thenA, vc_assoc]
  refine vc_seqK fun Q1 h1 => ?_
  simp (maxSteps := 4000000) only [go_sem, AV.one, drawV, intsOf, keyIdx, over, putO, memAt, List.map_cons, List.length_cons, ↓reduceIte, zdrop, one_i, one_b, one_sl, one_ptr, one_ref, one_nilp, one_mp, one_fn, one_nilf, dep_uk, PW9_app, n3]
  all_goals (repeat' (first | with_reducible rfl | with_reducible apply And.intro | ((with_reducible show drawOK _ _ = true); rfl))) <;> (try first | omega | (simp only [InR]; omega) | with_reducible assumption)
  rw [h1]; clear h1 Q1; simp only [thenA, vc_assoc]
  iterate 2 (
    refine vc_seqK fun Q1 h1 => ?_
    simp (maxSteps := 4000000) only [go_sem, AV.one, drawV, intsOf, keyIdx, over, putO, memAt, List.map_cons, List.length_cons, ↓reduceIte, zdrop, one_i, one_b, one_sl, one_ptr, one_ref, one_nilp, one_mp, one_fn, one_nilf, dep_uk, PW9_app]
    all_goals (repeat' (first | with_reducible rfl | with_reducible apply And.intro | ((with_reducible show drawOK _ _ = true); rfl))) <;> (try first | omega | (simp only [InR]; omega) | with_reducible assumption)
    rw [h1]; clear h1 Q1; simp only [thenA, vc_assoc])
  refine loopN (4) [] [0, 1, 2, 3, 4, 5, 6, 7] (fun i => [(8, .int .i64 i)]) (fun _ m => m) (fun _ => True) ?_ ?_ ?_ ?_
  · trivial
  · simp [AV.bare, bel_ints, cs_arr, dep_arr, cs_int, cs_bool, cs_list, cs_sk, cs_sp, AtHead, Same, AllO, Begins, LtAll, headSt, tokz_nil, tokz_cons, tokz1, lk, dep_int, dep_bool, dep_list, dep_sk, dep_sp, memAt, bel_map, bel_mapF, bel_mapO, bel_undef, bel_int, bel_boolv, bel_nilp, bel_nilf, bel_ptr, bel_arr, bel_mp, bel_yld, bel_agg, bel_tup, bel_ref, bel_only, bel_mpr, bel_fn, bel_sl_nil, bel_sl_nilF, bel_sl_nilO, bel_sl_cons, bel_sl_app, belO_cells, belO_tok, belO_dead, belO_deferred, belO_map, belO_iter, belO_loop, bel_vec, bel_vp, belO_vecM, belO_vec, -List.map_map]
  · intro i hi _
    rcases (by omega : i = 0 ∨ i = 1 ∨ i = 2 ∨ i = 3) with rfl | rfl | rfl | rfl
    all_goals
      simp (maxSteps := 4000000) only [go_sem, AV.one, drawV, intsOf, keyIdx, over, putO, memAt, List.map_cons, List.length_cons, ↓reduceIte, zdrop, one_i, one_b, one_sl, one_ptr, one_ref, one_nilp, one_mp, one_fn, one_nilf, dep_uk, PW9_app, w0, w1, w2, w3, decide_true, decide_false, Int.cast_ofNat_Int, bne_self_eq_false]
      all_goals (repeat' (first | with_reducible rfl | with_reducible apply And.intro | ((with_reducible show drawOK _ _ = true); rfl))) <;> (try first | omega | (simp only [InR]; omega) | with_reducible assumption)
      refine nxt hi trivial ?_
      simp [AV.bare, bel_ints, cs_arr, dep_arr, cs_int, cs_bool, cs_list, cs_sk, cs_sp, AtHead, Same, AllO, Begins, LtAll, headSt, tokz_nil, tokz_cons, tokz1, lk, dep_int, dep_bool, dep_list, dep_sk, dep_sp, memAt, bel_map, bel_mapF, bel_mapO, bel_undef, bel_int, bel_boolv, bel_nilp, bel_nilf, bel_ptr, bel_arr, bel_mp, bel_yld, bel_agg, bel_tup, bel_ref, bel_only, bel_mpr, bel_fn, bel_sl_nil, bel_sl_nilF, bel_sl_nilO, bel_sl_cons, bel_sl_app, belO_cells, belO_tok, belO_dead, belO_deferred, belO_map, belO_iter, belO_loop, bel_vec, bel_vp, belO_vecM, belO_vec, -List.map_map]
  · intro _
    refine vc_seqK fun Q1 h1 => ?_
    simp (maxSteps := 4000000) only [go_sem, AV.one, drawV, intsOf, keyIdx, over, putO, memAt, List.map_cons, List.length_cons, ↓reduceIte, zdrop, one_i, one_b, one_sl, one_ptr, one_ref, one_nilp, one_mp, one_fn, one_nilf, dep_uk, PW9_app, decide_true, decide_false, Int.cast_ofNat_Int, bne_self_eq_false]
    all_goals (repeat' (first | with_reducible rfl | with_reducible apply And.intro | ((with_reducible show drawOK _ _ = true); rfl))) <;> (try first | omega | (simp only [InR]; omega) | with_reducible assumption)
    rw [h1]; clear h1 Q1; simp only [thenA, vc_assoc]
    refine vc_seqK fun Q1 h1 => ?_
    simp (maxSteps := 4000000) only [go_sem, AV.one, drawV, intsOf, keyIdx, over, putO, memAt, List.map_cons, List.length_cons, ↓reduceIte, zdrop, one_i, one_b, one_sl, one_ptr, one_ref, one_nilp, one_mp, one_fn, one_nilf, dep_uk, PW9_app]
    all_goals (repeat' (first | with_reducible rfl | with_reducible apply And.intro | ((with_reducible show drawOK _ _ = true); rfl))) <;> (try first | omega | (simp only [InR]; omega) | with_reducible assumption)
    refine ⟨_, fourX_call ?_, ?_⟩
    · simp [AV.bare, bel_ints, cs_arr, dep_arr, cs_int, cs_bool, cs_list, cs_sk, cs_sp, AtHead, Same, AllO, Begins, LtAll, headSt, tokz_nil, tokz_cons, tokz1, lk, dep_int, dep_bool, dep_list, dep_sk, dep_sp, memAt, bel_map, bel_mapF, bel_mapO, bel_undef, bel_int, bel_boolv, bel_nilp, bel_nilf, bel_ptr, bel_arr, bel_mp, bel_yld, bel_agg, bel_tup, bel_ref, bel_only, bel_mpr, bel_fn, bel_sl_nil, bel_sl_nilF, bel_sl_nilO, bel_sl_cons, bel_sl_app, belO_cells, belO_tok, belO_dead, belO_deferred, belO_map, belO_iter, belO_loop, bel_vec, bel_vp, belO_vecM, belO_vec]
    rintro r m ⟨⟨o0, rfl, rfl⟩, hb⟩ _
    simp (maxSteps := 4000000) only [go_sem, AV.one, drawV, intsOf, keyIdx, over, putO, memAt, List.map_cons, List.length_cons, ↓reduceIte, zdrop, one_i, one_b, one_sl, one_ptr, one_ref, one_nilp, one_mp, one_fn, one_nilf, dep_uk, PW9_app]
    all_goals (repeat' (first | with_reducible rfl | with_reducible apply And.intro | ((with_reducible show drawOK _ _ = true); rfl))) <;> (try first | omega | (simp only [InR]; omega) | with_reducible assumption)
    rw [h1]; clear h1 Q1; simp only [thenA, vc_assoc]
    refine vc_seqK fun Q1 h1 => ?_
    simp (maxSteps := 4000000) only [go_sem, AV.one, drawV, intsOf, keyIdx, over, putO, memAt, List.map_cons, List.length_cons, ↓reduceIte, zdrop, one_i, one_b, one_sl, one_ptr, one_ref, one_nilp, one_mp, one_fn, one_nilf, dep_uk, PW9_app]
    all_goals (repeat' (first | with_reducible rfl | with_reducible apply And.intro | ((with_reducible show drawOK _ _ = true); rfl))) <;> (try first | omega | (simp only [InR]; omega) | with_reducible assumption)
    rw [h1]; clear h1 Q1; simp only [thenA, vc_assoc]
    refine vc_seqK fun Q1 h1 => ?_
    simp (maxSteps := 4000000) only [go_sem, AV.one, drawV, intsOf, keyIdx, over, putO, memAt, List.map_cons, List.length_cons, ↓reduceIte, zdrop, one_i, one_b, one_sl, one_ptr, one_ref, one_nilp, one_mp, one_fn, one_nilf, dep_uk, PW9_app, e1]
    all_goals (repeat' (first | with_reducible rfl | with_reducible apply And.intro | ((with_reducible show drawOK _ _ = true); rfl))) <;> (try first | omega | (simp only [InR]; omega) | with_reducible assumption)
    rw [h1]; clear h1 Q1; simp only [thenA, vc_assoc]
    refine vc_seqK fun Q1 h1 => ?_
    simp (maxSteps := 4000000) only [go_sem, AV.one, drawV, intsOf, keyIdx, over, putO, memAt, List.map_cons, List.length_cons, ↓reduceIte, zdrop, one_i, one_b, one_sl, one_ptr, one_ref, one_nilp, one_mp, one_fn, one_nilf, dep_uk, PW9_app, e2]
    all_goals (repeat' (first | with_reducible rfl | with_reducible apply And.intro | ((with_reducible show drawOK _ _ = true); rfl))) <;> (try first | omega | (simp only [InR]; omega) | with_reducible assumption)
    rw [h1]; clear h1 Q1; simp only [thenA, vc_assoc]
    refine vc_seqK fun Q1 h1 => ?_
    simp (maxSteps := 4000000) only [go_sem, AV.one, drawV, intsOf, keyIdx, over, putO, memAt, List.map_cons, List.length_cons, ↓reduceIte, zdrop, one_i, one_b, one_sl, one_ptr, one_ref, one_nilp, one_mp, one_fn, one_nilf, dep_uk, PW9_app]
    all_goals (repeat' (first | with_reducible rfl | with_reducible apply And.intro | ((with_reducible show drawOK _ _ = true); rfl))) <;> (try first | omega | (simp only [InR]; omega) | with_reducible assumption)
    rw [h1]; clear h1 Q1; simp only [thenA, vc_assoc]
    refine vc_seqK fun Q1 h1 => ?_
    simp (maxSteps := 4000000) only [go_sem, AV.one, drawV, intsOf, keyIdx, over, putO, memAt, List.map_cons, List.length_cons, ↓reduceIte, zdrop, one_i, one_b, one_sl, one_ptr, one_ref, one_nilp, one_mp, one_fn, one_nilf, dep_uk, PW9_app, List.append_eq, n4, n5, n6, n7, n8, n9, decide_true, decide_false, Int.cast_ofNat_Int, bne_self_eq_false]
    all_goals (repeat' (first | with_reducible rfl | with_reducible apply And.intro | ((with_reducible show drawOK _ _ = true); rfl))) <;> (try first | omega | (simp only [InR]; omega) | with_reducible assumption)
    rw [h1]; clear h1 Q1; simp only [thenA, vc_assoc]
    refine vc_seqK fun Q1 h1 => ?_
    simp (maxSteps := 4000000) only [go_sem, AV.one, drawV, intsOf, keyIdx, over, putO, memAt, List.map_cons, List.length_cons, ↓reduceIte, zdrop, one_i, one_b, one_sl, one_ptr, one_ref, one_nilp, one_mp, one_fn, one_nilf, dep_uk, PW9_app, decide_true, decide_false, Int.cast_ofNat_Int, bne_self_eq_false]
    all_goals (repeat' (first | with_reducible rfl | with_reducible apply And.intro | ((with_reducible show drawOK _ _ = true); rfl))) <;> (try first | omega | (simp only [InR]; omega) | with_reducible assumption)
    rw [h1]; clear h1 Q1; try simp only [thenA, vc_assoc]
    refine vc_seqK fun Q1 h1 => ?_
    simp (maxSteps := 4000000) only [go_sem, AV.one, drawV, intsOf, keyIdx, over, putO, memAt, List.map_cons, List.length_cons, ↓reduceIte, zdrop, one_i, one_b, one_sl, one_ptr, one_ref, one_nilp, one_mp, one_fn, one_nilf, dep_uk, PW9_app, n10]
    all_goals (repeat' (first | with_reducible rfl | with_reducible apply And.intro | ((with_reducible show drawOK _ _ = true); rfl))) <;> (try first | omega | (simp only [InR]; omega) | with_reducible assumption)
    rw [h1]; clear h1 Q1; simp only [thenA, vc_assoc]
    refine vc_seqK fun Q1 h1 => ?_
    simp (maxSteps := 4000000) only [go_sem, AV.one, drawV, intsOf, keyIdx, over, putO, memAt, List.map_cons, List.length_cons, ↓reduceIte, zdrop, one_i, one_b, one_sl, one_ptr, one_ref, one_nilp, one_mp, one_fn, one_nilf, dep_uk, PW9_app, n11]
    all_goals (repeat' (first | with_reducible rfl | with_reducible apply And.intro | ((with_reducible show drawOK _ _ = true); rfl))) <;> (try first | omega | (simp only [InR]; omega) | with_reducible assumption)
    rw [h1]; clear h1 Q1; simp only [thenA, vc_assoc]
    refine vc_seqK fun Q1 h1 => ?_
    simp (maxSteps := 4000000) only [go_sem, AV.one, drawV, intsOf, keyIdx, over, putO, memAt, List.map_cons, List.length_cons, ↓reduceIte, zdrop, one_i, one_b, one_sl, one_ptr, one_ref, one_nilp, one_mp, one_fn, one_nilf, dep_uk, PW9_app, n12]
    all_goals (repeat' (first | with_reducible rfl | with_reducible apply And.intro | ((with_reducible show drawOK _ _ = true); rfl))) <;> (try first | omega | (simp only [InR]; omega) | with_reducible assumption)
    rw [h1]; clear h1 Q1; simp only [thenA, vc_assoc]
    refine vc_seqK fun Q1 h1 => ?_
    simp (maxSteps := 4000000) only [go_sem, AV.one, drawV, intsOf, keyIdx, over, putO, memAt, List.map_cons, List.length_cons, ↓reduceIte, zdrop, one_i, one_b, one_sl, one_ptr, one_ref, one_nilp, one_mp, one_fn, one_nilf, dep_uk, PW9_app, n13]
    all_goals (repeat' (first | with_reducible rfl | with_reducible apply And.intro | ((with_reducible show drawOK _ _ = true); rfl))) <;> (try first | omega | (simp only [InR]; omega) | with_reducible assumption)
    rw [h1]; clear h1 Q1; simp only [thenA, vc_assoc]
    refine vc_seqK fun Q1 h1 => ?_
    simp (maxSteps := 4000000) only [go_sem, AV.one, drawV, intsOf, keyIdx, over, putO, memAt, List.map_cons, List.length_cons, ↓reduceIte, zdrop, one_i, one_b, one_sl, one_ptr, one_ref, one_nilp, one_mp, one_fn, one_nilf, dep_uk, PW9_app, n14]
    all_goals (repeat' (first | with_reducible rfl | with_reducible apply And.intro | ((with_reducible show drawOK _ _ = true); rfl))) <;> (try first | omega | (simp only [InR]; omega) | with_reducible assumption)
    rw [h1]; clear h1 Q1; simp only [thenA, vc_assoc]
    refine vc_seqK fun Q1 h1 => ?_
    simp (maxSteps := 4000000) only [go_sem, AV.one, drawV, intsOf, keyIdx, over, putO, memAt, List.map_cons, List.length_cons, ↓reduceIte, zdrop, one_i, one_b, one_sl, one_ptr, one_ref, one_nilp, one_mp, one_fn, one_nilf, dep_uk, PW9_app, n15]
    all_goals (repeat' (first | with_reducible rfl | with_reducible apply And.intro | ((with_reducible show drawOK _ _ = true); rfl))) <;> (try first | omega | (simp only [InR]; omega) | with_reducible assumption)
    rw [h1]; clear h1 Q1; simp only [thenA, vc_assoc]
    refine vc_seqK fun Q1 h1 => ?_
    simp (maxSteps := 4000000) only [go_sem, AV.one, drawV, intsOf, keyIdx, over, putO, memAt, List.map_cons, List.length_cons, ↓reduceIte, zdrop, one_i, one_b, one_sl, one_ptr, one_ref, one_nilp, one_mp, one_fn, one_nilf, dep_uk, PW9_app, n16]
    all_goals (repeat' (first | with_reducible rfl | with_reducible apply And.intro | ((with_reducible show drawOK _ _ = true); rfl))) <;> (try first | omega | (simp only [InR]; omega) | with_reducible assumption)
    rw [h1]; clear h1 Q1; simp only [thenA, vc_assoc]
    refine vc_seqK fun Q1 h1 => ?_
    simp (maxSteps := 4000000) only [go_sem, AV.one, drawV, intsOf, keyIdx, over, putO, memAt, List.map_cons, List.length_cons, ↓reduceIte, zdrop, one_i, one_b, one_sl, one_ptr, one_ref, one_nilp, one_mp, one_fn, one_nilf, dep_uk, PW9_app]
    all_goals (repeat' (first | with_reducible rfl | with_reducible apply And.intro | ((with_reducible show drawOK _ _ = true); rfl))) <;> (try first | omega | (simp only [InR]; omega) | with_reducible assumption)
    refine ⟨_, fourX_call ?_, ?_⟩
    · have ho3 : belO 3 o0 := by simpa using hb o0 (by simp)
      have ho0 : belO 5 o0 := belO_mono (by omega) _ ho3
      simp [AV.bare, bel_ints, cs_arr, dep_arr, cs_int, cs_bool, cs_list, cs_sk, cs_sp, AtHead, Same, AllO, Begins, LtAll, headSt, tokz_nil, tokz_cons, tokz1, lk, dep_int, dep_bool, dep_list, dep_sk, dep_sp, memAt, bel_map, bel_mapF, bel_mapO, bel_undef, bel_int, bel_boolv, bel_nilp, bel_nilf, bel_ptr, bel_arr, bel_mp, bel_yld, bel_agg, bel_tup, bel_ref, bel_only, bel_mpr, bel_fn, bel_sl_nil, bel_sl_nilF, bel_sl_nilO, bel_sl_cons, bel_sl_app, belO_cells, belO_tok, belO_dead, belO_deferred, belO_map, belO_iter, belO_loop, bel_vec, bel_vp, belO_vecM, belO_vec, ho0]
    rintro r m ⟨⟨o1, rfl, rfl⟩, hb2⟩ _
    simp (maxSteps := 4000000) only [go_sem, AV.one, drawV, intsOf, keyIdx, over, putO, memAt, List.map_cons, List.length_cons, ↓reduceIte, zdrop, one_i, one_b, one_sl, one_ptr, one_ref, one_nilp, one_mp, one_fn, one_nilf, dep_uk, PW9_app]
    all_goals (repeat' (first | with_reducible rfl | with_reducible apply And.intro | ((with_reducible show drawOK _ _ = true); rfl))) <;> (try first | omega | (simp only [InR]; omega) | with_reducible assumption)
    refine ⟨_, fourX_call hb2, ?_⟩
    rintro r m ⟨⟨o2, rfl, rfl⟩, hb3⟩ _
    simp (maxSteps := 4000000) only [go_sem, AV.one, drawV, intsOf, keyIdx, over, putO, memAt, List.map_cons, List.length_cons, ↓reduceIte, zdrop, one_i, one_b, one_sl, one_ptr, one_ref, one_nilp, one_mp, one_fn, one_nilf, dep_uk, PW9_app]
    all_goals (repeat' (first | with_reducible rfl | with_reducible apply And.intro | ((with_reducible show drawOK _ _ = true); rfl))) <;> (try first | omega | (simp only [InR]; omega) | with_reducible assumption)
    rw [h1]; clear h1 Q1; simp only [thenA, vc_assoc]
    clear hb hb2 hb3
    iterate 5 (
      refine vc_seqK fun Q1 h1 => ?_
      simp (maxSteps := 4000000) only [go_sem, AV.one, drawV, intsOf, keyIdx, over, putO, memAt, List.map_cons, List.length_cons, ↓reduceIte, zdrop, one_i, one_b, one_sl, one_ptr, one_ref, one_nilp, one_mp, one_fn, one_nilf, dep_uk, PW9_app]
      all_goals (repeat' (first | with_reducible rfl | with_reducible apply And.intro | ((with_reducible show drawOK _ _ = true); rfl))) <;> (try first | omega | (simp only [InR]; omega) | with_reducible assumption)
      rw [h1]; clear h1 Q1; simp only [thenA, vc_assoc])
    simp (maxSteps := 4000000) only [go_sem, AV.one, drawV, intsOf, keyIdx, over, putO, memAt, List.map_cons, List.length_cons, ↓reduceIte, zdrop, one_i, one_b, one_sl, one_ptr, one_ref, one_nilp, one_mp, one_fn, one_nilf, dep_uk, PW9_app, List.append_eq, n17, n18, n19, e3, e4, e5, decide_true, decide_false, Int.cast_ofNat_Int, bne_self_eq_false]
    all_goals (repeat' (first | with_reducible rfl | with_reducible apply And.intro | ((with_reducible show drawOK _ _ = true); rfl))) <;> (try first | omega | (simp only [InR]; omega) | with_reducible assumption)
theorem ShelterNames_true : CallP Try.prog 5 [] (· = Enc.enc true) :=
  names_gen fourS four_call four_len en_n1 en_n2 en_n3 en_w0 en_w1 en_w2 en_w3 en_n4 en_n5 en_n6 en_n7 en_n8 en_n9 en_n10 en_n11 en_n12 en_n13 en_n14 en_n15 en_n16 en_n17 en_n18 en_n19 en_e1 en_e2 en_e3 en_e4 en_e5
end Go.Proofs
