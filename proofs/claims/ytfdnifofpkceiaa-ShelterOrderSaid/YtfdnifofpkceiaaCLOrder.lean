/- The law ShelterOrder. -/
import Derived.Test.YtfdnifofpkceiaaG14
set_option linter.all false
namespace Go.Proofs
open Go.Fs
set_option linter.unusedSimpArgs false
set_option linter.unusedVariables false
set_option maxHeartbeats 4000000
set_option maxRecDepth 8000
theorem drawF_K {P : Program} {Φ : Specs} {fl : Nat} {ops : List Oper} {K : St → Prop} {st : St} (h : ∀ K', K' = K → drawF P Φ fl ops K' st) : drawF P Φ fl ops K st := h _ rfl
def P4911 : Specs := vecT [46, 74, 1000006] P49
theorem P4911_app (g : FuncId) (h : ¬ (g = 4000000000)) : P4911 g = P49 g := by unfold P4911 vecT; rw [if_neg h]
theorem P4911_ok : SpecsOk Try.prog P4911 := vecT_ok P49_ok
theorem P4911_flag (d : Nat) : flagOf P4911 (some d) = if d ∈ ([46, 74, 1000006] : List Nat) then some d else none := flagOf_vecT _ _ d
attribute [go_sem] P4911_app P4911_flag
theorem ShelterOrder_true (s : Sh) (one other : Int) (h1 : InR .u8 one) (h2 : InR .u8 other) : CallP Try.prog 4 [Enc.enc s, AV.int .u8 one, AV.int .u8 other] (· = Enc.enc true) := by
  unfold InR at h1 h2
  cases c1 : thinB s
  · simp only [enc_fnl, enc_fnb, enc_fnc, enc_refc, enc_arr, enc_int, enc_bool, enc_list, enc_sk, enc_sp, enc_rg, enc_sh, enc_tr, enc_refs, enc_fns, enc_wks]
    refine callP_of_vc (Φ := P4911) Try.func4 rfl (by rfl) (by rw [Try.ntmps4]; simp) mixed P4911_ok (by simp [AV.strip, AV.strip1, Tk.strip]) ?_
    rw [Try.ntmps4]
    simp only [Try.f4, startSt, tmFrom]
    simp (maxSteps := 4000000) only [go_sem, AV.one, drawV, intsOf, keyIdx, over, putO, memAt, List.map_cons, List.length_cons, ↓reduceIte, zdrop, one_i, one_b, one_sl, one_ptr, one_ref, one_nilp, one_mp, one_fn, one_nilf, dep_uk, c1]
    all_goals (repeat' (first | with_reducible rfl | with_reducible apply And.intro | ((with_reducible show drawOK _ _ = true); rfl))) <;> (try first | omega | (simp only [InR]; omega) | with_reducible assumption)
  have hl := thin_len c1
  cases c2 : decide (faultS s = 0)
  · simp only [enc_fnl, enc_fnb, enc_fnc, enc_refc, enc_arr, enc_int, enc_bool, enc_list, enc_sk, enc_sp, enc_rg, enc_sh, enc_tr, enc_refs, enc_fns, enc_wks]
    refine callP_of_vc (Φ := P4911) Try.func4 rfl (by rfl) (by rw [Try.ntmps4]; simp) mixed P4911_ok (by simp [AV.strip, AV.strip1, Tk.strip]) ?_
    rw [Try.ntmps4]
    simp only [Try.f4, startSt, tmFrom]
    simp (maxSteps := 4000000) only [go_sem, AV.one, drawV, intsOf, keyIdx, over, putO, memAt, List.map_cons, List.length_cons, ↓reduceIte, zdrop, one_i, one_b, one_sl, one_ptr, one_ref, one_nilp, one_mp, one_fn, one_nilf, dep_uk, c1, c2]
    all_goals (repeat' (first | with_reducible rfl | with_reducible apply And.intro | ((with_reducible show drawOK _ _ = true); rfl))) <;> (try first | omega | (simp only [InR]; omega) | with_reducible assumption)
  have hf : faultS s = 0 := by simpa using c2
  have hs := fault_ok hf
  have h8 := hs.len
  by_cases c3 : s.stacks.length = 0
  · simp only [enc_fnl, enc_fnb, enc_fnc, enc_refc, enc_arr, enc_int, enc_bool, enc_list, enc_sk, enc_sp, enc_rg, enc_sh, enc_tr, enc_refs, enc_fns, enc_wks]
    refine callP_of_vc (Φ := P4911) Try.func4 rfl (by rfl) (by rw [Try.ntmps4]; simp) mixed P4911_ok (by simp [AV.strip, AV.strip1, Tk.strip]) ?_
    rw [Try.ntmps4]
    simp only [Try.f4, startSt, tmFrom]
    simp (maxSteps := 4000000) only [go_sem, AV.one, drawV, intsOf, keyIdx, over, putO, memAt, List.map_cons, List.length_cons, ↓reduceIte, zdrop, one_i, one_b, one_sl, one_ptr, one_ref, one_nilp, one_mp, one_fn, one_nilf, dep_uk, c1, c2, c3, Int.natCast_zero]
    all_goals (repeat' (first | with_reducible rfl | with_reducible apply And.intro | ((with_reducible show drawOK _ _ = true); rfl))) <;> (try first | omega | (simp only [InR]; omega) | with_reducible assumption)
  have c3' : decide ((s.stacks.length : Int) = 0) = false := by rw [decide_eq_false_iff_not]; omega
  have ha1 := Int.emod_nonneg one (show (s.stacks.length : Int) ≠ 0 by omega)
  have ha2 := Int.emod_lt_of_pos one (show 0 < (s.stacks.length : Int) by omega)
  have hb1 := Int.emod_nonneg other (show (s.stacks.length : Int) ≠ 0 by omega)
  have hb2 := Int.emod_lt_of_pos other (show 0 < (s.stacks.length : Int) by omega)
  obtain ⟨a, ha⟩ := Int.eq_ofNat_of_zero_le ha1
  obtain ⟨b, hb⟩ := Int.eq_ofNat_of_zero_le hb1
  have hal : a < s.stacks.length := by omega
  have hbl : b < s.stacks.length := by omega
  have hali := Int.ofNat_lt.2 hal
  have hbli := Int.ofNat_lt.2 hbl
  have hx := swap_ok hs hal hbl
  have m1 := best_good hs
  have m2 := best_good hx
  rw [swap_most hs hal hbl] at m2
  have w1 := worth_good hs hal
  have w2 := worth_good (i := b) hx (by show b < (swapL s.stacks a b).length; rw [swapL_len]; exact hbl)
  rw [swap_worth hs hal hbl] at w2
  have hxe : (⟨swapL s.stacks a b, s.hands, s.rain⟩ : Sh) = swapS s a b := rfl
  have hxl : (swapL s.stacks a b).length = s.stacks.length := swapL_len _ _ _
  obtain ⟨X, hX⟩ : ∃ X, swapL s.stacks a b = X := ⟨_, rfl⟩
  obtain ⟨S, hS⟩ : ∃ S, swapS s a b = S := ⟨_, rfl⟩
  have hset := set_sk s.stacks a (at_ s.stacks b)
  have hset2 := set_sk (s.stacks.set a (at_ s.stacks b)) b (at_ s.stacks a)
  rw [show (s.stacks.set a (at_ s.stacks b)).set b (at_ s.stacks a) = X from hX] at hset2
  rw [hX, hS] at hxe
  rw [hX] at hxl
  rw [hS] at m2 w2 hx
  have htk : List.take s.stacks.length (X.map EncE.cs) = X.map EncE.cs := List.take_of_length_le (by rw [List.length_map, hxl]; exact Nat.le_refl _)
  have hbsl : (s.stacks.set a (at_ s.stacks b)).length = s.stacks.length := by simp
  have hbs : b < (s.stacks.set a (at_ s.stacks b)).length := by rw [hbsl]; exact hbl
  have honeS : ∀ x ∈ s.stacks.map EncE.cs, ∀ c ∈ x, AV.one c = true := fun x hx c hc => by
    obtain ⟨a, _, rfl⟩ := List.mem_map.1 hx
    simp only [EncE.cs, List.mem_cons, List.not_mem_nil, or_false] at hc
    rcases hc with rfl | rfl | rfl <;> rfl
  have hlnS : ∀ x ∈ s.stacks.map EncE.cs, x.length = 3 := fun x hx => by
    obtain ⟨a, _, rfl⟩ := List.mem_map.1 hx
    rfl
  have hSl : S.stacks.length = s.stacks.length := by rw [← hS]; exact swapL_len _ _ _
  have g1 := getD_mapA (f := EncE.cs) hal
  have g2 := getD_mapA (f := EncE.cs) hbl
  have g3 := getD_mapA (f := EncE.cs) hbs
  simp only [enc_fnl, enc_fnb, enc_fnc, enc_refc, enc_arr, enc_int, enc_bool, enc_list, enc_sk, enc_sp, enc_rg, enc_sh, enc_tr, enc_refs, enc_fns, enc_wks]
  refine callP_of_vc (Φ := P4911) Try.func4 rfl (by rfl) (by rw [Try.ntmps4]; simp) mixed P4911_ok (by simp [AV.strip, AV.strip1, Tk.strip]) ?_
  rw [Try.ntmps4]
  simp only [Try.f4, startSt, tmFrom]
  iterate 2 (
    refine vc_seqK fun Q1 h1 => ?_
    simp (maxSteps := 4000000) only [go_sem, AV.one, drawV, intsOf, keyIdx, over, putO, memAt, List.map_cons, List.length_cons, ↓reduceIte, zdrop, one_i, one_b, one_sl, one_ptr, one_ref, one_nilp, one_mp, one_fn, one_nilf, dep_uk, c1, c2, c3']
    all_goals (repeat' (first | with_reducible rfl | with_reducible apply And.intro | ((with_reducible show drawOK _ _ = true); rfl))) <;> (try first | omega | (simp only [InR]; omega) | with_reducible assumption)
    rw [h1]; clear h1 Q1; simp only [thenA, vc_assoc])
  iterate 2 (
    refine vc_seqK fun Q1 h1 => ?_
    simp (maxSteps := 4000000) only [go_sem, AV.one, drawV, intsOf, keyIdx, over, putO, memAt, List.map_cons, List.length_cons, ↓reduceIte, zdrop, one_i, one_b, one_sl, one_ptr, one_ref, one_nilp, one_mp, one_fn, one_nilf, dep_uk, ha, hb]
    all_goals (repeat' (first | with_reducible rfl | with_reducible apply And.intro | ((with_reducible show drawOK _ _ = true); rfl))) <;> (try first | omega | (simp only [InR]; omega) | with_reducible assumption)
    rw [h1]; clear h1 Q1; simp only [thenA, vc_assoc])
  refine vc_seqK fun Q1 h1 => ?_
  simp (maxSteps := 4000000) only [go_sem, AV.one, drawV, intsOf, keyIdx, over, putO, memAt, List.map_cons, List.length_cons, ↓reduceIte, zdrop, one_i, one_b, one_sl, one_ptr, one_ref, one_nilp, one_mp, one_fn, one_nilf, dep_uk]
  all_goals (repeat' (first | with_reducible rfl | with_reducible apply And.intro | ((with_reducible show drawOK _ _ = true); rfl))) <;> (try first | omega | (simp only [InR]; omega) | with_reducible assumption)
  rw [h1]; clear h1 Q1; simp only [thenA, vc_assoc]
  refine vc_seqK fun Q1 h1 => ?_
  simp (maxSteps := 4000000) only [go_sem, drawV, intsOf, keyIdx, over, putO, memAt, List.map_cons, List.length_cons, ↓reduceIte, zdrop, one_i, one_b, one_sl, one_ptr, one_ref, one_nilp, one_mp, one_fn, one_nilf, dep_uk, honeS, hlnS]
  all_goals (repeat' (first | with_reducible rfl | with_reducible apply And.intro | ((with_reducible show drawOK _ _ = true); rfl))) <;> (try first | omega | (simp only [InR]; omega) | with_reducible assumption)
  rw [h1]; clear h1 Q1; simp only [thenA, vc_assoc]
  refine vc_seqK fun Q1 h1 => ?_
  simp (maxSteps := 4000000) only [go_sem, AV.one, drawV, intsOf, keyIdx, over, putO, memAt, List.map_cons, List.length_cons, ↓reduceIte, zdrop, one_i, one_b, one_sl, one_ptr, one_ref, one_nilp, one_mp, one_fn, one_nilf, dep_uk]
  all_goals (repeat' (first | with_reducible rfl | with_reducible apply And.intro | ((with_reducible show drawOK _ _ = true); rfl))) <;> (try first | omega | (simp only [InR]; omega) | with_reducible assumption)
  refine ⟨16, by rfl, ?_⟩
  simp (maxSteps := 4000000) only [go_sem, AV.one, drawV, intsOf, keyIdx, over, putO, memAt, List.map_cons, List.length_cons, ↓reduceIte, zdrop, one_i, one_b, one_sl, one_ptr, one_ref, one_nilp, one_mp, one_fn, one_nilf, dep_uk, (show Nat.testBit 16 399 = false from rfl), Bool.false_and, Bool.true_and, Bool.false_eq_true, (show Nat.testBit 16 200 = false from rfl), (show ∀ m, hideM false m = m from fun _ => rfl), memAt_hide, hideM_length, hideO, drawF, vcFr, Go.Fs.freeR, effL, apart, objOf, List.all_cons, List.all_nil, List.contains_cons, List.contains_nil, Nat.reduceBEq, Bool.or_self, (show Nat.testBit 16 0 = false from rfl), (show Nat.testBit 16 1 = false from rfl), (show Nat.testBit 16 2 = false from rfl), (show Nat.testBit 16 3 = false from rfl), (show Nat.testBit 16 4 = true from rfl), (show Nat.testBit 16 5 = false from rfl), (show Nat.testBit 16 6 = false from rfl), (show Nat.testBit 16 7 = false from rfl), (show Nat.testBit 16 8 = false from rfl), (show Nat.testBit 16 9 = false from rfl), (show Nat.testBit 16 10 = false from rfl), (show Nat.testBit 16 11 = false from rfl), (show Nat.testBit 16 12 = false from rfl), (show Nat.testBit 16 13 = false from rfl), (show Nat.testBit 16 14 = false from rfl), (show Nat.testBit 16 15 = false from rfl), (show Nat.testBit 16 16 = false from rfl), (show Nat.testBit 16 17 = false from rfl), (show Nat.testBit 16 18 = false from rfl), (show Nat.testBit 16 19 = false from rfl), g1, g2, g3, hbsl, hal, hbl, hali, hbli, List.length_set, List.length_map, hset, hset2]
  all_goals (repeat' (first | with_reducible rfl | with_reducible apply And.intro | ((with_reducible show drawOK _ _ = true); rfl))) <;> (try first | omega | (simp only [InR]; omega) | with_reducible assumption)
  rw [h1]; clear h1 Q1; simp only [thenA, vc_assoc]
  refine vc_seqK fun Q1 h1 => ?_
  simp (maxSteps := 4000000) only [go_sem, AV.one, drawV, intsOf, keyIdx, over, putO, memAt, List.map_cons, List.length_cons, ↓reduceIte, zdrop, one_i, one_b, one_sl, one_ptr, one_ref, one_nilp, one_mp, one_fn, one_nilf, dep_uk, m1]
  all_goals (repeat' (first | with_reducible rfl | with_reducible apply And.intro | ((with_reducible show drawOK _ _ = true); rfl))) <;> (try first | omega | (simp only [InR]; omega) | with_reducible assumption)
  rw [h1]; clear h1 Q1; simp only [thenA, vc_assoc]
  refine vc_seqK fun Q1 h1 => ?_
  simp (maxSteps := 4000000) only [go_sem, AV.one, drawV, intsOf, keyIdx, over, putO, memAt, List.map_cons, List.length_cons, ↓reduceIte, zdrop, one_i, one_b, one_sl, one_ptr, one_ref, one_nilp, one_mp, one_fn, one_nilf, dep_uk, htk, hxe, hxl, m2]
  all_goals (repeat' (first | with_reducible rfl | with_reducible apply And.intro | ((with_reducible show drawOK _ _ = true); rfl))) <;> (try first | omega | (simp only [InR]; omega) | with_reducible assumption)
  rw [h1]; clear h1 Q1; simp only [thenA, vc_assoc]
  refine vc_seqK fun Q1 h1 => ?_
  simp (maxSteps := 4000000) only [go_sem, AV.one, drawV, intsOf, keyIdx, over, putO, memAt, List.map_cons, List.length_cons, ↓reduceIte, zdrop, one_i, one_b, one_sl, one_ptr, one_ref, one_nilp, one_mp, one_fn, one_nilf, dep_uk, w1]
  all_goals (repeat' (first | with_reducible rfl | with_reducible apply And.intro | ((with_reducible show drawOK _ _ = true); rfl))) <;> (try first | omega | (simp only [InR]; omega) | with_reducible assumption)
  rw [h1]; clear h1 Q1; simp only [thenA, vc_assoc]
  refine vc_seqK fun Q1 h1 => ?_
  simp (maxSteps := 4000000) only [go_sem, AV.one, drawV, intsOf, keyIdx, over, putO, memAt, List.map_cons, List.length_cons, ↓reduceIte, zdrop, one_i, one_b, one_sl, one_ptr, one_ref, one_nilp, one_mp, one_fn, one_nilf, dep_uk, htk, hxe, hxl, w2]
  all_goals (repeat' (first | with_reducible rfl | with_reducible apply And.intro | ((with_reducible show drawOK _ _ = true); rfl))) <;> (try first | omega | (simp only [InR]; omega) | with_reducible assumption)
  rw [h1]; clear h1 Q1; simp only [thenA, vc_assoc]
  simp (maxSteps := 4000000) only [go_sem, AV.one, drawV, intsOf, keyIdx, over, putO, memAt, List.map_cons, List.length_cons, ↓reduceIte, zdrop, one_i, one_b, one_sl, one_ptr, one_ref, one_nilp, one_mp, one_fn, one_nilf, dep_uk, Bool.true_bne, Bool.false_bne]
  all_goals (repeat' (first | with_reducible rfl | with_reducible apply And.intro | ((with_reducible show drawOK _ _ = true); rfl))) <;> (try first | omega | (simp only [InR]; omega) | with_reducible assumption)
end Go.Proofs
