/- The law ShelterTwice. -/
import Derived.Test.YtcbicheohgdlmaaCM7
set_option linter.all false
namespace Go.Proofs
open Go.Fs
set_option linter.unusedSimpArgs false
set_option linter.unusedVariables false
set_option maxHeartbeats 4000000
set_option maxRecDepth 8000

def P4912 : Specs := vecT [1000002] P49
theorem P4912_app (g : FuncId) (h : ¬ (g = 4000000000)) : P4912 g = P49 g := by unfold P4912 vecT; rw [if_neg h]
theorem P4912_ok : SpecsOk Try.prog P4912 := vecT_ok P49_ok
theorem P4912_flag (d : Nat) : flagOf P4912 (some d) = if d ∈ ([1000002] : List Nat) then some d else none := flagOf_vecT _ _ d
attribute [go_sem] P4912_app P4912_flag
theorem ShelterTwice_true (s : Sh) : CallP Try.prog 12 [Enc.enc s] (· = Enc.enc true) := by
  have hmn : min (4 : Int) (s.stacks.length : Int) = ((min 4 s.stacks.length : Nat) : Int) := by omega
  have hmt : (((min 4 s.stacks.length : Nat) : Int) - 0).toNat = min 4 s.stacks.length := by omega
  have hmm : List.take (min 4 s.stacks.length) (s.stacks.map EncE.cs) = (firstS s).stacks.map EncE.cs := by unfold firstS; rw [List.map_take]
  have hle : ((min 4 s.stacks.length : Nat) : Int) ≤ (s.stacks.length : Int) := by omega
  cases c1 : thinB s
  · simp only [enc_fnl, enc_fnb, enc_fnc, enc_refc, enc_arr, enc_int, enc_bool, enc_list, enc_sk, enc_sp, enc_rg, enc_sh, enc_tr, enc_refs, enc_fns, enc_wks]
    refine callP_of_vc (Φ := P4912) Try.func12 rfl (by rfl) (by rw [Try.ntmps12]; simp) mixed P4912_ok (by simp [AV.strip, AV.strip1, Tk.strip]) ?_
    rw [Try.ntmps12]
    simp only [Try.f12, startSt, tmFrom]
    simp (maxSteps := 4000000) only [go_sem, AV.one, drawV, intsOf, keyIdx, over, putO, memAt, List.map_cons, List.length_cons, ↓reduceIte, zdrop, one_i, one_b, one_sl, one_ptr, one_ref, one_nilp, one_mp, one_fn, one_nilf, dep_uk, hmn, hmt]
    all_goals (repeat' (first | with_reducible rfl | with_reducible apply And.intro | ((with_reducible show drawOK _ _ = true); rfl))) <;> (try first | omega | (simp only [InR]; omega) | with_reducible assumption)
    refine ⟨80, by rfl, ?_⟩
    simp (maxSteps := 4000000) only [go_sem, AV.one, drawV, intsOf, keyIdx, over, putO, memAt, List.map_cons, List.length_cons, ↓reduceIte, zdrop, one_i, one_b, one_sl, one_ptr, one_ref, one_nilp, one_mp, one_fn, one_nilf, dep_uk, drawF, vcFr, freeR, effL, apart, objOf, List.all_cons, List.all_nil, List.contains_cons, List.contains_nil, Nat.reduceBEq, Bool.or_self, (show Nat.testBit 80 0 = false from rfl), (show Nat.testBit 80 1 = false from rfl), (show Nat.testBit 80 2 = false from rfl), (show Nat.testBit 80 3 = false from rfl), (show Nat.testBit 80 4 = true from rfl), (show Nat.testBit 80 5 = false from rfl), (show Nat.testBit 80 6 = true from rfl), (show Nat.testBit 80 7 = false from rfl), (show Nat.testBit 80 8 = false from rfl), (show Nat.testBit 80 9 = false from rfl), (show Nat.testBit 80 10 = false from rfl), (show Nat.testBit 80 11 = false from rfl), (show Nat.testBit 80 12 = false from rfl), (show Nat.testBit 80 13 = false from rfl), hmn, hmt, c1]
    all_goals (repeat' (first | with_reducible rfl | with_reducible apply And.intro | ((with_reducible show drawOK _ _ = true); rfl))) <;> (try first | omega | (simp only [InR]; omega) | with_reducible assumption)
  have hl := thin_len c1
  cases c2 : decide (faultS s = 0)
  · simp only [enc_fnl, enc_fnb, enc_fnc, enc_refc, enc_arr, enc_int, enc_bool, enc_list, enc_sk, enc_sp, enc_rg, enc_sh, enc_tr, enc_refs, enc_fns, enc_wks]
    refine callP_of_vc (Φ := P4912) Try.func12 rfl (by rfl) (by rw [Try.ntmps12]; simp) mixed P4912_ok (by simp [AV.strip, AV.strip1, Tk.strip]) ?_
    rw [Try.ntmps12]
    simp only [Try.f12, startSt, tmFrom]
    simp (maxSteps := 4000000) only [go_sem, AV.one, drawV, intsOf, keyIdx, over, putO, memAt, List.map_cons, List.length_cons, ↓reduceIte, zdrop, one_i, one_b, one_sl, one_ptr, one_ref, one_nilp, one_mp, one_fn, one_nilf, dep_uk, hmn, hmt]
    all_goals (repeat' (first | with_reducible rfl | with_reducible apply And.intro | ((with_reducible show drawOK _ _ = true); rfl))) <;> (try first | omega | (simp only [InR]; omega) | with_reducible assumption)
    refine ⟨80, by rfl, ?_⟩
    simp (maxSteps := 4000000) only [go_sem, AV.one, drawV, intsOf, keyIdx, over, putO, memAt, List.map_cons, List.length_cons, ↓reduceIte, zdrop, one_i, one_b, one_sl, one_ptr, one_ref, one_nilp, one_mp, one_fn, one_nilf, dep_uk, drawF, vcFr, freeR, effL, apart, objOf, List.all_cons, List.all_nil, List.contains_cons, List.contains_nil, Nat.reduceBEq, Bool.or_self, (show Nat.testBit 80 0 = false from rfl), (show Nat.testBit 80 1 = false from rfl), (show Nat.testBit 80 2 = false from rfl), (show Nat.testBit 80 3 = false from rfl), (show Nat.testBit 80 4 = true from rfl), (show Nat.testBit 80 5 = false from rfl), (show Nat.testBit 80 6 = true from rfl), (show Nat.testBit 80 7 = false from rfl), (show Nat.testBit 80 8 = false from rfl), (show Nat.testBit 80 9 = false from rfl), (show Nat.testBit 80 10 = false from rfl), (show Nat.testBit 80 11 = false from rfl), (show Nat.testBit 80 12 = false from rfl), (show Nat.testBit 80 13 = false from rfl), hmn, hmt, c1, c2]
    all_goals (repeat' (first | with_reducible rfl | with_reducible apply And.intro | ((with_reducible show drawOK _ _ = true); rfl))) <;> (try first | omega | (simp only [InR]; omega) | with_reducible assumption)
  have hf : faultS s = 0 := by simpa using c2
  have hs := fault_ok hf
  have h0 := hs.h0
  have h3 := hs.h3
  obtain ⟨k1, k2⟩ := first_ok hs
  have m1 := best_good k1
  have m2 := best_good k2
  rw [twice_most k1 k2] at m2
  have hx : (⟨(firstS s).stacks, min 1 s.hands, s.rain⟩ : Sh) = firstS s := rfl
  have hy : (⟨(firstS s).stacks ++ (firstS s).stacks, 2 * min 1 s.hands, s.rain⟩ : Sh) = twiceS (firstS s) := rfl
  have hmap : (firstS s).stacks.map EncE.cs ++ (firstS s).stacks.map EncE.cs = (twiceS (firstS s)).stacks.map EncE.cs := by unfold twiceS; rw [List.map_append]
  have hy2 : (⟨(twiceS (firstS s)).stacks, 2 * min 1 s.hands, s.rain⟩ : Sh) = twiceS (firstS s) := rfl
  have hl1 := k1.len
  have hl2 := k2.len
  have hmb := most_le k1
  have hmb0 := most_nonneg k1
  obtain ⟨X, hX⟩ : ∃ X, firstS s = X := ⟨_, rfl⟩
  rw [hX] at hmm m1 m2 hx hmap hy2 hl1 hl2 hmb hmb0
  simp only [enc_fnl, enc_fnb, enc_fnc, enc_refc, enc_arr, enc_int, enc_bool, enc_list, enc_sk, enc_sp, enc_rg, enc_sh, enc_tr, enc_refs, enc_fns, enc_wks]
  refine callP_of_vc (Φ := P4912) Try.func12 rfl (by rfl) (by rw [Try.ntmps12]; simp) mixed P4912_ok (by simp [AV.strip, AV.strip1, Tk.strip]) ?_
  rw [Try.ntmps12]
  simp only [Try.f12, startSt, tmFrom]
  simp (maxSteps := 4000000) only [go_sem, AV.one, drawV, intsOf, keyIdx, over, putO, memAt, List.map_cons, List.length_cons, ↓reduceIte, zdrop, one_i, one_b, one_sl, one_ptr, one_ref, one_nilp, one_mp, one_fn, one_nilf, dep_uk, hmn, hmt]
  all_goals (repeat' (first | with_reducible rfl | with_reducible apply And.intro | ((with_reducible show drawOK _ _ = true); rfl))) <;> (try first | omega | (simp only [InR]; omega) | with_reducible assumption)
  refine ⟨80, by rfl, ?_⟩
  simp (maxSteps := 4000000) only [go_sem, AV.one, drawV, intsOf, keyIdx, over, putO, memAt, List.map_cons, List.length_cons, ↓reduceIte, zdrop, one_i, one_b, one_sl, one_ptr, one_ref, one_nilp, one_mp, one_fn, one_nilf, dep_uk, drawF, vcFr, freeR, effL, apart, objOf, List.all_cons, List.all_nil, List.contains_cons, List.contains_nil, Nat.reduceBEq, Bool.or_self, (show Nat.testBit 80 0 = false from rfl), (show Nat.testBit 80 1 = false from rfl), (show Nat.testBit 80 2 = false from rfl), (show Nat.testBit 80 3 = false from rfl), (show Nat.testBit 80 4 = true from rfl), (show Nat.testBit 80 5 = false from rfl), (show Nat.testBit 80 6 = true from rfl), (show Nat.testBit 80 7 = false from rfl), (show Nat.testBit 80 8 = false from rfl), (show Nat.testBit 80 9 = false from rfl), (show Nat.testBit 80 10 = false from rfl), (show Nat.testBit 80 11 = false from rfl), (show Nat.testBit 80 12 = false from rfl), (show Nat.testBit 80 13 = false from rfl), hmn, hmt, c1, c2, hmm, hmap, hx, hy2, m1, m2]
  all_goals (repeat' (first | with_reducible rfl | with_reducible apply And.intro | ((with_reducible show drawOK _ _ = true); rfl))) <;> (try first | omega | (simp only [InR]; omega) | with_reducible assumption)
  all_goals simp [cs_sk, AV.one]
end Go.Proofs
