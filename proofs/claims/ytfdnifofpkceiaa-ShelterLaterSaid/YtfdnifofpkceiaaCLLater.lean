/- The law ShelterLater (printed by tools/mkla.py). -/
import Derived.Test.YtfdnifofpkceiaaG14
import Derived.Test.YtfdnifofpkceiaaCM9
set_option linter.all false
namespace Go.Proofs
open Go.Fs
set_option linter.unusedSimpArgs false
set_option linter.unusedVariables false
set_option maxHeartbeats 8000000
set_option maxRecDepth 8000
def P4913 : Specs := vecT [42, 46, 130, 138, 1000004, 1000005] P49
theorem P4913_app (g : FuncId) (h : ¬ (g = 4000000000)) : P4913 g = P49 g := by unfold P4913 vecT; rw [if_neg h]
theorem P4913_ok : SpecsOk Try.prog P4913 := vecT_ok P49_ok
theorem P4913_flag (d : Nat) : flagOf P4913 (some d) = if d ∈ ([42, 46, 130, 138, 1000004, 1000005] : List Nat) then some d else none := flagOf_vecT _ _ d
attribute [go_sem] P4913_app P4913_flag
theorem getD_setW {l : List (List AV)} {c : Nat} (h : c < l.length) (x : List AV) : (l.set c x).getD c [] = x := by
  simp [List.getD, List.getElem?_set, h]
theorem ShelterLater_true (s : Sh) (which by' : Int) (ws : List (Uk .u16)) (hw : InR .u8 which) (hb : InR .u8 by') (hws : WsOk ws) : CallP Try.prog 3 [Enc.enc s, AV.int .u8 which, AV.int .u8 by', Enc.enc ws] (· = Enc.enc true) := by
  unfold InR at hw hb
  cases c1 : thinB s
  · simp only [enc_fnl, enc_fnb, enc_fnc, enc_refc, enc_arr, enc_int, enc_bool, enc_list, enc_sk, enc_sp, enc_rg, enc_sh, enc_tr, enc_refs, enc_fns, enc_wks]
    refine callP_of_vc (Φ := P4913) Try.func3 rfl (by rfl) (by rw [Try.ntmps3]; simp) mixed P4913_ok (by simp [AV.strip, AV.strip1, Tk.strip]) ?_
    rw [Try.ntmps3]
    simp only [Try.f3, startSt, tmFrom]
    iterate 2 (
      refine vc_seqK fun Q1 h1 => ?_
      simp (maxSteps := 4000000) only [go_sem, AV.one, drawV, intsOf, keyIdx, over, putO, memAt, List.map_cons, List.length_cons, ↓reduceIte, zdrop, one_i, one_b, one_sl, one_ptr, one_ref, one_nilp, one_mp, one_fn, one_nilf, dep_uk, c1]
      all_goals (repeat' (first | with_reducible rfl | with_reducible apply And.intro | ((with_reducible show drawOK _ _ = true); rfl))) <;> (try first | omega | (simp only [InR]; omega) | with_reducible assumption)
      rw [h1]; clear h1 Q1; simp only [thenA, vc_assoc])
    simp (maxSteps := 4000000) only [go_sem, AV.one, drawV, intsOf, keyIdx, over, putO, memAt, List.map_cons, List.length_cons, ↓reduceIte, zdrop, one_i, one_b, one_sl, one_ptr, one_ref, one_nilp, one_mp, one_fn, one_nilf, dep_uk]
    all_goals (repeat' (first | with_reducible rfl | with_reducible apply And.intro | ((with_reducible show drawOK _ _ = true); rfl))) <;> (try first | omega | (simp only [InR]; omega) | with_reducible assumption)
  have hl := thin_len c1
  cases c2 : decide (faultS s = 0)
  · simp only [enc_fnl, enc_fnb, enc_fnc, enc_refc, enc_arr, enc_int, enc_bool, enc_list, enc_sk, enc_sp, enc_rg, enc_sh, enc_tr, enc_refs, enc_fns, enc_wks]
    refine callP_of_vc (Φ := P4913) Try.func3 rfl (by rfl) (by rw [Try.ntmps3]; simp) mixed P4913_ok (by simp [AV.strip, AV.strip1, Tk.strip]) ?_
    rw [Try.ntmps3]
    simp only [Try.f3, startSt, tmFrom]
    iterate 2 (
      refine vc_seqK fun Q1 h1 => ?_
      simp (maxSteps := 4000000) only [go_sem, AV.one, drawV, intsOf, keyIdx, over, putO, memAt, List.map_cons, List.length_cons, ↓reduceIte, zdrop, one_i, one_b, one_sl, one_ptr, one_ref, one_nilp, one_mp, one_fn, one_nilf, dep_uk, c1, c2]
      all_goals (repeat' (first | with_reducible rfl | with_reducible apply And.intro | ((with_reducible show drawOK _ _ = true); rfl))) <;> (try first | omega | (simp only [InR]; omega) | with_reducible assumption)
      rw [h1]; clear h1 Q1; simp only [thenA, vc_assoc])
    simp (maxSteps := 4000000) only [go_sem, AV.one, drawV, intsOf, keyIdx, over, putO, memAt, List.map_cons, List.length_cons, ↓reduceIte, zdrop, one_i, one_b, one_sl, one_ptr, one_ref, one_nilp, one_mp, one_fn, one_nilf, dep_uk]
    all_goals (repeat' (first | with_reducible rfl | with_reducible apply And.intro | ((with_reducible show drawOK _ _ = true); rfl))) <;> (try first | omega | (simp only [InR]; omega) | with_reducible assumption)
  have hf : faultS s = 0 := by simpa using c2
  have hs := fault_ok hf
  have h8 := hs.len
  have hpl := planW_plan hs hws
  have hplen := planW_len s ws s.stacks.length
  obtain ⟨p, hp⟩ : ∃ p, planW s ws s.stacks.length = p := ⟨_, rfl⟩
  rw [hp] at hpl hplen
  have hw0 : 0 ≤ which := hw.1
  have hw1 : which ≤ 255 := hw.2
  have hb0 : 0 ≤ by' := hb.1
  have hb1 : by' ≤ 255 := hb.2
  have honeS : ∀ x ∈ s.stacks.map EncE.cs, ∀ c ∈ x, AV.one c = true := fun x hx c hc => by
    obtain ⟨a, _, rfl⟩ := List.mem_map.1 hx
    simp only [EncE.cs, List.mem_cons, List.not_mem_nil, or_false] at hc
    rcases hc with rfl | rfl | rfl <;> rfl
  have hlnS : ∀ x ∈ s.stacks.map EncE.cs, x.length = 3 := fun x hx => by
    obtain ⟨a, _, rfl⟩ := List.mem_map.1 hx
    rfl
  have q1 := Int.emod_nonneg which (show (s.stacks.length : Int) + 1 ≠ 0 by omega)
  have q2 := Int.emod_lt_of_pos which (show (0 : Int) < (s.stacks.length : Int) + 1 by omega)
  obtain ⟨k, ek⟩ := Int.eq_ofNat_of_zero_le q1
  rw [ek] at q2
  have hk' : k ≤ s.stacks.length := by omega
  have hR := rgOf_ok hs hk'
  obtain ⟨hxr, hxl⟩ := late_ok hR (d := by' % 3) (by omega)
  obtain ⟨hyr, hyl⟩ := wide_ok hR (d := by' % 3) (e := by' / 4 % 3) (by omega) (by omega)
  have ox := chg_ok hs hk' hxr
  have oy := chg_ok hs hk' hyr
  obtain ⟨lx1, lx2⟩ := chg_later hs hk' hxr hxl hplen
  obtain ⟨ly1, ly2⟩ := chg_wider hs hk' hyr hyl hplen
  have px : planB (chgS s k (lateR (rgOf s k) (by' % 3))) p = true := by rw [chg_plan]; exact hpl
  have py : planB (chgS s k (wideR (rgOf s k) (by' % 3) (by' / 4 % 3))) p = true := by rw [chg_plan]; exact hpl
  have xl := chg_len s k (lateR (rgOf s k) (by' % 3))
  have yl := chg_len s k (wideR (rgOf s k) (by' % 3) (by' / 4 % 3))
  have t0 := sure_good hs hpl
  have t1 := sure_good ox px
  have t2 := sure_good oy py
  have m0 := best_good hs
  have m1 := best_good ox
  have m2 := best_good oy
  have d1 := decide_eq_true lx1
  have d2 := decide_eq_true lx2
  have d3 := decide_eq_true ly1
  have d4 := decide_eq_true ly2
  obtain ⟨X, hX⟩ : ∃ X, chgS s k (lateR (rgOf s k) (by' % 3)) = X := ⟨_, rfl⟩
  obtain ⟨Y, hY⟩ : ∃ Y, chgS s k (wideR (rgOf s k) (by' % 3) (by' / 4 % 3)) = Y := ⟨_, rfl⟩
  rw [hX] at t1 m1 d1 d2 xl
  rw [hY] at t2 m2 d3 d4 yl
  clear ox oy lx1 lx2 ly1 ly2 px py hxr hxl hyr hyl
  cases k with
  | zero =>
    have hrb : RgOk s.rain := hs.r
    unfold RgOk at hrb
    obtain ⟨A0, hA0⟩ : ∃ a, min 9 (s.rain.lo + by' % 3) = a := ⟨_, rfl⟩
    obtain ⟨A1, hA1⟩ : ∃ a, min 9 (s.rain.hi + by' % 3) = a := ⟨_, rfl⟩
    obtain ⟨B0, hB0⟩ : ∃ a, max 0 (s.rain.lo - by' % 3) = a := ⟨_, rfl⟩
    obtain ⟨B1, hB1⟩ : ∃ a, min 9 (s.rain.hi + by' / 4 % 3) = a := ⟨_, rfl⟩
    have hXe : (⟨s.stacks, s.hands, ⟨A0, A1⟩⟩ : Sh) = X := by rw [← hX, ← hA0, ← hA1]; rfl
    have hYe : (⟨s.stacks, s.hands, ⟨B0, B1⟩⟩ : Sh) = Y := by rw [← hY, ← hB0, ← hB1]; rfl
    have htk : List.take s.stacks.length (s.stacks.map EncE.cs) = s.stacks.map EncE.cs := List.take_of_length_le (by rw [List.length_map]; exact Nat.le_refl _)
    simp only [enc_fnl, enc_fnb, enc_fnc, enc_refc, enc_arr, enc_int, enc_bool, enc_list, enc_sk, enc_sp, enc_rg, enc_sh, enc_tr, enc_refs, enc_fns, enc_wks]
    refine callP_of_vc (Φ := P4913) Try.func3 rfl (by rfl) (by rw [Try.ntmps3]; simp) mixed P4913_ok (by simp [AV.strip, AV.strip1, Tk.strip]) ?_
    rw [Try.ntmps3]
    simp only [Try.f3, startSt, tmFrom]
    iterate 2 (
      refine vc_seqK fun Q1 h1 => ?_
      simp (maxSteps := 4000000) only [go_sem, AV.one, drawV, intsOf, keyIdx, over, putO, memAt, List.map_cons, List.length_cons, ↓reduceIte, zdrop, one_i, one_b, one_sl, one_ptr, one_ref, one_nilp, one_mp, one_fn, one_nilf, dep_uk, c1, c2]
      all_goals (repeat' (first | with_reducible rfl | with_reducible apply And.intro | ((with_reducible show drawOK _ _ = true); rfl))) <;> (try first | omega | (simp only [InR]; omega) | with_reducible assumption)
      rw [h1]; clear h1 Q1; simp only [thenA, vc_assoc])
    iterate 2 (
      refine vc_seqK fun Q1 h1 => ?_
      simp (maxSteps := 4000000) only [go_sem, AV.one, drawV, intsOf, keyIdx, over, putO, memAt, List.map_cons, List.length_cons, ↓reduceIte, zdrop, one_i, one_b, one_sl, one_ptr, one_ref, one_nilp, one_mp, one_fn, one_nilf, dep_uk, hp]
      all_goals (repeat' (first | with_reducible rfl | with_reducible apply And.intro | ((with_reducible show drawOK _ _ = true); rfl))) <;> (try first | omega | (simp only [InR]; omega) | with_reducible assumption)
      rw [h1]; clear h1 Q1; simp only [thenA, vc_assoc])
    refine vc_seqK fun Q1 h1 => ?_
    simp (maxSteps := 4000000) only [go_sem, AV.one, drawV, intsOf, keyIdx, over, putO, memAt, List.map_cons, List.length_cons, ↓reduceIte, zdrop, one_i, one_b, one_sl, one_ptr, one_ref, one_nilp, one_mp, one_fn, one_nilf, dep_uk]
    all_goals (repeat' (first | with_reducible rfl | with_reducible apply And.intro | ((with_reducible show drawOK _ _ = true); rfl))) <;> (try first | omega | (simp only [InR]; omega) | with_reducible assumption)
    refine ⟨3, by rfl, ?_⟩
    simp (maxSteps := 4000000) only [go_sem, AV.one, drawV, intsOf, keyIdx, over, putO, memAt, List.map_cons, List.length_cons, ↓reduceIte, zdrop, one_i, one_b, one_sl, one_ptr, one_ref, one_nilp, one_mp, one_fn, one_nilf, dep_uk, (show Nat.testBit 3 399 = false from rfl), Bool.false_and, Bool.true_and, Bool.false_eq_true, (show Nat.testBit 3 200 = false from rfl), (show ∀ m, hideM false m = m from fun _ => rfl), memAt_hide, hideM_length, hideO, drawF, vcFr, Go.Fs.freeR, effL, apart, objOf, List.all_cons, List.all_nil, List.contains_cons, List.contains_nil, Nat.reduceBEq, Bool.or_self, (show Nat.testBit 3 0 = true from rfl), (show Nat.testBit 3 1 = true from rfl), (show Nat.testBit 3 2 = false from rfl), (show Nat.testBit 3 3 = false from rfl), (show Nat.testBit 3 4 = false from rfl), (show Nat.testBit 3 5 = false from rfl)]
    all_goals (repeat' (first | with_reducible rfl | with_reducible apply And.intro | ((with_reducible show drawOK _ _ = true); rfl))) <;> (try first | omega | (simp only [InR]; omega) | with_reducible assumption)
    rw [h1]; clear h1 Q1; simp only [thenA, vc_assoc]
    refine vc_seqK fun Q1 h1 => ?_
    simp (maxSteps := 4000000) only [go_sem, drawV, intsOf, keyIdx, over, putO, memAt, List.map_cons, List.length_cons, ↓reduceIte, zdrop, one_i, one_b, one_sl, one_ptr, one_ref, one_nilp, one_mp, one_fn, one_nilf, dep_uk, honeS, hlnS]
    all_goals (repeat' (first | with_reducible rfl | with_reducible apply And.intro | ((with_reducible show drawOK _ _ = true); rfl))) <;> (try first | omega | (simp only [InR]; omega) | with_reducible assumption)
    refine ⟨68, by rfl, ?_⟩
    simp (maxSteps := 4000000) only [go_sem, drawV, intsOf, keyIdx, over, putO, memAt, List.map_cons, List.length_cons, ↓reduceIte, zdrop, one_i, one_b, one_sl, one_ptr, one_ref, one_nilp, one_mp, one_fn, one_nilf, dep_uk, (show Nat.testBit 68 399 = false from rfl), Bool.false_and, Bool.true_and, Bool.false_eq_true, (show Nat.testBit 68 200 = false from rfl), (show ∀ m, hideM false m = m from fun _ => rfl), memAt_hide, hideM_length, hideO, drawF, vcFr, Go.Fs.freeR, effL, apart, objOf, List.all_cons, List.all_nil, List.contains_cons, List.contains_nil, Nat.reduceBEq, Bool.or_self, (show Nat.testBit 68 0 = false from rfl), (show Nat.testBit 68 1 = false from rfl), (show Nat.testBit 68 2 = true from rfl), (show Nat.testBit 68 3 = false from rfl), (show Nat.testBit 68 4 = false from rfl), (show Nat.testBit 68 5 = false from rfl), (show Nat.testBit 68 6 = true from rfl), (show Nat.testBit 68 7 = false from rfl), (show Nat.testBit 68 8 = false from rfl), (show Nat.testBit 68 9 = false from rfl), (show Nat.testBit 68 10 = false from rfl), (show Nat.testBit 68 11 = false from rfl), honeS, hlnS]
    all_goals (repeat' (first | with_reducible rfl | with_reducible apply And.intro | ((with_reducible show drawOK _ _ = true); rfl))) <;> (try first | omega | (simp only [InR]; omega) | with_reducible assumption)
    rw [h1]; clear h1 Q1; simp only [thenA, vc_assoc]
    refine vc_seqK fun Q1 h1 => ?_
    simp (maxSteps := 4000000) only [go_sem, AV.one, drawV, intsOf, keyIdx, over, putO, memAt, List.map_cons, List.length_cons, ↓reduceIte, zdrop, one_i, one_b, one_sl, one_ptr, one_ref, one_nilp, one_mp, one_fn, one_nilf, dep_uk]
    all_goals (repeat' (first | with_reducible rfl | with_reducible apply And.intro | ((with_reducible show drawOK _ _ = true); rfl))) <;> (try first | omega | (simp only [InR]; omega) | with_reducible assumption)
    rw [h1]; clear h1 Q1; simp only [thenA, vc_assoc]
    refine vc_seqK fun Q1 h1 => ?_
    simp (maxSteps := 4000000) only [go_sem, AV.one, drawV, intsOf, keyIdx, over, putO, memAt, List.map_cons, List.length_cons, ↓reduceIte, zdrop, one_i, one_b, one_sl, one_ptr, one_ref, one_nilp, one_mp, one_fn, one_nilf, dep_uk, ek]
    all_goals (repeat' (first | with_reducible rfl | with_reducible apply And.intro | ((with_reducible show drawOK _ _ = true); rfl))) <;> (try first | omega | (simp only [InR]; omega) | with_reducible assumption)
    rw [h1]; clear h1 Q1; simp only [thenA, vc_assoc]
    refine vc_seqK fun Q1 h1 => ?_
    simp (maxSteps := 4000000) only [go_sem, AV.one, drawV, intsOf, keyIdx, over, putO, memAt, List.map_cons, List.length_cons, ↓reduceIte, zdrop, one_i, one_b, one_sl, one_ptr, one_ref, one_nilp, one_mp, one_fn, one_nilf, dep_uk, Int.natCast_zero, gt_iff_lt]
    all_goals (repeat' (first | with_reducible rfl | with_reducible apply And.intro | ((with_reducible show drawOK _ _ = true); rfl))) <;> (try first | omega | (simp only [InR]; omega) | with_reducible assumption)
    rw [h1]; clear h1 Q1; simp only [thenA, vc_assoc]
    refine vc_seqK fun Q1 h1 => ?_
    simp (maxSteps := 4000000) only [go_sem, AV.one, drawV, intsOf, keyIdx, over, putO, memAt, List.map_cons, List.length_cons, ↓reduceIte, zdrop, one_i, one_b, one_sl, one_ptr, one_ref, one_nilp, one_mp, one_fn, one_nilf, dep_uk]
    all_goals (repeat' (first | with_reducible rfl | with_reducible apply And.intro | ((with_reducible show drawOK _ _ = true); rfl))) <;> (try first | omega | (simp only [InR]; omega) | with_reducible assumption)
    rw [h1]; clear h1 Q1; simp only [thenA, vc_assoc]
    refine vc_seqK fun Q1 h1 => ?_
    simp (maxSteps := 4000000) only [go_sem, AV.one, drawV, intsOf, keyIdx, over, putO, memAt, List.map_cons, List.length_cons, ↓reduceIte, zdrop, one_i, one_b, one_sl, one_ptr, one_ref, one_nilp, one_mp, one_fn, one_nilf, dep_uk, hA0, hA1, hB0, hB1]
    all_goals (repeat' (first | with_reducible rfl | with_reducible apply And.intro | ((with_reducible show drawOK _ _ = true); rfl))) <;> (try first | omega | (simp only [InR]; omega) | with_reducible assumption)
    rw [h1]; clear h1 Q1; simp only [thenA, vc_assoc]
    refine vc_seqK fun Q1 h1 => ?_
    simp (maxSteps := 4000000) only [go_sem, AV.one, drawV, intsOf, keyIdx, over, putO, memAt, List.map_cons, List.length_cons, ↓reduceIte, zdrop, one_i, one_b, one_sl, one_ptr, one_ref, one_nilp, one_mp, one_fn, one_nilf, dep_uk, hA0, hA1, hB0, hB1]
    all_goals (repeat' (first | with_reducible rfl | with_reducible apply And.intro | ((with_reducible show drawOK _ _ = true); rfl))) <;> (try first | omega | (simp only [InR]; omega) | with_reducible assumption)
    rw [h1]; clear h1 Q1; simp only [thenA, vc_assoc]
    refine vc_seqK fun Q1 h1 => ?_
    simp (maxSteps := 4000000) only [go_sem, AV.one, drawV, intsOf, keyIdx, over, putO, memAt, List.map_cons, List.length_cons, ↓reduceIte, zdrop, one_i, one_b, one_sl, one_ptr, one_ref, one_nilp, one_mp, one_fn, one_nilf, dep_uk, t0]
    all_goals (repeat' (first | with_reducible rfl | with_reducible apply And.intro | ((with_reducible show drawOK _ _ = true); rfl))) <;> (try first | omega | (simp only [InR]; omega) | with_reducible assumption)
    rw [h1]; clear h1 Q1; simp only [thenA, vc_assoc]
    refine vc_seqK fun Q1 h1 => ?_
    simp (maxSteps := 4000000) only [go_sem, AV.one, drawV, intsOf, keyIdx, over, putO, memAt, List.map_cons, List.length_cons, ↓reduceIte, zdrop, one_i, one_b, one_sl, one_ptr, one_ref, one_nilp, one_mp, one_fn, one_nilf, dep_uk, htk, hXe, hYe, t1]
    all_goals (repeat' (first | with_reducible rfl | with_reducible apply And.intro | ((with_reducible show drawOK _ _ = true); rfl))) <;> (try first | omega | (simp only [InR]; omega) | with_reducible assumption)
    rw [h1]; clear h1 Q1; simp only [thenA, vc_assoc]
    refine vc_seqK fun Q1 h1 => ?_
    simp (maxSteps := 4000000) only [go_sem, AV.one, drawV, intsOf, keyIdx, over, putO, memAt, List.map_cons, List.length_cons, ↓reduceIte, zdrop, one_i, one_b, one_sl, one_ptr, one_ref, one_nilp, one_mp, one_fn, one_nilf, dep_uk, htk, hXe, hYe, t2]
    all_goals (repeat' (first | with_reducible rfl | with_reducible apply And.intro | ((with_reducible show drawOK _ _ = true); rfl))) <;> (try first | omega | (simp only [InR]; omega) | with_reducible assumption)
    rw [h1]; clear h1 Q1; simp only [thenA, vc_assoc]
    refine vc_seqK fun Q1 h1 => ?_
    simp (maxSteps := 4000000) only [go_sem, AV.one, drawV, intsOf, keyIdx, over, putO, memAt, List.map_cons, List.length_cons, ↓reduceIte, zdrop, one_i, one_b, one_sl, one_ptr, one_ref, one_nilp, one_mp, one_fn, one_nilf, dep_uk, m0]
    all_goals (repeat' (first | with_reducible rfl | with_reducible apply And.intro | ((with_reducible show drawOK _ _ = true); rfl))) <;> (try first | omega | (simp only [InR]; omega) | with_reducible assumption)
    rw [h1]; clear h1 Q1; simp only [thenA, vc_assoc]
    refine vc_seqK fun Q1 h1 => ?_
    simp (maxSteps := 4000000) only [go_sem, AV.one, drawV, intsOf, keyIdx, over, putO, memAt, List.map_cons, List.length_cons, ↓reduceIte, zdrop, one_i, one_b, one_sl, one_ptr, one_ref, one_nilp, one_mp, one_fn, one_nilf, dep_uk, htk, hXe, hYe, m1]
    all_goals (repeat' (first | with_reducible rfl | with_reducible apply And.intro | ((with_reducible show drawOK _ _ = true); rfl))) <;> (try first | omega | (simp only [InR]; omega) | with_reducible assumption)
    rw [h1]; clear h1 Q1; simp only [thenA, vc_assoc]
    refine vc_seqK fun Q1 h1 => ?_
    simp (maxSteps := 4000000) only [go_sem, AV.one, drawV, intsOf, keyIdx, over, putO, memAt, List.map_cons, List.length_cons, ↓reduceIte, zdrop, one_i, one_b, one_sl, one_ptr, one_ref, one_nilp, one_mp, one_fn, one_nilf, dep_uk, htk, hXe, hYe, m2]
    all_goals (repeat' (first | with_reducible rfl | with_reducible apply And.intro | ((with_reducible show drawOK _ _ = true); rfl))) <;> (try first | omega | (simp only [InR]; omega) | with_reducible assumption)
    rw [h1]; clear h1 Q1; simp only [thenA, vc_assoc]
    simp (maxSteps := 4000000) only [go_sem, AV.one, drawV, intsOf, keyIdx, over, putO, memAt, List.map_cons, List.length_cons, ↓reduceIte, zdrop, one_i, one_b, one_sl, one_ptr, one_ref, one_nilp, one_mp, one_fn, one_nilf, dep_uk, d1, d2, d3, d4, ge_iff_le, List.append_eq]
    all_goals (repeat' (first | with_reducible rfl | with_reducible apply And.intro | ((with_reducible show drawOK _ _ = true); rfl))) <;> (try first | omega | (simp only [InR]; omega) | with_reducible assumption)
  | succ j =>
    have hk : j < s.stacks.length := by omega
    have hgr := getD_mapA (f := EncE.cs) hk
    obtain ⟨r, hr⟩ : ∃ r, at_ s.stacks j = r := ⟨_, rfl⟩
    have hrb : RgOk r.leak := by rw [← hr]; exact (hs.st _ (at_mem hk)).2
    unfold RgOk at hrb
    rw [hr] at hgr
    obtain ⟨A0, hA0⟩ : ∃ a, min 9 (r.leak.lo + by' % 3) = a := ⟨_, rfl⟩
    obtain ⟨A1, hA1⟩ : ∃ a, min 9 (r.leak.hi + by' % 3) = a := ⟨_, rfl⟩
    obtain ⟨B0, hB0⟩ : ∃ a, max 0 (r.leak.lo - by' % 3) = a := ⟨_, rfl⟩
    obtain ⟨B1, hB1⟩ : ∃ a, min 9 (r.leak.hi + by' / 4 % 3) = a := ⟨_, rfl⟩
    have hXe : (⟨s.stacks.set j ⟨r.chairs, ⟨A0, A1⟩⟩, s.hands, s.rain⟩ : Sh) = X := by rw [← hX, ← hA0, ← hA1, ← hr]; rfl
    have hYe : (⟨s.stacks.set j ⟨r.chairs, ⟨B0, B1⟩⟩, s.hands, s.rain⟩ : Sh) = Y := by rw [← hY, ← hB0, ← hB1, ← hr]; rfl
    have hset : ∀ a b, (s.stacks.map EncE.cs).set j [.int .i64 r.chairs, .int .i64 a, .int .i64 b] = (s.stacks.set j ⟨r.chairs, ⟨a, b⟩⟩).map EncE.cs := fun a b => by rw [List.map_set]; rfl
    have hgs := getD_setW (l := s.stacks.map EncE.cs) (c := j) (by rw [List.length_map]; exact hk)
    have htk : ∀ x, List.take s.stacks.length ((s.stacks.set j x).map EncE.cs) = (s.stacks.set j x).map EncE.cs := fun x => List.take_of_length_le (by rw [List.length_map, List.length_set]; exact Nat.le_refl _)
    have hj1 : decide ((0 : Int) < ((j + 1 : Nat) : Int)) = true := by rw [decide_eq_true_eq]; omega
    have hj2 : ((j + 1 : Nat) : Int) - 1 = (j : Int) := by omega
    have hki : (j : Int) < (s.stacks.length : Int) := by omega
    simp only [enc_fnl, enc_fnb, enc_fnc, enc_refc, enc_arr, enc_int, enc_bool, enc_list, enc_sk, enc_sp, enc_rg, enc_sh, enc_tr, enc_refs, enc_fns, enc_wks]
    refine callP_of_vc (Φ := P4913) Try.func3 rfl (by rfl) (by rw [Try.ntmps3]; simp) mixed P4913_ok (by simp [AV.strip, AV.strip1, Tk.strip]) ?_
    rw [Try.ntmps3]
    simp only [Try.f3, startSt, tmFrom]
    iterate 2 (
      refine vc_seqK fun Q1 h1 => ?_
      simp (maxSteps := 4000000) only [go_sem, AV.one, drawV, intsOf, keyIdx, over, putO, memAt, List.map_cons, List.length_cons, ↓reduceIte, zdrop, one_i, one_b, one_sl, one_ptr, one_ref, one_nilp, one_mp, one_fn, one_nilf, dep_uk, c1, c2]
      all_goals (repeat' (first | with_reducible rfl | with_reducible apply And.intro | ((with_reducible show drawOK _ _ = true); rfl))) <;> (try first | omega | (simp only [InR]; omega) | with_reducible assumption)
      rw [h1]; clear h1 Q1; simp only [thenA, vc_assoc])
    iterate 2 (
      refine vc_seqK fun Q1 h1 => ?_
      simp (maxSteps := 4000000) only [go_sem, AV.one, drawV, intsOf, keyIdx, over, putO, memAt, List.map_cons, List.length_cons, ↓reduceIte, zdrop, one_i, one_b, one_sl, one_ptr, one_ref, one_nilp, one_mp, one_fn, one_nilf, dep_uk, hp]
      all_goals (repeat' (first | with_reducible rfl | with_reducible apply And.intro | ((with_reducible show drawOK _ _ = true); rfl))) <;> (try first | omega | (simp only [InR]; omega) | with_reducible assumption)
      rw [h1]; clear h1 Q1; simp only [thenA, vc_assoc])
    refine vc_seqK fun Q1 h1 => ?_
    simp (maxSteps := 4000000) only [go_sem, AV.one, drawV, intsOf, keyIdx, over, putO, memAt, List.map_cons, List.length_cons, ↓reduceIte, zdrop, one_i, one_b, one_sl, one_ptr, one_ref, one_nilp, one_mp, one_fn, one_nilf, dep_uk]
    all_goals (repeat' (first | with_reducible rfl | with_reducible apply And.intro | ((with_reducible show drawOK _ _ = true); rfl))) <;> (try first | omega | (simp only [InR]; omega) | with_reducible assumption)
    refine ⟨3, by rfl, ?_⟩
    simp (maxSteps := 4000000) only [go_sem, AV.one, drawV, intsOf, keyIdx, over, putO, memAt, List.map_cons, List.length_cons, ↓reduceIte, zdrop, one_i, one_b, one_sl, one_ptr, one_ref, one_nilp, one_mp, one_fn, one_nilf, dep_uk, (show Nat.testBit 3 399 = false from rfl), Bool.false_and, Bool.true_and, Bool.false_eq_true, (show Nat.testBit 3 200 = false from rfl), (show ∀ m, hideM false m = m from fun _ => rfl), memAt_hide, hideM_length, hideO, drawF, vcFr, Go.Fs.freeR, effL, apart, objOf, List.all_cons, List.all_nil, List.contains_cons, List.contains_nil, Nat.reduceBEq, Bool.or_self, (show Nat.testBit 3 0 = true from rfl), (show Nat.testBit 3 1 = true from rfl), (show Nat.testBit 3 2 = false from rfl), (show Nat.testBit 3 3 = false from rfl), (show Nat.testBit 3 4 = false from rfl), (show Nat.testBit 3 5 = false from rfl)]
    all_goals (repeat' (first | with_reducible rfl | with_reducible apply And.intro | ((with_reducible show drawOK _ _ = true); rfl))) <;> (try first | omega | (simp only [InR]; omega) | with_reducible assumption)
    rw [h1]; clear h1 Q1; simp only [thenA, vc_assoc]
    refine vc_seqK fun Q1 h1 => ?_
    simp (maxSteps := 4000000) only [go_sem, drawV, intsOf, keyIdx, over, putO, memAt, List.map_cons, List.length_cons, ↓reduceIte, zdrop, one_i, one_b, one_sl, one_ptr, one_ref, one_nilp, one_mp, one_fn, one_nilf, dep_uk, honeS, hlnS]
    all_goals (repeat' (first | with_reducible rfl | with_reducible apply And.intro | ((with_reducible show drawOK _ _ = true); rfl))) <;> (try first | omega | (simp only [InR]; omega) | with_reducible assumption)
    refine ⟨68, by rfl, ?_⟩
    simp (maxSteps := 4000000) only [go_sem, drawV, intsOf, keyIdx, over, putO, memAt, List.map_cons, List.length_cons, ↓reduceIte, zdrop, one_i, one_b, one_sl, one_ptr, one_ref, one_nilp, one_mp, one_fn, one_nilf, dep_uk, (show Nat.testBit 68 399 = false from rfl), Bool.false_and, Bool.true_and, Bool.false_eq_true, (show Nat.testBit 68 200 = false from rfl), (show ∀ m, hideM false m = m from fun _ => rfl), memAt_hide, hideM_length, hideO, drawF, vcFr, Go.Fs.freeR, effL, apart, objOf, List.all_cons, List.all_nil, List.contains_cons, List.contains_nil, Nat.reduceBEq, Bool.or_self, (show Nat.testBit 68 0 = false from rfl), (show Nat.testBit 68 1 = false from rfl), (show Nat.testBit 68 2 = true from rfl), (show Nat.testBit 68 3 = false from rfl), (show Nat.testBit 68 4 = false from rfl), (show Nat.testBit 68 5 = false from rfl), (show Nat.testBit 68 6 = true from rfl), (show Nat.testBit 68 7 = false from rfl), (show Nat.testBit 68 8 = false from rfl), (show Nat.testBit 68 9 = false from rfl), (show Nat.testBit 68 10 = false from rfl), (show Nat.testBit 68 11 = false from rfl), honeS, hlnS]
    all_goals (repeat' (first | with_reducible rfl | with_reducible apply And.intro | ((with_reducible show drawOK _ _ = true); rfl))) <;> (try first | omega | (simp only [InR]; omega) | with_reducible assumption)
    rw [h1]; clear h1 Q1; simp only [thenA, vc_assoc]
    refine vc_seqK fun Q1 h1 => ?_
    simp (maxSteps := 4000000) only [go_sem, AV.one, drawV, intsOf, keyIdx, over, putO, memAt, List.map_cons, List.length_cons, ↓reduceIte, zdrop, one_i, one_b, one_sl, one_ptr, one_ref, one_nilp, one_mp, one_fn, one_nilf, dep_uk]
    all_goals (repeat' (first | with_reducible rfl | with_reducible apply And.intro | ((with_reducible show drawOK _ _ = true); rfl))) <;> (try first | omega | (simp only [InR]; omega) | with_reducible assumption)
    rw [h1]; clear h1 Q1; simp only [thenA, vc_assoc]
    refine vc_seqK fun Q1 h1 => ?_
    simp (maxSteps := 4000000) only [go_sem, AV.one, drawV, intsOf, keyIdx, over, putO, memAt, List.map_cons, List.length_cons, ↓reduceIte, zdrop, one_i, one_b, one_sl, one_ptr, one_ref, one_nilp, one_mp, one_fn, one_nilf, dep_uk, ek]
    all_goals (repeat' (first | with_reducible rfl | with_reducible apply And.intro | ((with_reducible show drawOK _ _ = true); rfl))) <;> (try first | omega | (simp only [InR]; omega) | with_reducible assumption)
    rw [h1]; clear h1 Q1; simp only [thenA, vc_assoc]
    refine vc_seqK fun Q1 h1 => ?_
    simp (maxSteps := 4000000) only [go_sem, AV.one, drawV, intsOf, keyIdx, over, putO, memAt, List.map_cons, List.length_cons, ↓reduceIte, zdrop, one_i, one_b, one_sl, one_ptr, one_ref, one_nilp, one_mp, one_fn, one_nilf, dep_uk, hj1, gt_iff_lt]
    all_goals (repeat' (first | with_reducible rfl | with_reducible apply And.intro | ((with_reducible show drawOK _ _ = true); rfl))) <;> (try first | omega | (simp only [InR]; omega) | with_reducible assumption)
    rw [h1]; clear h1 Q1; simp only [thenA, vc_assoc]
    refine vc_seqK fun Q1 h1 => ?_
    simp (maxSteps := 4000000) only [go_sem, AV.one, drawV, intsOf, keyIdx, over, putO, memAt, List.map_cons, List.length_cons, ↓reduceIte, zdrop, one_i, one_b, one_sl, one_ptr, one_ref, one_nilp, one_mp, one_fn, one_nilf, dep_uk, hj2, hk, hki]
    all_goals (repeat' (first | with_reducible rfl | with_reducible apply And.intro | ((with_reducible show drawOK _ _ = true); rfl))) <;> (try first | omega | (simp only [InR]; omega) | with_reducible assumption)
    rw [h1]; clear h1 Q1; simp only [thenA, vc_assoc]
    refine vc_seqK fun Q1 h1 => ?_
    simp (maxSteps := 4000000) only [go_sem, AV.one, drawV, intsOf, keyIdx, over, putO, memAt, List.map_cons, List.length_cons, ↓reduceIte, zdrop, one_i, one_b, one_sl, one_ptr, one_ref, one_nilp, one_mp, one_fn, one_nilf, dep_uk, hgr, hgs, hk, hA0, hA1, hB0, hB1, List.length_set, List.length_map, List.set_set, List.set_cons_zero, List.set_cons_succ]
    all_goals (repeat' (first | with_reducible rfl | with_reducible apply And.intro | ((with_reducible show drawOK _ _ = true); rfl))) <;> (try first | omega | (simp only [InR]; omega) | with_reducible assumption)
    rw [h1]; clear h1 Q1; simp only [thenA, vc_assoc]
    refine vc_seqK fun Q1 h1 => ?_
    simp (maxSteps := 4000000) only [go_sem, AV.one, drawV, intsOf, keyIdx, over, putO, memAt, List.map_cons, List.length_cons, ↓reduceIte, zdrop, one_i, one_b, one_sl, one_ptr, one_ref, one_nilp, one_mp, one_fn, one_nilf, dep_uk, hgr, hgs, hk, hA0, hA1, hB0, hB1, List.length_set, List.length_map, List.set_set, List.set_cons_zero, List.set_cons_succ]
    all_goals (repeat' (first | with_reducible rfl | with_reducible apply And.intro | ((with_reducible show drawOK _ _ = true); rfl))) <;> (try first | omega | (simp only [InR]; omega) | with_reducible assumption)
    rw [h1]; clear h1 Q1; simp only [thenA, vc_assoc]
    refine vc_seqK fun Q1 h1 => ?_
    simp (maxSteps := 4000000) only [go_sem, AV.one, drawV, intsOf, keyIdx, over, putO, memAt, List.map_cons, List.length_cons, ↓reduceIte, zdrop, one_i, one_b, one_sl, one_ptr, one_ref, one_nilp, one_mp, one_fn, one_nilf, dep_uk, t0]
    all_goals (repeat' (first | with_reducible rfl | with_reducible apply And.intro | ((with_reducible show drawOK _ _ = true); rfl))) <;> (try first | omega | (simp only [InR]; omega) | with_reducible assumption)
    rw [h1]; clear h1 Q1; simp only [thenA, vc_assoc]
    refine vc_seqK fun Q1 h1 => ?_
    simp (maxSteps := 4000000) only [go_sem, AV.one, drawV, intsOf, keyIdx, over, putO, memAt, List.map_cons, List.length_cons, ↓reduceIte, zdrop, one_i, one_b, one_sl, one_ptr, one_ref, one_nilp, one_mp, one_fn, one_nilf, dep_uk, hset, htk, hXe, hYe, t1]
    all_goals (repeat' (first | with_reducible rfl | with_reducible apply And.intro | ((with_reducible show drawOK _ _ = true); rfl))) <;> (try first | omega | (simp only [InR]; omega) | with_reducible assumption)
    rw [h1]; clear h1 Q1; simp only [thenA, vc_assoc]
    refine vc_seqK fun Q1 h1 => ?_
    simp (maxSteps := 4000000) only [go_sem, AV.one, drawV, intsOf, keyIdx, over, putO, memAt, List.map_cons, List.length_cons, ↓reduceIte, zdrop, one_i, one_b, one_sl, one_ptr, one_ref, one_nilp, one_mp, one_fn, one_nilf, dep_uk, hset, htk, hXe, hYe, t2]
    all_goals (repeat' (first | with_reducible rfl | with_reducible apply And.intro | ((with_reducible show drawOK _ _ = true); rfl))) <;> (try first | omega | (simp only [InR]; omega) | with_reducible assumption)
    rw [h1]; clear h1 Q1; simp only [thenA, vc_assoc]
    refine vc_seqK fun Q1 h1 => ?_
    simp (maxSteps := 4000000) only [go_sem, AV.one, drawV, intsOf, keyIdx, over, putO, memAt, List.map_cons, List.length_cons, ↓reduceIte, zdrop, one_i, one_b, one_sl, one_ptr, one_ref, one_nilp, one_mp, one_fn, one_nilf, dep_uk, m0]
    all_goals (repeat' (first | with_reducible rfl | with_reducible apply And.intro | ((with_reducible show drawOK _ _ = true); rfl))) <;> (try first | omega | (simp only [InR]; omega) | with_reducible assumption)
    rw [h1]; clear h1 Q1; simp only [thenA, vc_assoc]
    refine vc_seqK fun Q1 h1 => ?_
    simp (maxSteps := 4000000) only [go_sem, AV.one, drawV, intsOf, keyIdx, over, putO, memAt, List.map_cons, List.length_cons, ↓reduceIte, zdrop, one_i, one_b, one_sl, one_ptr, one_ref, one_nilp, one_mp, one_fn, one_nilf, dep_uk, hset, htk, hXe, hYe, m1]
    all_goals (repeat' (first | with_reducible rfl | with_reducible apply And.intro | ((with_reducible show drawOK _ _ = true); rfl))) <;> (try first | omega | (simp only [InR]; omega) | with_reducible assumption)
    rw [h1]; clear h1 Q1; simp only [thenA, vc_assoc]
    refine vc_seqK fun Q1 h1 => ?_
    simp (maxSteps := 4000000) only [go_sem, AV.one, drawV, intsOf, keyIdx, over, putO, memAt, List.map_cons, List.length_cons, ↓reduceIte, zdrop, one_i, one_b, one_sl, one_ptr, one_ref, one_nilp, one_mp, one_fn, one_nilf, dep_uk, hset, htk, hXe, hYe, m2]
    all_goals (repeat' (first | with_reducible rfl | with_reducible apply And.intro | ((with_reducible show drawOK _ _ = true); rfl))) <;> (try first | omega | (simp only [InR]; omega) | with_reducible assumption)
    rw [h1]; clear h1 Q1; simp only [thenA, vc_assoc]
    simp (maxSteps := 4000000) only [go_sem, AV.one, drawV, intsOf, keyIdx, over, putO, memAt, List.map_cons, List.length_cons, ↓reduceIte, zdrop, one_i, one_b, one_sl, one_ptr, one_ref, one_nilp, one_mp, one_fn, one_nilf, dep_uk, d1, d2, d3, d4, ge_iff_le, List.append_eq]
    all_goals (repeat' (first | with_reducible rfl | with_reducible apply And.intro | ((with_reducible show drawOK _ _ = true); rfl))) <;> (try first | omega | (simp only [InR]; omega) | with_reducible assumption)
end Go.Proofs
