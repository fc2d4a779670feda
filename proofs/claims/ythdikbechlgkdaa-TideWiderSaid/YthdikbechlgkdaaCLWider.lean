/- The law TideWider (printed by tools/mkw2.py). -/
import Derived.Test.YthdikbechlgkdaaCS30
import Derived.Test.YthdikbechlgkdaaG13
import Derived.Test.YthdikbechlgkdaaCS27
set_option linter.all false
namespace Go.Proofs
open Go.Fs
set_option linter.unusedSimpArgs false
set_option linter.unusedVariables false
set_option maxHeartbeats 4000000
set_option maxRecDepth 8000
def P5231 : Specs := vecT [30, 34, 103, 1000004] P52
theorem P5231_app (g : FuncId) (h : ¬ (g = 4000000000)) : P5231 g = P52 g := by unfold P5231 vecT; rw [if_neg h]
theorem P5231_ok : SpecsOk Try.prog P5231 := vecT_ok P52_ok
theorem P5231_flag (d : Nat) : flagOf P5231 (some d) = if d ∈ ([30, 34, 103, 1000004] : List Nat) then some d else none := flagOf_vecT _ _ d
attribute [go_sem] P5231_app P5231_flag
theorem getD_setW {l : List (List AV)} {c : Nat} (h : c < l.length) (x : List AV) : (l.set c x).getD c [] = x := by
  simp [List.getD, List.getElem?_set, h]
theorem TideWider_true (t : Tb) (which by' : Int) (hw : InR .u8 which) (hb : InR .u8 by') : CallP Try.prog 3 [Enc.enc t, AV.int .u8 which, AV.int .u8 by'] (· = Enc.enc true) := by
  cases c0 : (thinB t && decide (faultT t = 0))
  · simp only [enc_fnl, enc_fnb, enc_fnc, enc_refc, enc_arr, enc_int, enc_bool, enc_list, enc_rg, enc_mk, enc_tb]
    refine callP_of_vc (Φ := P5231) Try.func3 rfl (by rfl) (by rw [Try.ntmps3]; simp) mixed P5231_ok (by simp [AV.strip, AV.strip1, Tk.strip]) ?_
    rw [Try.ntmps3]
    simp only [Try.f3, startSt, tmFrom]
    iterate 2 (
      refine vc_seqK fun Q1 h1 => ?_
      simp (maxSteps := 4000000) only [go_sem, AV.one, drawV, intsOf, keyIdx, over, putO, memAt, List.map_cons, List.length_cons, ↓reduceIte, snap_trues, imm_trues, enc_pair, enc_iterv, zdrop, one_i, one_b, one_sl, one_ptr, one_ref, one_nilp, one_mp, one_fn, one_nilf, c0]
      all_goals (repeat' (first | with_reducible rfl | with_reducible apply And.intro | ((with_reducible show drawOK _ _ = true); rfl))) <;> (try first | omega | (simp only [InR]; omega) | with_reducible assumption)
      rw [h1]; clear h1 Q1; simp only [thenA, vc_assoc])
    simp (maxSteps := 4000000) only [go_sem, AV.one, drawV, intsOf, keyIdx, over, putO, memAt, List.map_cons, List.length_cons, ↓reduceIte, snap_trues, imm_trues, enc_pair, enc_iterv, zdrop, one_i, one_b, one_sl, one_ptr, one_ref, one_nilp, one_mp, one_fn, one_nilf]
    all_goals (repeat' (first | with_reducible rfl | with_reducible apply And.intro | ((with_reducible show drawOK _ _ = true); rfl))) <;> (try first | omega | (simp only [InR]; omega) | with_reducible assumption)
  have c12 : thinB t = true ∧ faultT t = 0 := by simpa using c0
  obtain ⟨c1, c2⟩ := c12
  have hl := thin_len c1
  have hf := fok_of c2
  have hl0 := hf.l0
  have hl9 := hf.l9
  have hlv := hf.lv
  have hm5 := hf.m5
  have hlen := hf.len
  have hw0 : 0 ≤ which := hw.1
  have hw1 : which ≤ 255 := hw.2
  have hb0 : 0 ≤ by' := hb.1
  have hb1 : by' ≤ 255 := hb.2
  have hhl : t.heights.length ≤ 10 := by omega
  have honeH : ∀ x ∈ t.heights.map EncE.cs, ∀ c ∈ x, AV.one c = true := fun x hx c hc => by
    obtain ⟨a, _, rfl⟩ := List.mem_map.1 hx
    simp only [EncE.cs, List.mem_cons, List.not_mem_nil, or_false] at hc
    rcases hc with rfl | rfl <;> rfl
  have hlnH : ∀ x ∈ t.heights.map EncE.cs, x.length = 2 := fun x hx => by
    obtain ⟨a, _, rfl⟩ := List.mem_map.1 hx
    rfl
  have honeM : ∀ x ∈ t.marks.map EncE.cs, ∀ c ∈ x, AV.one c = true := fun x hx c hc => by
    obtain ⟨a, _, rfl⟩ := List.mem_map.1 hx
    simp only [EncE.cs, List.mem_cons, List.not_mem_nil, or_false] at hc
    rcases hc with rfl | rfl | rfl | rfl <;> rfl
  have hlnM : ∀ x ∈ t.marks.map EncE.cs, x.length = 4 := fun x hx => by
    obtain ⟨a, _, rfl⟩ := List.mem_map.1 hx
    rfl
  have q1 := Int.emod_nonneg which (show ((t.heights.length : Int) + t.marks.length) ≠ 0 by omega)
  have q2 := Int.emod_lt_of_pos which (show (0 : Int) < (t.heights.length : Int) + t.marks.length by omega)
  obtain ⟨k, ek⟩ := Int.eq_ofNat_of_zero_le q1
  rw [ek] at q2
  obtain ⟨l, e1, hL⟩ := leave_ok c2
  have hcl : (castL l).length = l.length := cast_len l
  cases cH : decide ((k : Int) < (t.heights.length : Int))
  case true =>
    have hk : k < t.heights.length := by simpa using cH
    have hgr := getD_mapA (f := EncE.cs) hk
    have hrb := hf.hs _ (at_mem hk)
    obtain ⟨r, hr⟩ : ∃ r, at_ t.heights k = r := ⟨_, rfl⟩
    rw [hr] at hgr hrb
    obtain ⟨A0, hA0⟩ : ∃ a, max 0 (r.lo - by' % 3) = a := ⟨_, rfl⟩
    obtain ⟨A1, hA1⟩ : ∃ a, min 99 (r.hi + by' / 3 % 3) = a := ⟨_, rfl⟩
    have hAb : 0 ≤ A0 ∧ A0 ≤ r.lo ∧ r.hi ≤ A1 ∧ A1 ≤ 99 := by omega
    obtain ⟨X, hX⟩ : ∃ X, (⟨t.last, t.heights.set k ⟨A0, A1⟩, t.step, t.levels, t.marks⟩ : Tb) = X := ⟨_, rfl⟩
    have hset : (t.heights.map EncE.cs).set k [.int .i64 A0, .int .i64 A1] = (t.heights.set k ⟨A0, A1⟩).map EncE.cs := by rw [List.map_set]; rfl
    have hgs := getD_setW (l := t.heights.map EncE.cs) (c := k) (by rw [List.length_map]; exact hk)
    have htk : List.take t.heights.length ((t.heights.set k ⟨A0, A1⟩).map EncE.cs) = (t.heights.set k ⟨A0, A1⟩).map EncE.cs := List.take_of_length_le (by rw [List.length_map, List.length_set]; exact Nat.le_refl _)
    have htkM : List.take t.marks.length (t.marks.map EncE.cs) = t.marks.map EncE.cs := List.take_of_length_le (by rw [List.length_map]; exact Nat.le_refl _)
    cases d0 : (thinB X && decide (faultT X = 0))
    · simp only [enc_fnl, enc_fnb, enc_fnc, enc_refc, enc_arr, enc_int, enc_bool, enc_list, enc_rg, enc_mk, enc_tb]
      refine callP_of_vc (Φ := P5231) Try.func3 rfl (by rfl) (by rw [Try.ntmps3]; simp) mixed P5231_ok (by simp [AV.strip, AV.strip1, Tk.strip]) ?_
      rw [Try.ntmps3]
      simp only [Try.f3, startSt, tmFrom]
      iterate 2 (
        refine vc_seqK fun Q1 h1 => ?_
        simp (maxSteps := 4000000) only [go_sem, AV.one, drawV, intsOf, keyIdx, over, putO, memAt, List.map_cons, List.length_cons, ↓reduceIte, snap_trues, imm_trues, enc_pair, enc_iterv, zdrop, one_i, one_b, one_sl, one_ptr, one_ref, one_nilp, one_mp, one_fn, one_nilf, c0]
        all_goals (repeat' (first | with_reducible rfl | with_reducible apply And.intro | ((with_reducible show drawOK _ _ = true); rfl))) <;> (try first | omega | (simp only [InR]; omega) | with_reducible assumption)
        rw [h1]; clear h1 Q1; simp only [thenA, vc_assoc])
      iterate 2 (
        refine vc_seqK fun Q1 h1 => ?_
        simp (maxSteps := 4000000) only [go_sem, AV.one, drawV, intsOf, keyIdx, over, putO, memAt, List.map_cons, List.length_cons, ↓reduceIte, snap_trues, imm_trues, enc_pair, enc_iterv, zdrop, one_i, one_b, one_sl, one_ptr, one_ref, one_nilp, one_mp, one_fn, one_nilf]
        all_goals (repeat' (first | with_reducible rfl | with_reducible apply And.intro | ((with_reducible show drawOK _ _ = true); rfl))) <;> (try first | omega | (simp only [InR]; omega) | with_reducible assumption)
        rw [h1]; clear h1 Q1; simp only [thenA, vc_assoc])
      refine vc_seqK fun Q1 h1 => ?_
      simp (maxSteps := 4000000) only [go_sem, drawV, intsOf, keyIdx, over, putO, memAt, List.map_cons, List.length_cons, ↓reduceIte, snap_trues, imm_trues, enc_pair, enc_iterv, zdrop, one_i, one_b, one_sl, one_ptr, one_ref, one_nilp, one_mp, one_fn, one_nilf, honeH, hlnH, honeM, hlnM]
      all_goals (repeat' (first | with_reducible rfl | with_reducible apply And.intro | ((with_reducible show drawOK _ _ = true); rfl))) <;> (try first | omega | (simp only [InR]; omega) | with_reducible assumption)
      refine ⟨68, by rfl, ?_⟩
      simp (maxSteps := 4000000) only [go_sem, drawV, intsOf, keyIdx, over, putO, memAt, List.map_cons, List.length_cons, ↓reduceIte, snap_trues, imm_trues, enc_pair, enc_iterv, zdrop, one_i, one_b, one_sl, one_ptr, one_ref, one_nilp, one_mp, one_fn, one_nilf, (show Nat.testBit 68 399 = false from rfl), Bool.false_and, Bool.true_and, Bool.false_eq_true, (show Nat.testBit 68 200 = false from rfl), (show ∀ m, hideM false m = m from fun _ => rfl), memAt_hide, hideM_length, hideO, drawF, vcFr, Go.Fs.freeR, effL, apart, objOf, List.all_cons, List.all_nil, List.contains_cons, List.contains_nil, Nat.reduceBEq, Bool.or_self, (show Nat.testBit 68 0 = false from rfl), (show Nat.testBit 68 1 = false from rfl), (show Nat.testBit 68 2 = true from rfl), (show Nat.testBit 68 3 = false from rfl), (show Nat.testBit 68 4 = false from rfl), (show Nat.testBit 68 5 = false from rfl), (show Nat.testBit 68 6 = true from rfl), (show Nat.testBit 68 7 = false from rfl), (show Nat.testBit 68 8 = false from rfl), (show Nat.testBit 68 9 = false from rfl), (show Nat.testBit 68 10 = false from rfl), (show Nat.testBit 68 11 = false from rfl), honeH, hlnH, honeM, hlnM]
      all_goals (repeat' (first | with_reducible rfl | with_reducible apply And.intro | ((with_reducible show drawOK _ _ = true); rfl))) <;> (try first | omega | (simp only [InR]; omega) | with_reducible assumption)
      rw [h1]; clear h1 Q1; simp only [thenA, vc_assoc]
      refine vc_seqK fun Q1 h1 => ?_
      simp (maxSteps := 4000000) only [go_sem, AV.one, drawV, intsOf, keyIdx, over, putO, memAt, List.map_cons, List.length_cons, ↓reduceIte, snap_trues, imm_trues, enc_pair, enc_iterv, zdrop, one_i, one_b, one_sl, one_ptr, one_ref, one_nilp, one_mp, one_fn, one_nilf, ek]
      all_goals (repeat' (first | with_reducible rfl | with_reducible apply And.intro | ((with_reducible show drawOK _ _ = true); rfl))) <;> (try first | omega | (simp only [InR]; omega) | with_reducible assumption)
      rw [h1]; clear h1 Q1; simp only [thenA, vc_assoc]
      refine vc_seqK fun Q1 h1 => ?_
      simp (maxSteps := 4000000) only [go_sem, AV.one, drawV, intsOf, keyIdx, over, putO, memAt, List.map_cons, List.length_cons, ↓reduceIte, snap_trues, imm_trues, enc_pair, enc_iterv, zdrop, one_i, one_b, one_sl, one_ptr, one_ref, one_nilp, one_mp, one_fn, one_nilf]
      all_goals (repeat' (first | with_reducible rfl | with_reducible apply And.intro | ((with_reducible show drawOK _ _ = true); rfl))) <;> (try first | omega | (simp only [InR]; omega) | with_reducible assumption)
      rw [h1]; clear h1 Q1; simp only [thenA, vc_assoc]
      refine vc_seqK fun Q1 h1 => ?_
      simp (maxSteps := 4000000) only [go_sem, AV.one, drawV, intsOf, keyIdx, over, putO, memAt, List.map_cons, List.length_cons, ↓reduceIte, snap_trues, imm_trues, enc_pair, enc_iterv, zdrop, one_i, one_b, one_sl, one_ptr, one_ref, one_nilp, one_mp, one_fn, one_nilf, cH]
      all_goals (repeat' (first | with_reducible rfl | with_reducible apply And.intro | ((with_reducible show drawOK _ _ = true); rfl))) <;> (try first | omega | (simp only [InR]; omega) | with_reducible assumption)
      rw [h1]; clear h1 Q1; simp only [thenA, vc_assoc]
      refine vc_seqK fun Q1 h1 => ?_
      simp (maxSteps := 4000000) only [go_sem, AV.one, drawV, intsOf, keyIdx, over, putO, memAt, List.map_cons, List.length_cons, ↓reduceIte, snap_trues, imm_trues, enc_pair, enc_iterv, zdrop, one_i, one_b, one_sl, one_ptr, one_ref, one_nilp, one_mp, one_fn, one_nilf, hk, ek]
      all_goals (repeat' (first | with_reducible rfl | with_reducible apply And.intro | ((with_reducible show drawOK _ _ = true); rfl))) <;> (try first | omega | (simp only [InR]; omega) | with_reducible assumption)
      rw [h1]; clear h1 Q1; simp only [thenA, vc_assoc]
      refine vc_seqK fun Q1 h1 => ?_
      simp (maxSteps := 4000000) only [go_sem, AV.one, drawV, intsOf, keyIdx, over, putO, memAt, List.map_cons, List.length_cons, ↓reduceIte, snap_trues, imm_trues, enc_pair, enc_iterv, zdrop, one_i, one_b, one_sl, one_ptr, one_ref, one_nilp, one_mp, one_fn, one_nilf, hgr, hgs, hk, hA0, hA1, List.length_set, List.length_map, List.set_set, List.set_cons_zero, List.set_cons_succ]
      all_goals (repeat' (first | with_reducible rfl | with_reducible apply And.intro | ((with_reducible show drawOK _ _ = true); rfl))) <;> (try first | omega | (simp only [InR]; omega) | with_reducible assumption)
      rw [h1]; clear h1 Q1; simp only [thenA, vc_assoc]
      refine vc_seqK fun Q1 h1 => ?_
      simp (maxSteps := 4000000) only [go_sem, AV.one, drawV, intsOf, keyIdx, over, putO, memAt, List.map_cons, List.length_cons, ↓reduceIte, snap_trues, imm_trues, enc_pair, enc_iterv, zdrop, one_i, one_b, one_sl, one_ptr, one_ref, one_nilp, one_mp, one_fn, one_nilf, hset, htk, htkM, hX, d0]
      all_goals (repeat' (first | with_reducible rfl | with_reducible apply And.intro | ((with_reducible show drawOK _ _ = true); rfl))) <;> (try first | omega | (simp only [InR]; omega) | with_reducible assumption)
      rw [h1]; clear h1 Q1; simp only [thenA, vc_assoc]
      simp (maxSteps := 4000000) only [go_sem, AV.one, drawV, intsOf, keyIdx, over, putO, memAt, List.map_cons, List.length_cons, ↓reduceIte, snap_trues, imm_trues, enc_pair, enc_iterv, zdrop, one_i, one_b, one_sl, one_ptr, one_ref, one_nilp, one_mp, one_fn, one_nilf]
      all_goals (repeat' (first | with_reducible rfl | with_reducible apply And.intro | ((with_reducible show drawOK _ _ = true); rfl))) <;> (try first | omega | (simp only [InR]; omega) | with_reducible assumption)
    have d12 : thinB X = true ∧ faultT X = 0 := by simpa using d0
    have hfx : FOk X := fok_of d12.2
    have hXl : X.last = t.last := by rw [← hX]
    have wt : WideT t X := wideH hf hfx hk (by rw [hr]; exact hAb.2.1) (by rw [hr]; exact hAb.2.2.1) hX
    obtain ⟨m, e2, hM⟩ := leave_ok hfx.fault
    have hxm : X.marks.length = t.marks.length := by rw [← hX]
    have hml : m.length ≤ l.length := least_len hM (by rw [hxm]; exact hL.inc) (wt.ps _ hL.poss)
    have hcm : (castL m).length = m.length := cast_len m
    have hd1 : decide ((l.length : Int) < (m.length : Int)) = false := by rw [decide_eq_false_iff_not]; omega
    have hxh : X.heights.length = t.heights.length := by rw [← hX] ; exact List.length_set
    have hxv : X.levels.length = t.levels.length := by rw [← hX]
    by_cases z : l = []
    case neg =>
      have hz : decide ((0 : Int) < (l.length : Int)) = true := by
        cases l with
        | nil => exact absurd rfl z
        | cons _ _ => simp <;> omega
      simp only [enc_fnl, enc_fnb, enc_fnc, enc_refc, enc_arr, enc_int, enc_bool, enc_list, enc_rg, enc_mk, enc_tb]
      refine callP_of_vc (Φ := P5231) Try.func3 rfl (by rfl) (by rw [Try.ntmps3]; simp) mixed P5231_ok (by simp [AV.strip, AV.strip1, Tk.strip]) ?_
      rw [Try.ntmps3]
      simp only [Try.f3, startSt, tmFrom]
      iterate 2 (
        refine vc_seqK fun Q1 h1 => ?_
        simp (maxSteps := 4000000) only [go_sem, AV.one, drawV, intsOf, keyIdx, over, putO, memAt, List.map_cons, List.length_cons, ↓reduceIte, snap_trues, imm_trues, enc_pair, enc_iterv, zdrop, one_i, one_b, one_sl, one_ptr, one_ref, one_nilp, one_mp, one_fn, one_nilf, c0]
        all_goals (repeat' (first | with_reducible rfl | with_reducible apply And.intro | ((with_reducible show drawOK _ _ = true); rfl))) <;> (try first | omega | (simp only [InR]; omega) | with_reducible assumption)
        rw [h1]; clear h1 Q1; simp only [thenA, vc_assoc])
      iterate 2 (
        refine vc_seqK fun Q1 h1 => ?_
        simp (maxSteps := 4000000) only [go_sem, AV.one, drawV, intsOf, keyIdx, over, putO, memAt, List.map_cons, List.length_cons, ↓reduceIte, snap_trues, imm_trues, enc_pair, enc_iterv, zdrop, one_i, one_b, one_sl, one_ptr, one_ref, one_nilp, one_mp, one_fn, one_nilf]
        all_goals (repeat' (first | with_reducible rfl | with_reducible apply And.intro | ((with_reducible show drawOK _ _ = true); rfl))) <;> (try first | omega | (simp only [InR]; omega) | with_reducible assumption)
        rw [h1]; clear h1 Q1; simp only [thenA, vc_assoc])
      refine vc_seqK fun Q1 h1 => ?_
      simp (maxSteps := 4000000) only [go_sem, drawV, intsOf, keyIdx, over, putO, memAt, List.map_cons, List.length_cons, ↓reduceIte, snap_trues, imm_trues, enc_pair, enc_iterv, zdrop, one_i, one_b, one_sl, one_ptr, one_ref, one_nilp, one_mp, one_fn, one_nilf, honeH, hlnH, honeM, hlnM]
      all_goals (repeat' (first | with_reducible rfl | with_reducible apply And.intro | ((with_reducible show drawOK _ _ = true); rfl))) <;> (try first | omega | (simp only [InR]; omega) | with_reducible assumption)
      refine ⟨68, by rfl, ?_⟩
      simp (maxSteps := 4000000) only [go_sem, drawV, intsOf, keyIdx, over, putO, memAt, List.map_cons, List.length_cons, ↓reduceIte, snap_trues, imm_trues, enc_pair, enc_iterv, zdrop, one_i, one_b, one_sl, one_ptr, one_ref, one_nilp, one_mp, one_fn, one_nilf, (show Nat.testBit 68 399 = false from rfl), Bool.false_and, Bool.true_and, Bool.false_eq_true, (show Nat.testBit 68 200 = false from rfl), (show ∀ m, hideM false m = m from fun _ => rfl), memAt_hide, hideM_length, hideO, drawF, vcFr, Go.Fs.freeR, effL, apart, objOf, List.all_cons, List.all_nil, List.contains_cons, List.contains_nil, Nat.reduceBEq, Bool.or_self, (show Nat.testBit 68 0 = false from rfl), (show Nat.testBit 68 1 = false from rfl), (show Nat.testBit 68 2 = true from rfl), (show Nat.testBit 68 3 = false from rfl), (show Nat.testBit 68 4 = false from rfl), (show Nat.testBit 68 5 = false from rfl), (show Nat.testBit 68 6 = true from rfl), (show Nat.testBit 68 7 = false from rfl), (show Nat.testBit 68 8 = false from rfl), (show Nat.testBit 68 9 = false from rfl), (show Nat.testBit 68 10 = false from rfl), (show Nat.testBit 68 11 = false from rfl), honeH, hlnH, honeM, hlnM]
      all_goals (repeat' (first | with_reducible rfl | with_reducible apply And.intro | ((with_reducible show drawOK _ _ = true); rfl))) <;> (try first | omega | (simp only [InR]; omega) | with_reducible assumption)
      rw [h1]; clear h1 Q1; simp only [thenA, vc_assoc]
      refine vc_seqK fun Q1 h1 => ?_
      simp (maxSteps := 4000000) only [go_sem, AV.one, drawV, intsOf, keyIdx, over, putO, memAt, List.map_cons, List.length_cons, ↓reduceIte, snap_trues, imm_trues, enc_pair, enc_iterv, zdrop, one_i, one_b, one_sl, one_ptr, one_ref, one_nilp, one_mp, one_fn, one_nilf, ek]
      all_goals (repeat' (first | with_reducible rfl | with_reducible apply And.intro | ((with_reducible show drawOK _ _ = true); rfl))) <;> (try first | omega | (simp only [InR]; omega) | with_reducible assumption)
      rw [h1]; clear h1 Q1; simp only [thenA, vc_assoc]
      refine vc_seqK fun Q1 h1 => ?_
      simp (maxSteps := 4000000) only [go_sem, AV.one, drawV, intsOf, keyIdx, over, putO, memAt, List.map_cons, List.length_cons, ↓reduceIte, snap_trues, imm_trues, enc_pair, enc_iterv, zdrop, one_i, one_b, one_sl, one_ptr, one_ref, one_nilp, one_mp, one_fn, one_nilf]
      all_goals (repeat' (first | with_reducible rfl | with_reducible apply And.intro | ((with_reducible show drawOK _ _ = true); rfl))) <;> (try first | omega | (simp only [InR]; omega) | with_reducible assumption)
      rw [h1]; clear h1 Q1; simp only [thenA, vc_assoc]
      refine vc_seqK fun Q1 h1 => ?_
      simp (maxSteps := 4000000) only [go_sem, AV.one, drawV, intsOf, keyIdx, over, putO, memAt, List.map_cons, List.length_cons, ↓reduceIte, snap_trues, imm_trues, enc_pair, enc_iterv, zdrop, one_i, one_b, one_sl, one_ptr, one_ref, one_nilp, one_mp, one_fn, one_nilf, cH]
      all_goals (repeat' (first | with_reducible rfl | with_reducible apply And.intro | ((with_reducible show drawOK _ _ = true); rfl))) <;> (try first | omega | (simp only [InR]; omega) | with_reducible assumption)
      rw [h1]; clear h1 Q1; simp only [thenA, vc_assoc]
      refine vc_seqK fun Q1 h1 => ?_
      simp (maxSteps := 4000000) only [go_sem, AV.one, drawV, intsOf, keyIdx, over, putO, memAt, List.map_cons, List.length_cons, ↓reduceIte, snap_trues, imm_trues, enc_pair, enc_iterv, zdrop, one_i, one_b, one_sl, one_ptr, one_ref, one_nilp, one_mp, one_fn, one_nilf, hk, ek]
      all_goals (repeat' (first | with_reducible rfl | with_reducible apply And.intro | ((with_reducible show drawOK _ _ = true); rfl))) <;> (try first | omega | (simp only [InR]; omega) | with_reducible assumption)
      rw [h1]; clear h1 Q1; simp only [thenA, vc_assoc]
      refine vc_seqK fun Q1 h1 => ?_
      simp (maxSteps := 4000000) only [go_sem, AV.one, drawV, intsOf, keyIdx, over, putO, memAt, List.map_cons, List.length_cons, ↓reduceIte, snap_trues, imm_trues, enc_pair, enc_iterv, zdrop, one_i, one_b, one_sl, one_ptr, one_ref, one_nilp, one_mp, one_fn, one_nilf, hgr, hgs, hk, hA0, hA1, List.length_set, List.length_map, List.set_set, List.set_cons_zero, List.set_cons_succ]
      all_goals (repeat' (first | with_reducible rfl | with_reducible apply And.intro | ((with_reducible show drawOK _ _ = true); rfl))) <;> (try first | omega | (simp only [InR]; omega) | with_reducible assumption)
      rw [h1]; clear h1 Q1; simp only [thenA, vc_assoc]
      iterate 2 (
        refine vc_seqK fun Q1 h1 => ?_
        simp (maxSteps := 4000000) only [go_sem, AV.one, drawV, intsOf, keyIdx, over, putO, memAt, List.map_cons, List.length_cons, ↓reduceIte, snap_trues, imm_trues, enc_pair, enc_iterv, zdrop, one_i, one_b, one_sl, one_ptr, one_ref, one_nilp, one_mp, one_fn, one_nilf, hset, htk, htkM, hX, d0]
        all_goals (repeat' (first | with_reducible rfl | with_reducible apply And.intro | ((with_reducible show drawOK _ _ = true); rfl))) <;> (try first | omega | (simp only [InR]; omega) | with_reducible assumption)
        rw [h1]; clear h1 Q1; simp only [thenA, vc_assoc])
      refine vc_seqK fun Q1 h1 => ?_
      simp (maxSteps := 4000000) only [go_sem, AV.one, drawV, intsOf, keyIdx, over, putO, memAt, List.map_cons, List.length_cons, ↓reduceIte, snap_trues, imm_trues, enc_pair, enc_iterv, zdrop, one_i, one_b, one_sl, one_ptr, one_ref, one_nilp, one_mp, one_fn, one_nilf, e1]
      all_goals (repeat' (first | with_reducible rfl | with_reducible apply And.intro | ((with_reducible show drawOK _ _ = true); rfl))) <;> (try first | omega | (simp only [InR]; omega) | with_reducible assumption)
      rw [h1]; clear h1 Q1; simp only [thenA, vc_assoc]
      refine vc_seqK fun Q1 h1 => ?_
      simp (maxSteps := 4000000) only [go_sem, AV.one, drawV, intsOf, keyIdx, over, putO, memAt, List.map_cons, List.length_cons, ↓reduceIte, snap_trues, imm_trues, enc_pair, enc_iterv, zdrop, one_i, one_b, one_sl, one_ptr, one_ref, one_nilp, one_mp, one_fn, one_nilf, hset, htk, htkM, hX, e2]
      all_goals (repeat' (first | with_reducible rfl | with_reducible apply And.intro | ((with_reducible show drawOK _ _ = true); rfl))) <;> (try first | omega | (simp only [InR]; omega) | with_reducible assumption)
      rw [h1]; clear h1 Q1; simp only [thenA, vc_assoc]
      iterate 2 (
        refine vc_seqK fun Q1 h1 => ?_
        simp (maxSteps := 4000000) only [go_sem, AV.one, drawV, intsOf, keyIdx, over, putO, memAt, List.map_cons, List.length_cons, ↓reduceIte, snap_trues, imm_trues, enc_pair, enc_iterv, zdrop, one_i, one_b, one_sl, one_ptr, one_ref, one_nilp, one_mp, one_fn, one_nilf, hcl, hcm, hd1, gt_iff_lt]
        all_goals (repeat' (first | with_reducible rfl | with_reducible apply And.intro | ((with_reducible show drawOK _ _ = true); rfl))) <;> (try first | omega | (simp only [InR]; omega) | with_reducible assumption)
        rw [h1]; clear h1 Q1; simp only [thenA, vc_assoc])
      simp (maxSteps := 4000000) only [go_sem, AV.one, drawV, intsOf, keyIdx, over, putO, memAt, List.map_cons, List.length_cons, ↓reduceIte, snap_trues, imm_trues, enc_pair, enc_iterv, zdrop, one_i, one_b, one_sl, one_ptr, one_ref, one_nilp, one_mp, one_fn, one_nilf, hcl, hz, gt_iff_lt]
      all_goals (repeat' (first | with_reducible rfl | with_reducible apply And.intro | ((with_reducible show drawOK _ _ = true); rfl))) <;> (try first | omega | (simp only [InR]; omega) | with_reducible assumption)
    have hz : decide ((0 : Int) < (l.length : Int)) = false := by rw [z]; rfl
    have q := (least_nil c2 hL).1 z
    obtain ⟨q', hin⟩ := bnd_inside c2 hfx.fault hXl.symm q wt.tr
    have e3 := bnd_ok c2 q
    have e4 := bnd_ok hfx.fault q'
    have e5 := dry_ok c2 q (show (0 : Int) ≤ 0 by omega) hl0 (Int.le_refl _)
    have e6 := dry_ok hfx.fault q' (show (0 : Int) ≤ 0 by omega) hl0 (show t.last ≤ X.last by omega)
    have hdd := wide_dry c2 hfx.fault wt q q' hXl (a := 0) (b := t.last) (by omega) hl0 (Int.le_refl _)
    obtain ⟨A, hA⟩ : ∃ A, ((List.range (t.last + 1).toNat).map fun i : Nat => boundsL (truthsL t) i) = A := ⟨_, rfl⟩
    obtain ⟨B, hB⟩ : ∃ B, ((List.range (X.last + 1).toNat).map fun i : Nat => boundsL (truthsL X) i) = B := ⟨_, rfl⟩
    rw [e3, e4, hA, hB] at hin
    rw [hA] at e3
    rw [hB] at e4
    simp only at hin
    have hAl : A.length ≤ 10 := by rw [← hA]; simp; omega
    have hBl : B.length ≤ 10 := by rw [← hB]; simp; omega
    obtain ⟨D1, hD1⟩ : ∃ d, dryL (truthsL t) 0 t.last = d := ⟨_, rfl⟩
    obtain ⟨D2, hD2⟩ : ∃ d, dryL (truthsL X) 0 t.last = d := ⟨_, rfl⟩
    rw [hD1] at e5 hdd
    rw [hD2] at e6 hdd
    have hdd' : decide (D1 ≤ D2) = true := decide_eq_true hdd
    simp only [enc_fnl, enc_fnb, enc_fnc, enc_refc, enc_arr, enc_int, enc_bool, enc_list, enc_rg, enc_mk, enc_tb]
    refine callP_of_vc (Φ := P5231) Try.func3 rfl (by rfl) (by rw [Try.ntmps3]; simp) mixed P5231_ok (by simp [AV.strip, AV.strip1, Tk.strip]) ?_
    rw [Try.ntmps3]
    simp only [Try.f3, startSt, tmFrom]
    iterate 2 (
      refine vc_seqK fun Q1 h1 => ?_
      simp (maxSteps := 4000000) only [go_sem, AV.one, drawV, intsOf, keyIdx, over, putO, memAt, List.map_cons, List.length_cons, ↓reduceIte, snap_trues, imm_trues, enc_pair, enc_iterv, zdrop, one_i, one_b, one_sl, one_ptr, one_ref, one_nilp, one_mp, one_fn, one_nilf, c0]
      all_goals (repeat' (first | with_reducible rfl | with_reducible apply And.intro | ((with_reducible show drawOK _ _ = true); rfl))) <;> (try first | omega | (simp only [InR]; omega) | with_reducible assumption)
      rw [h1]; clear h1 Q1; simp only [thenA, vc_assoc])
    iterate 2 (
      refine vc_seqK fun Q1 h1 => ?_
      simp (maxSteps := 4000000) only [go_sem, AV.one, drawV, intsOf, keyIdx, over, putO, memAt, List.map_cons, List.length_cons, ↓reduceIte, snap_trues, imm_trues, enc_pair, enc_iterv, zdrop, one_i, one_b, one_sl, one_ptr, one_ref, one_nilp, one_mp, one_fn, one_nilf]
      all_goals (repeat' (first | with_reducible rfl | with_reducible apply And.intro | ((with_reducible show drawOK _ _ = true); rfl))) <;> (try first | omega | (simp only [InR]; omega) | with_reducible assumption)
      rw [h1]; clear h1 Q1; simp only [thenA, vc_assoc])
    refine vc_seqK fun Q1 h1 => ?_
    simp (maxSteps := 4000000) only [go_sem, drawV, intsOf, keyIdx, over, putO, memAt, List.map_cons, List.length_cons, ↓reduceIte, snap_trues, imm_trues, enc_pair, enc_iterv, zdrop, one_i, one_b, one_sl, one_ptr, one_ref, one_nilp, one_mp, one_fn, one_nilf, honeH, hlnH, honeM, hlnM]
    all_goals (repeat' (first | with_reducible rfl | with_reducible apply And.intro | ((with_reducible show drawOK _ _ = true); rfl))) <;> (try first | omega | (simp only [InR]; omega) | with_reducible assumption)
    refine ⟨68, by rfl, ?_⟩
    simp (maxSteps := 4000000) only [go_sem, drawV, intsOf, keyIdx, over, putO, memAt, List.map_cons, List.length_cons, ↓reduceIte, snap_trues, imm_trues, enc_pair, enc_iterv, zdrop, one_i, one_b, one_sl, one_ptr, one_ref, one_nilp, one_mp, one_fn, one_nilf, (show Nat.testBit 68 399 = false from rfl), Bool.false_and, Bool.true_and, Bool.false_eq_true, (show Nat.testBit 68 200 = false from rfl), (show ∀ m, hideM false m = m from fun _ => rfl), memAt_hide, hideM_length, hideO, drawF, vcFr, Go.Fs.freeR, effL, apart, objOf, List.all_cons, List.all_nil, List.contains_cons, List.contains_nil, Nat.reduceBEq, Bool.or_self, (show Nat.testBit 68 0 = false from rfl), (show Nat.testBit 68 1 = false from rfl), (show Nat.testBit 68 2 = true from rfl), (show Nat.testBit 68 3 = false from rfl), (show Nat.testBit 68 4 = false from rfl), (show Nat.testBit 68 5 = false from rfl), (show Nat.testBit 68 6 = true from rfl), (show Nat.testBit 68 7 = false from rfl), (show Nat.testBit 68 8 = false from rfl), (show Nat.testBit 68 9 = false from rfl), (show Nat.testBit 68 10 = false from rfl), (show Nat.testBit 68 11 = false from rfl), honeH, hlnH, honeM, hlnM]
    all_goals (repeat' (first | with_reducible rfl | with_reducible apply And.intro | ((with_reducible show drawOK _ _ = true); rfl))) <;> (try first | omega | (simp only [InR]; omega) | with_reducible assumption)
    rw [h1]; clear h1 Q1; simp only [thenA, vc_assoc]
    refine vc_seqK fun Q1 h1 => ?_
    simp (maxSteps := 4000000) only [go_sem, AV.one, drawV, intsOf, keyIdx, over, putO, memAt, List.map_cons, List.length_cons, ↓reduceIte, snap_trues, imm_trues, enc_pair, enc_iterv, zdrop, one_i, one_b, one_sl, one_ptr, one_ref, one_nilp, one_mp, one_fn, one_nilf, ek]
    all_goals (repeat' (first | with_reducible rfl | with_reducible apply And.intro | ((with_reducible show drawOK _ _ = true); rfl))) <;> (try first | omega | (simp only [InR]; omega) | with_reducible assumption)
    rw [h1]; clear h1 Q1; simp only [thenA, vc_assoc]
    refine vc_seqK fun Q1 h1 => ?_
    simp (maxSteps := 4000000) only [go_sem, AV.one, drawV, intsOf, keyIdx, over, putO, memAt, List.map_cons, List.length_cons, ↓reduceIte, snap_trues, imm_trues, enc_pair, enc_iterv, zdrop, one_i, one_b, one_sl, one_ptr, one_ref, one_nilp, one_mp, one_fn, one_nilf]
    all_goals (repeat' (first | with_reducible rfl | with_reducible apply And.intro | ((with_reducible show drawOK _ _ = true); rfl))) <;> (try first | omega | (simp only [InR]; omega) | with_reducible assumption)
    rw [h1]; clear h1 Q1; simp only [thenA, vc_assoc]
    refine vc_seqK fun Q1 h1 => ?_
    simp (maxSteps := 4000000) only [go_sem, AV.one, drawV, intsOf, keyIdx, over, putO, memAt, List.map_cons, List.length_cons, ↓reduceIte, snap_trues, imm_trues, enc_pair, enc_iterv, zdrop, one_i, one_b, one_sl, one_ptr, one_ref, one_nilp, one_mp, one_fn, one_nilf, cH]
    all_goals (repeat' (first | with_reducible rfl | with_reducible apply And.intro | ((with_reducible show drawOK _ _ = true); rfl))) <;> (try first | omega | (simp only [InR]; omega) | with_reducible assumption)
    rw [h1]; clear h1 Q1; simp only [thenA, vc_assoc]
    refine vc_seqK fun Q1 h1 => ?_
    simp (maxSteps := 4000000) only [go_sem, AV.one, drawV, intsOf, keyIdx, over, putO, memAt, List.map_cons, List.length_cons, ↓reduceIte, snap_trues, imm_trues, enc_pair, enc_iterv, zdrop, one_i, one_b, one_sl, one_ptr, one_ref, one_nilp, one_mp, one_fn, one_nilf, hk, ek]
    all_goals (repeat' (first | with_reducible rfl | with_reducible apply And.intro | ((with_reducible show drawOK _ _ = true); rfl))) <;> (try first | omega | (simp only [InR]; omega) | with_reducible assumption)
    rw [h1]; clear h1 Q1; simp only [thenA, vc_assoc]
    refine vc_seqK fun Q1 h1 => ?_
    simp (maxSteps := 4000000) only [go_sem, AV.one, drawV, intsOf, keyIdx, over, putO, memAt, List.map_cons, List.length_cons, ↓reduceIte, snap_trues, imm_trues, enc_pair, enc_iterv, zdrop, one_i, one_b, one_sl, one_ptr, one_ref, one_nilp, one_mp, one_fn, one_nilf, hgr, hgs, hk, hA0, hA1, List.length_set, List.length_map, List.set_set, List.set_cons_zero, List.set_cons_succ]
    all_goals (repeat' (first | with_reducible rfl | with_reducible apply And.intro | ((with_reducible show drawOK _ _ = true); rfl))) <;> (try first | omega | (simp only [InR]; omega) | with_reducible assumption)
    rw [h1]; clear h1 Q1; simp only [thenA, vc_assoc]
    iterate 2 (
      refine vc_seqK fun Q1 h1 => ?_
      simp (maxSteps := 4000000) only [go_sem, AV.one, drawV, intsOf, keyIdx, over, putO, memAt, List.map_cons, List.length_cons, ↓reduceIte, snap_trues, imm_trues, enc_pair, enc_iterv, zdrop, one_i, one_b, one_sl, one_ptr, one_ref, one_nilp, one_mp, one_fn, one_nilf, hset, htk, htkM, hX, d0]
      all_goals (repeat' (first | with_reducible rfl | with_reducible apply And.intro | ((with_reducible show drawOK _ _ = true); rfl))) <;> (try first | omega | (simp only [InR]; omega) | with_reducible assumption)
      rw [h1]; clear h1 Q1; simp only [thenA, vc_assoc])
    refine vc_seqK fun Q1 h1 => ?_
    simp (maxSteps := 4000000) only [go_sem, AV.one, drawV, intsOf, keyIdx, over, putO, memAt, List.map_cons, List.length_cons, ↓reduceIte, snap_trues, imm_trues, enc_pair, enc_iterv, zdrop, one_i, one_b, one_sl, one_ptr, one_ref, one_nilp, one_mp, one_fn, one_nilf, e1]
    all_goals (repeat' (first | with_reducible rfl | with_reducible apply And.intro | ((with_reducible show drawOK _ _ = true); rfl))) <;> (try first | omega | (simp only [InR]; omega) | with_reducible assumption)
    rw [h1]; clear h1 Q1; simp only [thenA, vc_assoc]
    refine vc_seqK fun Q1 h1 => ?_
    simp (maxSteps := 4000000) only [go_sem, AV.one, drawV, intsOf, keyIdx, over, putO, memAt, List.map_cons, List.length_cons, ↓reduceIte, snap_trues, imm_trues, enc_pair, enc_iterv, zdrop, one_i, one_b, one_sl, one_ptr, one_ref, one_nilp, one_mp, one_fn, one_nilf, hset, htk, htkM, hX, e2]
    all_goals (repeat' (first | with_reducible rfl | with_reducible apply And.intro | ((with_reducible show drawOK _ _ = true); rfl))) <;> (try first | omega | (simp only [InR]; omega) | with_reducible assumption)
    rw [h1]; clear h1 Q1; simp only [thenA, vc_assoc]
    iterate 2 (
      refine vc_seqK fun Q1 h1 => ?_
      simp (maxSteps := 4000000) only [go_sem, AV.one, drawV, intsOf, keyIdx, over, putO, memAt, List.map_cons, List.length_cons, ↓reduceIte, snap_trues, imm_trues, enc_pair, enc_iterv, zdrop, one_i, one_b, one_sl, one_ptr, one_ref, one_nilp, one_mp, one_fn, one_nilf, hcl, hcm, hd1, gt_iff_lt]
      all_goals (repeat' (first | with_reducible rfl | with_reducible apply And.intro | ((with_reducible show drawOK _ _ = true); rfl))) <;> (try first | omega | (simp only [InR]; omega) | with_reducible assumption)
      rw [h1]; clear h1 Q1; simp only [thenA, vc_assoc])
    iterate 2 (
      refine vc_seqK fun Q1 h1 => ?_
      simp (maxSteps := 4000000) only [go_sem, AV.one, drawV, intsOf, keyIdx, over, putO, memAt, List.map_cons, List.length_cons, ↓reduceIte, snap_trues, imm_trues, enc_pair, enc_iterv, zdrop, one_i, one_b, one_sl, one_ptr, one_ref, one_nilp, one_mp, one_fn, one_nilf, hcl, hz, gt_iff_lt]
      all_goals (repeat' (first | with_reducible rfl | with_reducible apply And.intro | ((with_reducible show drawOK _ _ = true); rfl))) <;> (try first | omega | (simp only [InR]; omega) | with_reducible assumption)
      rw [h1]; clear h1 Q1; simp only [thenA, vc_assoc])
    refine vc_seqK fun Q1 h1 => ?_
    simp (maxSteps := 4000000) only [go_sem, AV.one, drawV, intsOf, keyIdx, over, putO, memAt, List.map_cons, List.length_cons, ↓reduceIte, snap_trues, imm_trues, enc_pair, enc_iterv, zdrop, one_i, one_b, one_sl, one_ptr, one_ref, one_nilp, one_mp, one_fn, one_nilf, e3]
    all_goals (repeat' (first | with_reducible rfl | with_reducible apply And.intro | ((with_reducible show drawOK _ _ = true); rfl))) <;> (try first | omega | (simp only [InR]; omega) | with_reducible assumption)
    rw [h1]; clear h1 Q1; simp only [thenA, vc_assoc]
    refine vc_seqK fun Q1 h1 => ?_
    simp (maxSteps := 4000000) only [go_sem, AV.one, drawV, intsOf, keyIdx, over, putO, memAt, List.map_cons, List.length_cons, ↓reduceIte, snap_trues, imm_trues, enc_pair, enc_iterv, zdrop, one_i, one_b, one_sl, one_ptr, one_ref, one_nilp, one_mp, one_fn, one_nilf, hset, htk, htkM, hX, e4]
    all_goals (repeat' (first | with_reducible rfl | with_reducible apply And.intro | ((with_reducible show drawOK _ _ = true); rfl))) <;> (try first | omega | (simp only [InR]; omega) | with_reducible assumption)
    rw [h1]; clear h1 Q1; simp only [thenA, vc_assoc]
    refine vc_seqK fun Q1 h1 => ?_
    simp (maxSteps := 4000000) only [go_sem, AV.one, drawV, intsOf, keyIdx, over, putO, memAt, List.map_cons, List.length_cons, ↓reduceIte, snap_trues, imm_trues, enc_pair, enc_iterv, zdrop, one_i, one_b, one_sl, one_ptr, one_ref, one_nilp, one_mp, one_fn, one_nilf, e5]
    all_goals (repeat' (first | with_reducible rfl | with_reducible apply And.intro | ((with_reducible show drawOK _ _ = true); rfl))) <;> (try first | omega | (simp only [InR]; omega) | with_reducible assumption)
    rw [h1]; clear h1 Q1; simp only [thenA, vc_assoc]
    refine vc_seqK fun Q1 h1 => ?_
    simp (maxSteps := 4000000) only [go_sem, AV.one, drawV, intsOf, keyIdx, over, putO, memAt, List.map_cons, List.length_cons, ↓reduceIte, snap_trues, imm_trues, enc_pair, enc_iterv, zdrop, one_i, one_b, one_sl, one_ptr, one_ref, one_nilp, one_mp, one_fn, one_nilf, hset, htk, htkM, hX, e6]
    all_goals (repeat' (first | with_reducible rfl | with_reducible apply And.intro | ((with_reducible show drawOK _ _ = true); rfl))) <;> (try first | omega | (simp only [InR]; omega) | with_reducible assumption)
    rw [h1]; clear h1 Q1; simp only [thenA, vc_assoc]
    simp (maxSteps := 4000000) only [go_sem, AV.one, drawV, intsOf, keyIdx, over, putO, memAt, List.map_cons, List.length_cons, ↓reduceIte, snap_trues, imm_trues, enc_pair, enc_iterv, zdrop, one_i, one_b, one_sl, one_ptr, one_ref, one_nilp, one_mp, one_fn, one_nilf, hin, hdd', ge_iff_le, decide_true, decide_false]
    all_goals (repeat' (first | with_reducible rfl | with_reducible apply And.intro | ((with_reducible show drawOK _ _ = true); rfl))) <;> (try first | omega | (simp only [InR]; omega) | with_reducible assumption)
  case false =>
    have hkh : t.heights.length ≤ k := by simpa using cH
    obtain ⟨j, hj⟩ : ∃ j, k - t.heights.length = j := ⟨_, rfl⟩
    have hj' : (k : Int) - (t.heights.length : Int) = (j : Int) := by omega
    have hk : j < t.marks.length := by omega
    have hgr := getD_mapA (f := EncE.cs) hk
    have hrb := hf.ms _ (at_mem hk)
    obtain ⟨r, hr⟩ : ∃ r, at_ t.marks j = r := ⟨_, rfl⟩
    rw [hr] at hgr hrb
    obtain ⟨A0, hA0⟩ : ∃ a, max 0 (r.top.lo - by' % 3) = a := ⟨_, rfl⟩
    obtain ⟨A1, hA1⟩ : ∃ a, min 99 (r.top.hi + by' / 3 % 3) = a := ⟨_, rfl⟩
    have hAb : 0 ≤ A0 ∧ A0 ≤ r.top.lo ∧ r.top.hi ≤ A1 ∧ A1 ≤ 99 := by omega
    obtain ⟨X, hX⟩ : ∃ X, (⟨t.last, t.heights, t.step, t.levels, t.marks.set j ⟨r.frm, r.til, ⟨A0, A1⟩⟩⟩ : Tb) = X := ⟨_, rfl⟩
    have hset : (t.marks.map EncE.cs).set j [.int .i64 r.frm, .int .i64 r.til, .int .i64 A0, .int .i64 A1] = (t.marks.set j ⟨r.frm, r.til, ⟨A0, A1⟩⟩).map EncE.cs := by rw [List.map_set]; rfl
    have hgs := getD_setW (l := t.marks.map EncE.cs) (c := j) (by rw [List.length_map]; exact hk)
    have htk : List.take t.heights.length (t.heights.map EncE.cs) = t.heights.map EncE.cs := List.take_of_length_le (by rw [List.length_map]; exact Nat.le_refl _)
    have htkM : List.take t.marks.length ((t.marks.set j ⟨r.frm, r.til, ⟨A0, A1⟩⟩).map EncE.cs) = (t.marks.set j ⟨r.frm, r.til, ⟨A0, A1⟩⟩).map EncE.cs := List.take_of_length_le (by rw [List.length_map, List.length_set]; exact Nat.le_refl _)
    cases d0 : (thinB X && decide (faultT X = 0))
    · simp only [enc_fnl, enc_fnb, enc_fnc, enc_refc, enc_arr, enc_int, enc_bool, enc_list, enc_rg, enc_mk, enc_tb]
      refine callP_of_vc (Φ := P5231) Try.func3 rfl (by rfl) (by rw [Try.ntmps3]; simp) mixed P5231_ok (by simp [AV.strip, AV.strip1, Tk.strip]) ?_
      rw [Try.ntmps3]
      simp only [Try.f3, startSt, tmFrom]
      iterate 2 (
        refine vc_seqK fun Q1 h1 => ?_
        simp (maxSteps := 4000000) only [go_sem, AV.one, drawV, intsOf, keyIdx, over, putO, memAt, List.map_cons, List.length_cons, ↓reduceIte, snap_trues, imm_trues, enc_pair, enc_iterv, zdrop, one_i, one_b, one_sl, one_ptr, one_ref, one_nilp, one_mp, one_fn, one_nilf, c0]
        all_goals (repeat' (first | with_reducible rfl | with_reducible apply And.intro | ((with_reducible show drawOK _ _ = true); rfl))) <;> (try first | omega | (simp only [InR]; omega) | with_reducible assumption)
        rw [h1]; clear h1 Q1; simp only [thenA, vc_assoc])
      iterate 2 (
        refine vc_seqK fun Q1 h1 => ?_
        simp (maxSteps := 4000000) only [go_sem, AV.one, drawV, intsOf, keyIdx, over, putO, memAt, List.map_cons, List.length_cons, ↓reduceIte, snap_trues, imm_trues, enc_pair, enc_iterv, zdrop, one_i, one_b, one_sl, one_ptr, one_ref, one_nilp, one_mp, one_fn, one_nilf]
        all_goals (repeat' (first | with_reducible rfl | with_reducible apply And.intro | ((with_reducible show drawOK _ _ = true); rfl))) <;> (try first | omega | (simp only [InR]; omega) | with_reducible assumption)
        rw [h1]; clear h1 Q1; simp only [thenA, vc_assoc])
      refine vc_seqK fun Q1 h1 => ?_
      simp (maxSteps := 4000000) only [go_sem, drawV, intsOf, keyIdx, over, putO, memAt, List.map_cons, List.length_cons, ↓reduceIte, snap_trues, imm_trues, enc_pair, enc_iterv, zdrop, one_i, one_b, one_sl, one_ptr, one_ref, one_nilp, one_mp, one_fn, one_nilf, honeH, hlnH, honeM, hlnM]
      all_goals (repeat' (first | with_reducible rfl | with_reducible apply And.intro | ((with_reducible show drawOK _ _ = true); rfl))) <;> (try first | omega | (simp only [InR]; omega) | with_reducible assumption)
      refine ⟨68, by rfl, ?_⟩
      simp (maxSteps := 4000000) only [go_sem, drawV, intsOf, keyIdx, over, putO, memAt, List.map_cons, List.length_cons, ↓reduceIte, snap_trues, imm_trues, enc_pair, enc_iterv, zdrop, one_i, one_b, one_sl, one_ptr, one_ref, one_nilp, one_mp, one_fn, one_nilf, (show Nat.testBit 68 399 = false from rfl), Bool.false_and, Bool.true_and, Bool.false_eq_true, (show Nat.testBit 68 200 = false from rfl), (show ∀ m, hideM false m = m from fun _ => rfl), memAt_hide, hideM_length, hideO, drawF, vcFr, Go.Fs.freeR, effL, apart, objOf, List.all_cons, List.all_nil, List.contains_cons, List.contains_nil, Nat.reduceBEq, Bool.or_self, (show Nat.testBit 68 0 = false from rfl), (show Nat.testBit 68 1 = false from rfl), (show Nat.testBit 68 2 = true from rfl), (show Nat.testBit 68 3 = false from rfl), (show Nat.testBit 68 4 = false from rfl), (show Nat.testBit 68 5 = false from rfl), (show Nat.testBit 68 6 = true from rfl), (show Nat.testBit 68 7 = false from rfl), (show Nat.testBit 68 8 = false from rfl), (show Nat.testBit 68 9 = false from rfl), (show Nat.testBit 68 10 = false from rfl), (show Nat.testBit 68 11 = false from rfl), honeH, hlnH, honeM, hlnM]
      all_goals (repeat' (first | with_reducible rfl | with_reducible apply And.intro | ((with_reducible show drawOK _ _ = true); rfl))) <;> (try first | omega | (simp only [InR]; omega) | with_reducible assumption)
      rw [h1]; clear h1 Q1; simp only [thenA, vc_assoc]
      refine vc_seqK fun Q1 h1 => ?_
      simp (maxSteps := 4000000) only [go_sem, AV.one, drawV, intsOf, keyIdx, over, putO, memAt, List.map_cons, List.length_cons, ↓reduceIte, snap_trues, imm_trues, enc_pair, enc_iterv, zdrop, one_i, one_b, one_sl, one_ptr, one_ref, one_nilp, one_mp, one_fn, one_nilf, ek]
      all_goals (repeat' (first | with_reducible rfl | with_reducible apply And.intro | ((with_reducible show drawOK _ _ = true); rfl))) <;> (try first | omega | (simp only [InR]; omega) | with_reducible assumption)
      rw [h1]; clear h1 Q1; simp only [thenA, vc_assoc]
      refine vc_seqK fun Q1 h1 => ?_
      simp (maxSteps := 4000000) only [go_sem, AV.one, drawV, intsOf, keyIdx, over, putO, memAt, List.map_cons, List.length_cons, ↓reduceIte, snap_trues, imm_trues, enc_pair, enc_iterv, zdrop, one_i, one_b, one_sl, one_ptr, one_ref, one_nilp, one_mp, one_fn, one_nilf]
      all_goals (repeat' (first | with_reducible rfl | with_reducible apply And.intro | ((with_reducible show drawOK _ _ = true); rfl))) <;> (try first | omega | (simp only [InR]; omega) | with_reducible assumption)
      rw [h1]; clear h1 Q1; simp only [thenA, vc_assoc]
      refine vc_seqK fun Q1 h1 => ?_
      simp (maxSteps := 4000000) only [go_sem, AV.one, drawV, intsOf, keyIdx, over, putO, memAt, List.map_cons, List.length_cons, ↓reduceIte, snap_trues, imm_trues, enc_pair, enc_iterv, zdrop, one_i, one_b, one_sl, one_ptr, one_ref, one_nilp, one_mp, one_fn, one_nilf, cH]
      all_goals (repeat' (first | with_reducible rfl | with_reducible apply And.intro | ((with_reducible show drawOK _ _ = true); rfl))) <;> (try first | omega | (simp only [InR]; omega) | with_reducible assumption)
      rw [h1]; clear h1 Q1; simp only [thenA, vc_assoc]
      refine vc_seqK fun Q1 h1 => ?_
      simp (maxSteps := 4000000) only [go_sem, AV.one, drawV, intsOf, keyIdx, over, putO, memAt, List.map_cons, List.length_cons, ↓reduceIte, snap_trues, imm_trues, enc_pair, enc_iterv, zdrop, one_i, one_b, one_sl, one_ptr, one_ref, one_nilp, one_mp, one_fn, one_nilf, hk, hj']
      all_goals (repeat' (first | with_reducible rfl | with_reducible apply And.intro | ((with_reducible show drawOK _ _ = true); rfl))) <;> (try first | omega | (simp only [InR]; omega) | with_reducible assumption)
      rw [h1]; clear h1 Q1; simp only [thenA, vc_assoc]
      refine vc_seqK fun Q1 h1 => ?_
      simp (maxSteps := 4000000) only [go_sem, AV.one, drawV, intsOf, keyIdx, over, putO, memAt, List.map_cons, List.length_cons, ↓reduceIte, snap_trues, imm_trues, enc_pair, enc_iterv, zdrop, one_i, one_b, one_sl, one_ptr, one_ref, one_nilp, one_mp, one_fn, one_nilf, hgr, hgs, hk, hA0, hA1, List.length_set, List.length_map, List.set_set, List.set_cons_zero, List.set_cons_succ]
      all_goals (repeat' (first | with_reducible rfl | with_reducible apply And.intro | ((with_reducible show drawOK _ _ = true); rfl))) <;> (try first | omega | (simp only [InR]; omega) | with_reducible assumption)
      rw [h1]; clear h1 Q1; simp only [thenA, vc_assoc]
      refine vc_seqK fun Q1 h1 => ?_
      simp (maxSteps := 4000000) only [go_sem, AV.one, drawV, intsOf, keyIdx, over, putO, memAt, List.map_cons, List.length_cons, ↓reduceIte, snap_trues, imm_trues, enc_pair, enc_iterv, zdrop, one_i, one_b, one_sl, one_ptr, one_ref, one_nilp, one_mp, one_fn, one_nilf, hset, htk, htkM, hX, d0]
      all_goals (repeat' (first | with_reducible rfl | with_reducible apply And.intro | ((with_reducible show drawOK _ _ = true); rfl))) <;> (try first | omega | (simp only [InR]; omega) | with_reducible assumption)
      rw [h1]; clear h1 Q1; simp only [thenA, vc_assoc]
      simp (maxSteps := 4000000) only [go_sem, AV.one, drawV, intsOf, keyIdx, over, putO, memAt, List.map_cons, List.length_cons, ↓reduceIte, snap_trues, imm_trues, enc_pair, enc_iterv, zdrop, one_i, one_b, one_sl, one_ptr, one_ref, one_nilp, one_mp, one_fn, one_nilf]
      all_goals (repeat' (first | with_reducible rfl | with_reducible apply And.intro | ((with_reducible show drawOK _ _ = true); rfl))) <;> (try first | omega | (simp only [InR]; omega) | with_reducible assumption)
    have d12 : thinB X = true ∧ faultT X = 0 := by simpa using d0
    have hfx : FOk X := fok_of d12.2
    have hXl : X.last = t.last := by rw [← hX]
    have wt : WideT t X := wideM (r := ⟨A0, A1⟩) hf hfx hk (by rw [hr]; exact hAb.2.1) (by rw [hr]; exact hAb.2.2.1) (by rw [hr]; exact hX)
    obtain ⟨m, e2, hM⟩ := leave_ok hfx.fault
    have hxm : X.marks.length = t.marks.length := by rw [← hX] ; exact List.length_set
    have hml : m.length ≤ l.length := least_len hM (by rw [hxm]; exact hL.inc) (wt.ps _ hL.poss)
    have hcm : (castL m).length = m.length := cast_len m
    have hd1 : decide ((l.length : Int) < (m.length : Int)) = false := by rw [decide_eq_false_iff_not]; omega
    have hxh : X.heights.length = t.heights.length := by rw [← hX]
    have hxv : X.levels.length = t.levels.length := by rw [← hX]
    by_cases z : l = []
    case neg =>
      have hz : decide ((0 : Int) < (l.length : Int)) = true := by
        cases l with
        | nil => exact absurd rfl z
        | cons _ _ => simp <;> omega
      simp only [enc_fnl, enc_fnb, enc_fnc, enc_refc, enc_arr, enc_int, enc_bool, enc_list, enc_rg, enc_mk, enc_tb]
      refine callP_of_vc (Φ := P5231) Try.func3 rfl (by rfl) (by rw [Try.ntmps3]; simp) mixed P5231_ok (by simp [AV.strip, AV.strip1, Tk.strip]) ?_
      rw [Try.ntmps3]
      simp only [Try.f3, startSt, tmFrom]
      iterate 2 (
        refine vc_seqK fun Q1 h1 => ?_
        simp (maxSteps := 4000000) only [go_sem, AV.one, drawV, intsOf, keyIdx, over, putO, memAt, List.map_cons, List.length_cons, ↓reduceIte, snap_trues, imm_trues, enc_pair, enc_iterv, zdrop, one_i, one_b, one_sl, one_ptr, one_ref, one_nilp, one_mp, one_fn, one_nilf, c0]
        all_goals (repeat' (first | with_reducible rfl | with_reducible apply And.intro | ((with_reducible show drawOK _ _ = true); rfl))) <;> (try first | omega | (simp only [InR]; omega) | with_reducible assumption)
        rw [h1]; clear h1 Q1; simp only [thenA, vc_assoc])
      iterate 2 (
        refine vc_seqK fun Q1 h1 => ?_
        simp (maxSteps := 4000000) only [go_sem, AV.one, drawV, intsOf, keyIdx, over, putO, memAt, List.map_cons, List.length_cons, ↓reduceIte, snap_trues, imm_trues, enc_pair, enc_iterv, zdrop, one_i, one_b, one_sl, one_ptr, one_ref, one_nilp, one_mp, one_fn, one_nilf]
        all_goals (repeat' (first | with_reducible rfl | with_reducible apply And.intro | ((with_reducible show drawOK _ _ = true); rfl))) <;> (try first | omega | (simp only [InR]; omega) | with_reducible assumption)
        rw [h1]; clear h1 Q1; simp only [thenA, vc_assoc])
      refine vc_seqK fun Q1 h1 => ?_
      simp (maxSteps := 4000000) only [go_sem, drawV, intsOf, keyIdx, over, putO, memAt, List.map_cons, List.length_cons, ↓reduceIte, snap_trues, imm_trues, enc_pair, enc_iterv, zdrop, one_i, one_b, one_sl, one_ptr, one_ref, one_nilp, one_mp, one_fn, one_nilf, honeH, hlnH, honeM, hlnM]
      all_goals (repeat' (first | with_reducible rfl | with_reducible apply And.intro | ((with_reducible show drawOK _ _ = true); rfl))) <;> (try first | omega | (simp only [InR]; omega) | with_reducible assumption)
      refine ⟨68, by rfl, ?_⟩
      simp (maxSteps := 4000000) only [go_sem, drawV, intsOf, keyIdx, over, putO, memAt, List.map_cons, List.length_cons, ↓reduceIte, snap_trues, imm_trues, enc_pair, enc_iterv, zdrop, one_i, one_b, one_sl, one_ptr, one_ref, one_nilp, one_mp, one_fn, one_nilf, (show Nat.testBit 68 399 = false from rfl), Bool.false_and, Bool.true_and, Bool.false_eq_true, (show Nat.testBit 68 200 = false from rfl), (show ∀ m, hideM false m = m from fun _ => rfl), memAt_hide, hideM_length, hideO, drawF, vcFr, Go.Fs.freeR, effL, apart, objOf, List.all_cons, List.all_nil, List.contains_cons, List.contains_nil, Nat.reduceBEq, Bool.or_self, (show Nat.testBit 68 0 = false from rfl), (show Nat.testBit 68 1 = false from rfl), (show Nat.testBit 68 2 = true from rfl), (show Nat.testBit 68 3 = false from rfl), (show Nat.testBit 68 4 = false from rfl), (show Nat.testBit 68 5 = false from rfl), (show Nat.testBit 68 6 = true from rfl), (show Nat.testBit 68 7 = false from rfl), (show Nat.testBit 68 8 = false from rfl), (show Nat.testBit 68 9 = false from rfl), (show Nat.testBit 68 10 = false from rfl), (show Nat.testBit 68 11 = false from rfl), honeH, hlnH, honeM, hlnM]
      all_goals (repeat' (first | with_reducible rfl | with_reducible apply And.intro | ((with_reducible show drawOK _ _ = true); rfl))) <;> (try first | omega | (simp only [InR]; omega) | with_reducible assumption)
      rw [h1]; clear h1 Q1; simp only [thenA, vc_assoc]
      refine vc_seqK fun Q1 h1 => ?_
      simp (maxSteps := 4000000) only [go_sem, AV.one, drawV, intsOf, keyIdx, over, putO, memAt, List.map_cons, List.length_cons, ↓reduceIte, snap_trues, imm_trues, enc_pair, enc_iterv, zdrop, one_i, one_b, one_sl, one_ptr, one_ref, one_nilp, one_mp, one_fn, one_nilf, ek]
      all_goals (repeat' (first | with_reducible rfl | with_reducible apply And.intro | ((with_reducible show drawOK _ _ = true); rfl))) <;> (try first | omega | (simp only [InR]; omega) | with_reducible assumption)
      rw [h1]; clear h1 Q1; simp only [thenA, vc_assoc]
      refine vc_seqK fun Q1 h1 => ?_
      simp (maxSteps := 4000000) only [go_sem, AV.one, drawV, intsOf, keyIdx, over, putO, memAt, List.map_cons, List.length_cons, ↓reduceIte, snap_trues, imm_trues, enc_pair, enc_iterv, zdrop, one_i, one_b, one_sl, one_ptr, one_ref, one_nilp, one_mp, one_fn, one_nilf]
      all_goals (repeat' (first | with_reducible rfl | with_reducible apply And.intro | ((with_reducible show drawOK _ _ = true); rfl))) <;> (try first | omega | (simp only [InR]; omega) | with_reducible assumption)
      rw [h1]; clear h1 Q1; simp only [thenA, vc_assoc]
      refine vc_seqK fun Q1 h1 => ?_
      simp (maxSteps := 4000000) only [go_sem, AV.one, drawV, intsOf, keyIdx, over, putO, memAt, List.map_cons, List.length_cons, ↓reduceIte, snap_trues, imm_trues, enc_pair, enc_iterv, zdrop, one_i, one_b, one_sl, one_ptr, one_ref, one_nilp, one_mp, one_fn, one_nilf, cH]
      all_goals (repeat' (first | with_reducible rfl | with_reducible apply And.intro | ((with_reducible show drawOK _ _ = true); rfl))) <;> (try first | omega | (simp only [InR]; omega) | with_reducible assumption)
      rw [h1]; clear h1 Q1; simp only [thenA, vc_assoc]
      refine vc_seqK fun Q1 h1 => ?_
      simp (maxSteps := 4000000) only [go_sem, AV.one, drawV, intsOf, keyIdx, over, putO, memAt, List.map_cons, List.length_cons, ↓reduceIte, snap_trues, imm_trues, enc_pair, enc_iterv, zdrop, one_i, one_b, one_sl, one_ptr, one_ref, one_nilp, one_mp, one_fn, one_nilf, hk, hj']
      all_goals (repeat' (first | with_reducible rfl | with_reducible apply And.intro | ((with_reducible show drawOK _ _ = true); rfl))) <;> (try first | omega | (simp only [InR]; omega) | with_reducible assumption)
      rw [h1]; clear h1 Q1; simp only [thenA, vc_assoc]
      refine vc_seqK fun Q1 h1 => ?_
      simp (maxSteps := 4000000) only [go_sem, AV.one, drawV, intsOf, keyIdx, over, putO, memAt, List.map_cons, List.length_cons, ↓reduceIte, snap_trues, imm_trues, enc_pair, enc_iterv, zdrop, one_i, one_b, one_sl, one_ptr, one_ref, one_nilp, one_mp, one_fn, one_nilf, hgr, hgs, hk, hA0, hA1, List.length_set, List.length_map, List.set_set, List.set_cons_zero, List.set_cons_succ]
      all_goals (repeat' (first | with_reducible rfl | with_reducible apply And.intro | ((with_reducible show drawOK _ _ = true); rfl))) <;> (try first | omega | (simp only [InR]; omega) | with_reducible assumption)
      rw [h1]; clear h1 Q1; simp only [thenA, vc_assoc]
      iterate 2 (
        refine vc_seqK fun Q1 h1 => ?_
        simp (maxSteps := 4000000) only [go_sem, AV.one, drawV, intsOf, keyIdx, over, putO, memAt, List.map_cons, List.length_cons, ↓reduceIte, snap_trues, imm_trues, enc_pair, enc_iterv, zdrop, one_i, one_b, one_sl, one_ptr, one_ref, one_nilp, one_mp, one_fn, one_nilf, hset, htk, htkM, hX, d0]
        all_goals (repeat' (first | with_reducible rfl | with_reducible apply And.intro | ((with_reducible show drawOK _ _ = true); rfl))) <;> (try first | omega | (simp only [InR]; omega) | with_reducible assumption)
        rw [h1]; clear h1 Q1; simp only [thenA, vc_assoc])
      refine vc_seqK fun Q1 h1 => ?_
      simp (maxSteps := 4000000) only [go_sem, AV.one, drawV, intsOf, keyIdx, over, putO, memAt, List.map_cons, List.length_cons, ↓reduceIte, snap_trues, imm_trues, enc_pair, enc_iterv, zdrop, one_i, one_b, one_sl, one_ptr, one_ref, one_nilp, one_mp, one_fn, one_nilf, e1]
      all_goals (repeat' (first | with_reducible rfl | with_reducible apply And.intro | ((with_reducible show drawOK _ _ = true); rfl))) <;> (try first | omega | (simp only [InR]; omega) | with_reducible assumption)
      rw [h1]; clear h1 Q1; simp only [thenA, vc_assoc]
      refine vc_seqK fun Q1 h1 => ?_
      simp (maxSteps := 4000000) only [go_sem, AV.one, drawV, intsOf, keyIdx, over, putO, memAt, List.map_cons, List.length_cons, ↓reduceIte, snap_trues, imm_trues, enc_pair, enc_iterv, zdrop, one_i, one_b, one_sl, one_ptr, one_ref, one_nilp, one_mp, one_fn, one_nilf, hset, htk, htkM, hX, e2]
      all_goals (repeat' (first | with_reducible rfl | with_reducible apply And.intro | ((with_reducible show drawOK _ _ = true); rfl))) <;> (try first | omega | (simp only [InR]; omega) | with_reducible assumption)
      rw [h1]; clear h1 Q1; simp only [thenA, vc_assoc]
      iterate 2 (
        refine vc_seqK fun Q1 h1 => ?_
        simp (maxSteps := 4000000) only [go_sem, AV.one, drawV, intsOf, keyIdx, over, putO, memAt, List.map_cons, List.length_cons, ↓reduceIte, snap_trues, imm_trues, enc_pair, enc_iterv, zdrop, one_i, one_b, one_sl, one_ptr, one_ref, one_nilp, one_mp, one_fn, one_nilf, hcl, hcm, hd1, gt_iff_lt]
        all_goals (repeat' (first | with_reducible rfl | with_reducible apply And.intro | ((with_reducible show drawOK _ _ = true); rfl))) <;> (try first | omega | (simp only [InR]; omega) | with_reducible assumption)
        rw [h1]; clear h1 Q1; simp only [thenA, vc_assoc])
      simp (maxSteps := 4000000) only [go_sem, AV.one, drawV, intsOf, keyIdx, over, putO, memAt, List.map_cons, List.length_cons, ↓reduceIte, snap_trues, imm_trues, enc_pair, enc_iterv, zdrop, one_i, one_b, one_sl, one_ptr, one_ref, one_nilp, one_mp, one_fn, one_nilf, hcl, hz, gt_iff_lt]
      all_goals (repeat' (first | with_reducible rfl | with_reducible apply And.intro | ((with_reducible show drawOK _ _ = true); rfl))) <;> (try first | omega | (simp only [InR]; omega) | with_reducible assumption)
    have hz : decide ((0 : Int) < (l.length : Int)) = false := by rw [z]; rfl
    have q := (least_nil c2 hL).1 z
    obtain ⟨q', hin⟩ := bnd_inside c2 hfx.fault hXl.symm q wt.tr
    have e3 := bnd_ok c2 q
    have e4 := bnd_ok hfx.fault q'
    have e5 := dry_ok c2 q (show (0 : Int) ≤ 0 by omega) hl0 (Int.le_refl _)
    have e6 := dry_ok hfx.fault q' (show (0 : Int) ≤ 0 by omega) hl0 (show t.last ≤ X.last by omega)
    have hdd := wide_dry c2 hfx.fault wt q q' hXl (a := 0) (b := t.last) (by omega) hl0 (Int.le_refl _)
    obtain ⟨A, hA⟩ : ∃ A, ((List.range (t.last + 1).toNat).map fun i : Nat => boundsL (truthsL t) i) = A := ⟨_, rfl⟩
    obtain ⟨B, hB⟩ : ∃ B, ((List.range (X.last + 1).toNat).map fun i : Nat => boundsL (truthsL X) i) = B := ⟨_, rfl⟩
    rw [e3, e4, hA, hB] at hin
    rw [hA] at e3
    rw [hB] at e4
    simp only at hin
    have hAl : A.length ≤ 10 := by rw [← hA]; simp; omega
    have hBl : B.length ≤ 10 := by rw [← hB]; simp; omega
    obtain ⟨D1, hD1⟩ : ∃ d, dryL (truthsL t) 0 t.last = d := ⟨_, rfl⟩
    obtain ⟨D2, hD2⟩ : ∃ d, dryL (truthsL X) 0 t.last = d := ⟨_, rfl⟩
    rw [hD1] at e5 hdd
    rw [hD2] at e6 hdd
    have hdd' : decide (D1 ≤ D2) = true := decide_eq_true hdd
    simp only [enc_fnl, enc_fnb, enc_fnc, enc_refc, enc_arr, enc_int, enc_bool, enc_list, enc_rg, enc_mk, enc_tb]
    refine callP_of_vc (Φ := P5231) Try.func3 rfl (by rfl) (by rw [Try.ntmps3]; simp) mixed P5231_ok (by simp [AV.strip, AV.strip1, Tk.strip]) ?_
    rw [Try.ntmps3]
    simp only [Try.f3, startSt, tmFrom]
    iterate 2 (
      refine vc_seqK fun Q1 h1 => ?_
      simp (maxSteps := 4000000) only [go_sem, AV.one, drawV, intsOf, keyIdx, over, putO, memAt, List.map_cons, List.length_cons, ↓reduceIte, snap_trues, imm_trues, enc_pair, enc_iterv, zdrop, one_i, one_b, one_sl, one_ptr, one_ref, one_nilp, one_mp, one_fn, one_nilf, c0]
      all_goals (repeat' (first | with_reducible rfl | with_reducible apply And.intro | ((with_reducible show drawOK _ _ = true); rfl))) <;> (try first | omega | (simp only [InR]; omega) | with_reducible assumption)
      rw [h1]; clear h1 Q1; simp only [thenA, vc_assoc])
    iterate 2 (
      refine vc_seqK fun Q1 h1 => ?_
      simp (maxSteps := 4000000) only [go_sem, AV.one, drawV, intsOf, keyIdx, over, putO, memAt, List.map_cons, List.length_cons, ↓reduceIte, snap_trues, imm_trues, enc_pair, enc_iterv, zdrop, one_i, one_b, one_sl, one_ptr, one_ref, one_nilp, one_mp, one_fn, one_nilf]
      all_goals (repeat' (first | with_reducible rfl | with_reducible apply And.intro | ((with_reducible show drawOK _ _ = true); rfl))) <;> (try first | omega | (simp only [InR]; omega) | with_reducible assumption)
      rw [h1]; clear h1 Q1; simp only [thenA, vc_assoc])
    refine vc_seqK fun Q1 h1 => ?_
    simp (maxSteps := 4000000) only [go_sem, drawV, intsOf, keyIdx, over, putO, memAt, List.map_cons, List.length_cons, ↓reduceIte, snap_trues, imm_trues, enc_pair, enc_iterv, zdrop, one_i, one_b, one_sl, one_ptr, one_ref, one_nilp, one_mp, one_fn, one_nilf, honeH, hlnH, honeM, hlnM]
    all_goals (repeat' (first | with_reducible rfl | with_reducible apply And.intro | ((with_reducible show drawOK _ _ = true); rfl))) <;> (try first | omega | (simp only [InR]; omega) | with_reducible assumption)
    refine ⟨68, by rfl, ?_⟩
    simp (maxSteps := 4000000) only [go_sem, drawV, intsOf, keyIdx, over, putO, memAt, List.map_cons, List.length_cons, ↓reduceIte, snap_trues, imm_trues, enc_pair, enc_iterv, zdrop, one_i, one_b, one_sl, one_ptr, one_ref, one_nilp, one_mp, one_fn, one_nilf, (show Nat.testBit 68 399 = false from rfl), Bool.false_and, Bool.true_and, Bool.false_eq_true, (show Nat.testBit 68 200 = false from rfl), (show ∀ m, hideM false m = m from fun _ => rfl), memAt_hide, hideM_length, hideO, drawF, vcFr, Go.Fs.freeR, effL, apart, objOf, List.all_cons, List.all_nil, List.contains_cons, List.contains_nil, Nat.reduceBEq, Bool.or_self, (show Nat.testBit 68 0 = false from rfl), (show Nat.testBit 68 1 = false from rfl), (show Nat.testBit 68 2 = true from rfl), (show Nat.testBit 68 3 = false from rfl), (show Nat.testBit 68 4 = false from rfl), (show Nat.testBit 68 5 = false from rfl), (show Nat.testBit 68 6 = true from rfl), (show Nat.testBit 68 7 = false from rfl), (show Nat.testBit 68 8 = false from rfl), (show Nat.testBit 68 9 = false from rfl), (show Nat.testBit 68 10 = false from rfl), (show Nat.testBit 68 11 = false from rfl), honeH, hlnH, honeM, hlnM]
    all_goals (repeat' (first | with_reducible rfl | with_reducible apply And.intro | ((with_reducible show drawOK _ _ = true); rfl))) <;> (try first | omega | (simp only [InR]; omega) | with_reducible assumption)
    rw [h1]; clear h1 Q1; simp only [thenA, vc_assoc]
    refine vc_seqK fun Q1 h1 => ?_
    simp (maxSteps := 4000000) only [go_sem, AV.one, drawV, intsOf, keyIdx, over, putO, memAt, List.map_cons, List.length_cons, ↓reduceIte, snap_trues, imm_trues, enc_pair, enc_iterv, zdrop, one_i, one_b, one_sl, one_ptr, one_ref, one_nilp, one_mp, one_fn, one_nilf, ek]
    all_goals (repeat' (first | with_reducible rfl | with_reducible apply And.intro | ((with_reducible show drawOK _ _ = true); rfl))) <;> (try first | omega | (simp only [InR]; omega) | with_reducible assumption)
    rw [h1]; clear h1 Q1; simp only [thenA, vc_assoc]
    refine vc_seqK fun Q1 h1 => ?_
    simp (maxSteps := 4000000) only [go_sem, AV.one, drawV, intsOf, keyIdx, over, putO, memAt, List.map_cons, List.length_cons, ↓reduceIte, snap_trues, imm_trues, enc_pair, enc_iterv, zdrop, one_i, one_b, one_sl, one_ptr, one_ref, one_nilp, one_mp, one_fn, one_nilf]
    all_goals (repeat' (first | with_reducible rfl | with_reducible apply And.intro | ((with_reducible show drawOK _ _ = true); rfl))) <;> (try first | omega | (simp only [InR]; omega) | with_reducible assumption)
    rw [h1]; clear h1 Q1; simp only [thenA, vc_assoc]
    refine vc_seqK fun Q1 h1 => ?_
    simp (maxSteps := 4000000) only [go_sem, AV.one, drawV, intsOf, keyIdx, over, putO, memAt, List.map_cons, List.length_cons, ↓reduceIte, snap_trues, imm_trues, enc_pair, enc_iterv, zdrop, one_i, one_b, one_sl, one_ptr, one_ref, one_nilp, one_mp, one_fn, one_nilf, cH]
    all_goals (repeat' (first | with_reducible rfl | with_reducible apply And.intro | ((with_reducible show drawOK _ _ = true); rfl))) <;> (try first | omega | (simp only [InR]; omega) | with_reducible assumption)
    rw [h1]; clear h1 Q1; simp only [thenA, vc_assoc]
    refine vc_seqK fun Q1 h1 => ?_
    simp (maxSteps := 4000000) only [go_sem, AV.one, drawV, intsOf, keyIdx, over, putO, memAt, List.map_cons, List.length_cons, ↓reduceIte, snap_trues, imm_trues, enc_pair, enc_iterv, zdrop, one_i, one_b, one_sl, one_ptr, one_ref, one_nilp, one_mp, one_fn, one_nilf, hk, hj']
    all_goals (repeat' (first | with_reducible rfl | with_reducible apply And.intro | ((with_reducible show drawOK _ _ = true); rfl))) <;> (try first | omega | (simp only [InR]; omega) | with_reducible assumption)
    rw [h1]; clear h1 Q1; simp only [thenA, vc_assoc]
    refine vc_seqK fun Q1 h1 => ?_
    simp (maxSteps := 4000000) only [go_sem, AV.one, drawV, intsOf, keyIdx, over, putO, memAt, List.map_cons, List.length_cons, ↓reduceIte, snap_trues, imm_trues, enc_pair, enc_iterv, zdrop, one_i, one_b, one_sl, one_ptr, one_ref, one_nilp, one_mp, one_fn, one_nilf, hgr, hgs, hk, hA0, hA1, List.length_set, List.length_map, List.set_set, List.set_cons_zero, List.set_cons_succ]
    all_goals (repeat' (first | with_reducible rfl | with_reducible apply And.intro | ((with_reducible show drawOK _ _ = true); rfl))) <;> (try first | omega | (simp only [InR]; omega) | with_reducible assumption)
    rw [h1]; clear h1 Q1; simp only [thenA, vc_assoc]
    iterate 2 (
      refine vc_seqK fun Q1 h1 => ?_
      simp (maxSteps := 4000000) only [go_sem, AV.one, drawV, intsOf, keyIdx, over, putO, memAt, List.map_cons, List.length_cons, ↓reduceIte, snap_trues, imm_trues, enc_pair, enc_iterv, zdrop, one_i, one_b, one_sl, one_ptr, one_ref, one_nilp, one_mp, one_fn, one_nilf, hset, htk, htkM, hX, d0]
      all_goals (repeat' (first | with_reducible rfl | with_reducible apply And.intro | ((with_reducible show drawOK _ _ = true); rfl))) <;> (try first | omega | (simp only [InR]; omega) | with_reducible assumption)
      rw [h1]; clear h1 Q1; simp only [thenA, vc_assoc])
    refine vc_seqK fun Q1 h1 => ?_
    simp (maxSteps := 4000000) only [go_sem, AV.one, drawV, intsOf, keyIdx, over, putO, memAt, List.map_cons, List.length_cons, ↓reduceIte, snap_trues, imm_trues, enc_pair, enc_iterv, zdrop, one_i, one_b, one_sl, one_ptr, one_ref, one_nilp, one_mp, one_fn, one_nilf, e1]
    all_goals (repeat' (first | with_reducible rfl | with_reducible apply And.intro | ((with_reducible show drawOK _ _ = true); rfl))) <;> (try first | omega | (simp only [InR]; omega) | with_reducible assumption)
    rw [h1]; clear h1 Q1; simp only [thenA, vc_assoc]
    refine vc_seqK fun Q1 h1 => ?_
    simp (maxSteps := 4000000) only [go_sem, AV.one, drawV, intsOf, keyIdx, over, putO, memAt, List.map_cons, List.length_cons, ↓reduceIte, snap_trues, imm_trues, enc_pair, enc_iterv, zdrop, one_i, one_b, one_sl, one_ptr, one_ref, one_nilp, one_mp, one_fn, one_nilf, hset, htk, htkM, hX, e2]
    all_goals (repeat' (first | with_reducible rfl | with_reducible apply And.intro | ((with_reducible show drawOK _ _ = true); rfl))) <;> (try first | omega | (simp only [InR]; omega) | with_reducible assumption)
    rw [h1]; clear h1 Q1; simp only [thenA, vc_assoc]
    iterate 2 (
      refine vc_seqK fun Q1 h1 => ?_
      simp (maxSteps := 4000000) only [go_sem, AV.one, drawV, intsOf, keyIdx, over, putO, memAt, List.map_cons, List.length_cons, ↓reduceIte, snap_trues, imm_trues, enc_pair, enc_iterv, zdrop, one_i, one_b, one_sl, one_ptr, one_ref, one_nilp, one_mp, one_fn, one_nilf, hcl, hcm, hd1, gt_iff_lt]
      all_goals (repeat' (first | with_reducible rfl | with_reducible apply And.intro | ((with_reducible show drawOK _ _ = true); rfl))) <;> (try first | omega | (simp only [InR]; omega) | with_reducible assumption)
      rw [h1]; clear h1 Q1; simp only [thenA, vc_assoc])
    iterate 2 (
      refine vc_seqK fun Q1 h1 => ?_
      simp (maxSteps := 4000000) only [go_sem, AV.one, drawV, intsOf, keyIdx, over, putO, memAt, List.map_cons, List.length_cons, ↓reduceIte, snap_trues, imm_trues, enc_pair, enc_iterv, zdrop, one_i, one_b, one_sl, one_ptr, one_ref, one_nilp, one_mp, one_fn, one_nilf, hcl, hz, gt_iff_lt]
      all_goals (repeat' (first | with_reducible rfl | with_reducible apply And.intro | ((with_reducible show drawOK _ _ = true); rfl))) <;> (try first | omega | (simp only [InR]; omega) | with_reducible assumption)
      rw [h1]; clear h1 Q1; simp only [thenA, vc_assoc])
    refine vc_seqK fun Q1 h1 => ?_
    simp (maxSteps := 4000000) only [go_sem, AV.one, drawV, intsOf, keyIdx, over, putO, memAt, List.map_cons, List.length_cons, ↓reduceIte, snap_trues, imm_trues, enc_pair, enc_iterv, zdrop, one_i, one_b, one_sl, one_ptr, one_ref, one_nilp, one_mp, one_fn, one_nilf, e3]
    all_goals (repeat' (first | with_reducible rfl | with_reducible apply And.intro | ((with_reducible show drawOK _ _ = true); rfl))) <;> (try first | omega | (simp only [InR]; omega) | with_reducible assumption)
    rw [h1]; clear h1 Q1; simp only [thenA, vc_assoc]
    refine vc_seqK fun Q1 h1 => ?_
    simp (maxSteps := 4000000) only [go_sem, AV.one, drawV, intsOf, keyIdx, over, putO, memAt, List.map_cons, List.length_cons, ↓reduceIte, snap_trues, imm_trues, enc_pair, enc_iterv, zdrop, one_i, one_b, one_sl, one_ptr, one_ref, one_nilp, one_mp, one_fn, one_nilf, hset, htk, htkM, hX, e4]
    all_goals (repeat' (first | with_reducible rfl | with_reducible apply And.intro | ((with_reducible show drawOK _ _ = true); rfl))) <;> (try first | omega | (simp only [InR]; omega) | with_reducible assumption)
    rw [h1]; clear h1 Q1; simp only [thenA, vc_assoc]
    refine vc_seqK fun Q1 h1 => ?_
    simp (maxSteps := 4000000) only [go_sem, AV.one, drawV, intsOf, keyIdx, over, putO, memAt, List.map_cons, List.length_cons, ↓reduceIte, snap_trues, imm_trues, enc_pair, enc_iterv, zdrop, one_i, one_b, one_sl, one_ptr, one_ref, one_nilp, one_mp, one_fn, one_nilf, e5]
    all_goals (repeat' (first | with_reducible rfl | with_reducible apply And.intro | ((with_reducible show drawOK _ _ = true); rfl))) <;> (try first | omega | (simp only [InR]; omega) | with_reducible assumption)
    rw [h1]; clear h1 Q1; simp only [thenA, vc_assoc]
    refine vc_seqK fun Q1 h1 => ?_
    simp (maxSteps := 4000000) only [go_sem, AV.one, drawV, intsOf, keyIdx, over, putO, memAt, List.map_cons, List.length_cons, ↓reduceIte, snap_trues, imm_trues, enc_pair, enc_iterv, zdrop, one_i, one_b, one_sl, one_ptr, one_ref, one_nilp, one_mp, one_fn, one_nilf, hset, htk, htkM, hX, e6]
    all_goals (repeat' (first | with_reducible rfl | with_reducible apply And.intro | ((with_reducible show drawOK _ _ = true); rfl))) <;> (try first | omega | (simp only [InR]; omega) | with_reducible assumption)
    rw [h1]; clear h1 Q1; simp only [thenA, vc_assoc]
    simp (maxSteps := 4000000) only [go_sem, AV.one, drawV, intsOf, keyIdx, over, putO, memAt, List.map_cons, List.length_cons, ↓reduceIte, snap_trues, imm_trues, enc_pair, enc_iterv, zdrop, one_i, one_b, one_sl, one_ptr, one_ref, one_nilp, one_mp, one_fn, one_nilf, hin, hdd', ge_iff_le, decide_true, decide_false]
    all_goals (repeat' (first | with_reducible rfl | with_reducible apply And.intro | ((with_reducible show drawOK _ _ = true); rfl))) <;> (try first | omega | (simp only [InR]; omega) | with_reducible assumption)
end Go.Proofs
