/- Ranges in other ones. -/
import Derived.Test.YthdikbechlgkdaaCS26
set_option linter.all false
namespace Go.Proofs
open Go.Fs
set_option linter.unusedSimpArgs false
set_option linter.unusedVariables false
set_option maxHeartbeats 4000000
set_option maxRecDepth 8000
theorem inside_call (a b : List Rg) (h : a.length ≤ 4096 ∧ b.length ≤ 4096) : CallP Try.prog 13 [Enc.enc a, Enc.enc b] (· = Enc.enc (insideB a b)) := by
  have h1 := h.1
  have h2 := h.2
  by_cases c : a.length = b.length
  case neg =>
    have c' : decide ((a.length : Int) = b.length) = false := by simp; omega
    have e : insideB a b = false := by unfold insideB; simp [c]
    rw [e]
    simp only [enc_fnl, enc_fnb, enc_fnc, enc_refc, enc_arr, enc_int, enc_bool, enc_list, enc_rg, enc_mk, enc_tb]
    refine callP_of_vc (Φ := P51) Try.func13 rfl (by rfl) (by rw [Try.ntmps13]; simp) mixed P51_ok (by simp [AV.strip, AV.strip1, Tk.strip]) ?_
    rw [Try.ntmps13]
    simp only [Try.f13, startSt, tmFrom]
    simp (maxSteps := 4000000) only [go_sem, AV.one, drawV, intsOf, keyIdx, over, putO, memAt, List.map_cons, List.length_cons, ↓reduceIte, snap_trues, imm_trues, enc_pair, enc_iterv, zdrop, one_i, one_b, one_sl, one_ptr, one_ref, one_nilp, one_mp, one_fn, one_nilf, c']
  have c' : decide ((a.length : Int) = b.length) = true := by simp; omega
  simp only [enc_fnl, enc_fnb, enc_fnc, enc_refc, enc_arr, enc_int, enc_bool, enc_list, enc_rg, enc_mk, enc_tb]
  refine callP_of_vc (Φ := P51) Try.func13 rfl (by rfl) (by rw [Try.ntmps13]; simp) mixed P51_ok (by simp [AV.strip, AV.strip1, Tk.strip]) ?_
  rw [Try.ntmps13]
  simp only [Try.f13, startSt, tmFrom]
  simp (maxSteps := 4000000) only [go_sem, AV.one, drawV, intsOf, keyIdx, over, putO, memAt, List.map_cons, List.length_cons, ↓reduceIte, snap_trues, imm_trues, enc_pair, enc_iterv, zdrop, one_i, one_b, one_sl, one_ptr, one_ref, one_nilp, one_mp, one_fn, one_nilf, c']
  refine loopN (a.length) [] [0, 1, 4] (fun i => [(5, .int .i64 i)]) (fun _ m => m) (fun i => ∀ k, k < i → (at_ b k).lo ≤ (at_ a k).lo ∧ (at_ a k).hi ≤ (at_ b k).hi) ?_ ?_ ?_ ?_
  · intro k hk; omega
  · simp [AV.bare, bel_ints, cs_arr, dep_arr, cs_int, cs_bool, cs_list, cs_rg, cs_mk, AtHead, Same, AllO, Begins, LtAll, headSt, tokz_nil, tokz_cons, tokz1, lk, dep_int, dep_bool, dep_list, dep_rg, dep_mk, memAt, bel_map, bel_mapF, bel_mapO, bel_undef, bel_int, bel_boolv, bel_nilp, bel_nilf, bel_ptr, bel_arr, bel_mp, bel_yld, bel_agg, bel_tup, bel_ref, bel_only, bel_mpr, bel_fn, bel_sl_nil, bel_sl_nilF, bel_sl_nilO, bel_sl_cons, bel_sl_app, belO_cells, belO_tok, belO_dead, belO_deferred, belO_map, belO_iter, belO_loop, bel_vec, bel_vp, belO_vecM, belO_vec]
  · intro i hi hI
    have hi' := Int.ofNat_lt.2 hi
    have hib : i < b.length := by omega
    have ga := getD_mapA (f := EncE.cs) hi
    have gb := getD_mapA (f := EncE.cs) hib
    cases c1 : decide ((at_ a i).lo < (at_ b i).lo)
    · cases c2 : decide ((at_ b i).hi < (at_ a i).hi)
      · simp (maxSteps := 4000000) only [go_sem, AV.one, drawV, intsOf, keyIdx, over, putO, memAt, List.map_cons, List.length_cons, ↓reduceIte, snap_trues, imm_trues, enc_pair, enc_iterv, zdrop, one_i, one_b, one_sl, one_ptr, one_ref, one_nilp, one_mp, one_fn, one_nilf, ga, gb, hi', c1, c2]
        all_goals (repeat' (first | with_reducible rfl | with_reducible apply And.intro | ((with_reducible show drawOK _ _ = true); rfl))) <;> (try first | omega | (simp only [InR]; omega) | with_reducible assumption)
        refine nxt hi (fun k hk => ?_) ?_
        · simp at c1 c2
          by_cases q : k = i
          · subst q; exact ⟨c1, c2⟩
          · exact hI k (by omega)
        · simp [AV.bare, bel_ints, cs_arr, dep_arr, cs_int, cs_bool, cs_list, cs_rg, cs_mk, AtHead, Same, AllO, Begins, LtAll, headSt, tokz_nil, tokz_cons, tokz1, lk, dep_int, dep_bool, dep_list, dep_rg, dep_mk, memAt, bel_map, bel_mapF, bel_mapO, bel_undef, bel_int, bel_boolv, bel_nilp, bel_nilf, bel_ptr, bel_arr, bel_mp, bel_yld, bel_agg, bel_tup, bel_ref, bel_only, bel_mpr, bel_fn, bel_sl_nil, bel_sl_nilF, bel_sl_nilO, bel_sl_cons, bel_sl_app, belO_cells, belO_tok, belO_dead, belO_deferred, belO_map, belO_iter, belO_loop, bel_vec, bel_vp, belO_vecM, belO_vec]
      · simp (maxSteps := 4000000) only [go_sem, AV.one, drawV, intsOf, keyIdx, over, putO, memAt, List.map_cons, List.length_cons, ↓reduceIte, snap_trues, imm_trues, enc_pair, enc_iterv, zdrop, one_i, one_b, one_sl, one_ptr, one_ref, one_nilp, one_mp, one_fn, one_nilf, ga, gb, hi', c1, c2]
        all_goals (repeat' (first | with_reducible rfl | with_reducible apply And.intro | ((with_reducible show drawOK _ _ = true); rfl))) <;> (try first | omega | (simp only [InR]; omega) | with_reducible assumption)
        have e : insideB a b = false := by
          cases q : insideB a b
          · rfl
          · have := ((inside_iff a b).1 q).2 i hi
            simp at c2; omega
        rw [e]
    · simp (maxSteps := 4000000) only [go_sem, AV.one, drawV, intsOf, keyIdx, over, putO, memAt, List.map_cons, List.length_cons, ↓reduceIte, snap_trues, imm_trues, enc_pair, enc_iterv, zdrop, one_i, one_b, one_sl, one_ptr, one_ref, one_nilp, one_mp, one_fn, one_nilf, ga, gb, hi', c1]
      all_goals (repeat' (first | with_reducible rfl | with_reducible apply And.intro | ((with_reducible show drawOK _ _ = true); rfl))) <;> (try first | omega | (simp only [InR]; omega) | with_reducible assumption)
      have e : insideB a b = false := by
        cases q : insideB a b
        · rfl
        · have := ((inside_iff a b).1 q).2 i hi
          simp at c1; omega
      rw [e]
  · intro hI
    have e : insideB a b = true := (inside_iff a b).2 ⟨c, hI⟩
    rw [e]
    simp (maxSteps := 4000000) only [go_sem, AV.one, drawV, intsOf, keyIdx, over, putO, memAt, List.map_cons, List.length_cons, ↓reduceIte, snap_trues, imm_trues, enc_pair, enc_iterv, zdrop, one_i, one_b, one_sl, one_ptr, one_ref, one_nilp, one_mp, one_fn, one_nilf]
    all_goals (repeat' (first | with_reducible rfl | with_reducible apply And.intro | ((with_reducible show drawOK _ _ = true); rfl))) <;> (try first | omega | (simp only [InR]; omega) | with_reducible assumption)
def P52 : Specs := addSpec 13 (spec2 (fun a b : List Rg => a.length ≤ 4096 ∧ b.length ≤ 4096) insideB) (P51)
theorem P52_app (g : FuncId) : P52 g = (addSpec 13 (spec2 (fun a b : List Rg => a.length ≤ 4096 ∧ b.length ≤ 4096) insideB) (P51)) g := rfl
theorem P52_ok : SpecsOk Try.prog P52 := addSpec_ok (spec2_ok inside_call) (P51_ok)
attribute [go_sem] P52_app
theorem P52_flag (d : Option Nat) : flagOf P52 d = none := (flagOf_add (by decide) d).trans (P51_flag d)
attribute [go_sem] P52_flag
end Go.Proofs
