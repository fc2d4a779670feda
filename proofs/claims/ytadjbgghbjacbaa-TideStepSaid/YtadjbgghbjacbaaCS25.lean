/- A table with some of its marks. -/
import Derived.Test.YtadjbgghbjacbaaG13
set_option linter.all false
namespace Go.Proofs
open Go.Fs
set_option linter.unusedSimpArgs false
set_option linter.unusedVariables false
set_option maxHeartbeats 4000000
set_option maxRecDepth 8000

/-- The marks whose bit is set, of the first n. -/
def someN (t : Tb) (b n : Nat) : List Mk := ((List.range n).filter fun k => b.testBit k).map fun k => at_ t.marks k
def someT (t : Tb) (b : Nat) : Tb := { t with marks := someN t b t.marks.length }
theorem someN_succ (t : Tb) (b n : Nat) : someN t b (n + 1) = someN t b n ++ (if b.testBit n then [at_ t.marks n] else []) := by
  simp only [someN, List.range_succ, List.filter_append, List.map_append]
  cases c : b.testBit n <;> simp [List.filter, c]
theorem someN_len (t : Tb) (b n : Nat) : (someN t b n).length ≤ n := by
  have := List.length_filter_le (fun p => b.testBit p) (List.range n)
  simpa [someN] using this
theorem some_call (t : Tb) (b : Int) (h : BOk b ∧ t.marks.length ≤ 7) : CallP Try.prog 47 [Enc.enc t, Enc.enc b] (· = Enc.enc (someT t b.toNat)) := by
  have h0 := h.1.1
  have h1 := h.1.2
  have h7 := h.2
  obtain ⟨b, rfl⟩ := Int.eq_ofNat_of_zero_le h0
  have hdiv : ∀ p : Nat, ((b : Int) / 2 ^ p) = ((b / 2 ^ p : Nat) : Int) := fun p => by simp
  unfold someT
  simp only [enc_fnl, enc_fnb, enc_fnc, enc_refc, enc_arr, enc_int, enc_bool, enc_list, enc_rg, enc_mk, enc_tb]
  refine callP_of_vc (Φ := P50) Try.func47 rfl (by rfl) (by rw [Try.ntmps47]; simp) mixed P50_ok (by simp [AV.strip, Tk.strip]) ?_
  rw [Try.ntmps47]
  simp only [Try.f47, startSt, tmFrom]
  simp (maxSteps := 4000000) only [go_sem, drawV, intsOf, keyIdx, over, putO, memAt, List.map_cons, List.length_cons, ↓reduceIte, snap_trues, imm_trues, enc_pair, enc_iterv, zdrop, one_i, one_b, one_sl, one_ptr, one_ref, one_nilp, one_mp, one_fn, one_nilf]
  all_goals (repeat' (first | with_reducible rfl | with_reducible apply And.intro | ((with_reducible show drawOK _ = true); rfl))) <;> (try first | omega | (simp only [InR]; omega) | with_reducible assumption)
  refine loopN (t.marks.length) [.cell 2 4 4] [1, 2, 4, 5] (fun i => [(6, .int .i64 i)]) (fun i m => (m.set 2 (.cells [.int .i64 t.last, .sl (t.heights.map EncE.cs) .no, .int .i64 t.step, .sl (t.levels.map EncE.cs) .no, .sl ((someN t b i).map EncE.cs) (.own 3)])).set 3 (.tok (someN t b i).length 4)) (fun _ => True) ?_ ?_ ?_ ?_
  · trivial
  · simp [bel_ints, cs_arr, dep_arr, cs_int, cs_bool, cs_list, cs_rg, cs_mk, AtHead, Same, AllO, Begins, LtAll, headSt, tokz_nil, tokz_cons, tokz1, lk, dep_int, dep_bool, dep_list, dep_rg, dep_mk, memAt, bel_map, bel_mapF, bel_mapO, bel_undef, bel_int, bel_boolv, bel_nilp, bel_nilf, bel_ptr, bel_arr, bel_mp, bel_yld, bel_agg, bel_tup, bel_ref, bel_only, bel_mpr, bel_fn, bel_sl_nil, bel_sl_nilF, bel_sl_nilO, bel_sl_cons, bel_sl_app, belO_cells, belO_tok, belO_dead, belO_deferred, belO_map, belO_iter, belO_loop, someN]
  · intro i hi _
    have hi' := Int.ofNat_lt.2 hi
    have hg : (t.marks.map EncE.cs).getD i [] = EncE.cs (at_ t.marks i) := getD_mapA hi
    have hw := someN_len t b i
    have h5 := Nat.div_le_self b (2 ^ i)
    have h4 : (0 : Int) ≤ ((b / 2 ^ i : Nat) : Int) := Int.natCast_nonneg _
    have h6 : b.testBit i = decide (((b / 2 ^ i : Nat) : Int) % 2 = 1) := by
      rw [Nat.testBit_eq_decide_div_mod_eq]
      congr 1
      simp only [eq_iff_iff]
      omega
    cases c : decide (((b / 2 ^ i : Nat) : Int) % 2 = 1) <;>
      simp (maxSteps := 4000000) only [go_sem, drawV, intsOf, keyIdx, over, putO, memAt, List.map_cons, List.length_cons, ↓reduceIte, snap_trues, imm_trues, enc_pair, enc_iterv, zdrop, one_i, one_b, one_sl, one_ptr, one_ref, one_nilp, one_mp, one_fn, one_nilf, hi', hg, hdiv, c, bits64]
    all_goals all_goals (repeat' (first | with_reducible rfl | with_reducible apply And.intro | ((with_reducible show drawOK _ = true); rfl))) <;> (try first | omega | (simp only [InR]; omega) | with_reducible assumption)
    all_goals
      refine nxt hi trivial ?_
      rw [c] at h6
      simp [bel_ints, cs_arr, dep_arr, cs_int, cs_bool, cs_list, cs_rg, cs_mk, AtHead, Same, AllO, Begins, LtAll, headSt, tokz_nil, tokz_cons, tokz1, lk, dep_int, dep_bool, dep_list, dep_rg, dep_mk, memAt, bel_map, bel_mapF, bel_mapO, bel_undef, bel_int, bel_boolv, bel_nilp, bel_nilf, bel_ptr, bel_arr, bel_mp, bel_yld, bel_agg, bel_tup, bel_ref, bel_only, bel_mpr, bel_fn, bel_sl_nil, bel_sl_nilF, bel_sl_nilO, bel_sl_cons, bel_sl_app, belO_cells, belO_tok, belO_dead, belO_deferred, belO_map, belO_iter, belO_loop, someN_succ, h6]
  · intro _
    simp (maxSteps := 4000000) only [go_sem, drawV, intsOf, keyIdx, over, putO, memAt, List.map_cons, List.length_cons, ↓reduceIte, snap_trues, imm_trues, enc_pair, enc_iterv, zdrop, one_i, one_b, one_sl, one_ptr, one_ref, one_nilp, one_mp, one_fn, one_nilf]
    all_goals (repeat' (first | with_reducible rfl | with_reducible apply And.intro | ((with_reducible show drawOK _ = true); rfl))) <;> (try first | omega | (simp only [InR]; omega) | with_reducible assumption)
def P51 : Specs := addSpec 47 (spec2 (fun (t : Tb) (b : Int) => BOk b ∧ t.marks.length ≤ 7) (fun t b => someT t b.toNat)) (P50)
theorem P51_app (g : FuncId) : P51 g = (addSpec 47 (spec2 (fun (t : Tb) (b : Int) => BOk b ∧ t.marks.length ≤ 7) (fun t b => someT t b.toNat)) (P50)) g := rfl
theorem P51_ok : SpecsOk Try.prog P51 := addSpec_ok (spec2_ok some_call) (P50_ok)
attribute [go_sem] P51_app
theorem mem_someN {t : Tb} {b n : Nat} {m : Mk} : m ∈ someN t b n ↔ ∃ k, k < n ∧ b.testBit k = true ∧ at_ t.marks k = m := by
  unfold someN
  rw [List.mem_map]
  constructor
  · rintro ⟨k, hk, rfl⟩
    rw [List.mem_filter, List.mem_range] at hk
    exact ⟨k, hk.1, hk.2, rfl⟩
  · rintro ⟨k, h1, h2, rfl⟩
    exact ⟨k, List.mem_filter.2 ⟨List.mem_range.2 h1, h2⟩, rfl⟩
theorem some_fault {t : Tb} (h : faultT t = 0) (b : Nat) : faultT (someT t b) = 0 := by
  have hv := fault_ok h
  have hlen := someN_len t b t.marks.length
  unfold faultT at h ⊢
  have hh : (someT t b).heights = t.heights := rfl
  have hl : (someT t b).levels = t.levels := rfl
  have hm : (someT t b).marks = someN t b t.marks.length := rfl
  have ha : (someT t b).last = t.last := rfl
  have hs : (someT t b).step = t.step := rfl
  have hli : listsL (someT t b) = listsL t := rfl
  rw [hh, hl, hm, ha, hs, hli]
  split at h
  · cases h
  rename_i g1
  rw [if_neg (by omega)]
  split at h
  · cases h
  rename_i g2
  rw [if_neg g2]
  split at h
  · cases h
  rename_i g3
  rw [if_neg g3]
  split at h
  · cases h
  rename_i g4
  rw [if_neg g4]
  split at h
  · cases h
  rename_i g5
  have g5' : (someN t b t.marks.length).all (markB t.last) = true := by
    rw [List.all_eq_true]
    intro m hm
    obtain ⟨k, h1, _, rfl⟩ := mem_someN.1 hm
    have : t.marks.all (markB t.last) = true := by simpa using g5
    exact List.all_eq_true.1 this _ (at_mem h1)
  rw [if_neg (by rw [g5']; simp)]
  exact h
/-- Whether the table with some of its marks has a truth. -/
theorem some_truths {t : Tb} (h : faultT t = 0) (b : Nat) : truthsL (someT t b) ≠ [] ↔ Poss t (fun k => b.testBit k = true) := by
  have hv := fault_ok h
  have hv2 := fault_ok (some_fault h b)
  constructor
  · intro q
    obtain ⟨p, hp⟩ := List.exists_mem_of_ne_nil _ q
    have h1 := (mem_truthsL hv2 p).1 hp
    unfold isTruthB at h1
    rw [Bool.and_eq_true] at h1
    exact ⟨p, h1.1, fun k hk hb => List.all_eq_true.1 h1.2 _ (mem_someN.2 ⟨k, hk, hb, rfl⟩)⟩
  · rintro ⟨p, h1, h2⟩ q
    have : p ∈ truthsL (someT t b) := (mem_truthsL hv2 p).2 (by
      unfold isTruthB
      rw [Bool.and_eq_true]
      refine ⟨h1, List.all_eq_true.2 fun m hm => ?_⟩
      obtain ⟨k, hk, hb, rfl⟩ := mem_someN.1 hm
      exact h2 k hk hb)
    rw [q] at this
    cases this
end Go.Proofs
