/- The texts S23, S24, R1, joined. -/
import Derived.Test.YtadjbgghbjacbaaG12
import Derived.Test.YtadjbgghbjacbaaG6
import Derived.Test.YtadjbgghbjacbaaG7
import Derived.Test.YtadjbgghbjacbaaRows
set_option linter.all false
/- The document's first examples. -/
namespace Go.Proofs
open Go.Fs
set_option linter.unusedSimpArgs false
set_option linter.unusedVariables false
set_option maxHeartbeats 4000000
set_option maxRecDepth 8000

/-- The table of the document's examples, with k marks. -/
def threeT (k : Nat) : Tb := ⟨3, [⟨2, 4⟩, ⟨5, 6⟩, ⟨8, 9⟩, ⟨4, 5⟩], 4, [5, 3, 8], [⟨1, 3, ⟨9, 9⟩⟩, ⟨3, 3, ⟨4, 4⟩⟩].take k⟩
instance : DecidableEq Rg := fun a b => if h : a.lo = b.lo ∧ a.hi = b.hi then .isTrue (by cases a; cases b; obtain ⟨h1, h2⟩ := h; simp only at h1 h2; rw [h1, h2]) else .isFalse fun e => h (by rw [e]; exact ⟨rfl, rfl⟩)
theorem ex1 : playQ (threeT 0) [3, 6, 8, 4] = ([[1, 2], [1, 2, 3], []], 0) := by decide +kernel
theorem ex2 : bndQ (threeT 1) = ([⟨2, 4⟩, ⟨5, 6⟩, ⟨9, 9⟩, ⟨5, 5⟩], 0) := by decide +kernel
theorem ex3 : wetQ (threeT 0) 0 1 = (3, 0) := by decide +kernel
theorem ex4 : rchQ (threeT 0) 2 = (⟨2, 4⟩, 0) := by decide +kernel
theorem ex5 : dryQ (threeT 0) 0 3 = (9, 0) := by decide +kernel
theorem ex6 : firstQ (threeT 2) = (1, 0) := by decide +kernel
theorem ex7 : leaveQ (threeT 2) = ([0], 0) := by decide +kernel
theorem three_call (k : Nat) (h : k ≤ 2) : CallP Try.prog 61 [Enc.enc (k : Int)] (· = Enc.enc (threeT k)) := by
  rcases (by omega : k = 0 ∨ k = 1 ∨ k = 2) with rfl | rfl | rfl
  all_goals
    unfold threeT
    simp only [enc_fnl, enc_fnb, enc_fnc, enc_refc, enc_arr, enc_int, enc_bool, enc_list, enc_rg, enc_mk, enc_tb]
    refine callP_of_vc (Φ := P48) Try.func61 rfl (by rfl) (by rw [Try.ntmps61]; simp) mixed P48_ok (by simp [AV.strip, Tk.strip]) ?_
    rw [Try.ntmps61]
    simp only [Try.f61, startSt, tmFrom]
    simp (maxSteps := 4000000) only [go_sem, AV.one, drawV, intsOf, keyIdx, over, putO, memAt, List.map_cons, List.length_cons, ↓reduceIte, snap_trues, imm_trues, enc_pair, enc_iterv, zdrop, one_i, one_b, one_sl, one_ptr, one_ref, one_nilp, one_mp, one_fn, one_nilf]
    all_goals (repeat' (first | with_reducible rfl | with_reducible apply And.intro | ((with_reducible show drawOK _ = true); rfl))) <;> (try first | omega | (simp only [InR]; omega) | with_reducible assumption)
    rfl
theorem three_call' (k : Int) (h : k = 0 ∨ k = 1 ∨ k = 2) : CallP Try.prog 61 [Enc.enc k] (· = Enc.enc (threeT k.toNat)) := by
  rcases h with rfl | rfl | rfl
  · exact three_call 0 (by decide)
  · exact three_call 1 (by decide)
  · exact three_call 2 (by decide)
def P49 : Specs := addSpec 24 (spec1 (fun t : Tb => t.heights.length ≤ 4096) sureQ) (addSpec 38 (spec1 (fun _ : Tb => True) (fun t => thinB t && decide (faultT t = 0))) (addSpec 22 (spec1 (fun t : Tb => t.heights.length ≤ 4096 ∧ t.levels.length ≤ 4096 ∧ t.marks.length ≤ 4096) (fun t => t)) (addSpec 61 (spec1 (fun k : Int => k = 0 ∨ k = 1 ∨ k = 2) (fun k => threeT k.toNat)) (P48))))
theorem P49_app (g : FuncId) : P49 g = (addSpec 24 (spec1 (fun t : Tb => t.heights.length ≤ 4096) sureQ) (addSpec 38 (spec1 (fun _ : Tb => True) (fun t => thinB t && decide (faultT t = 0))) (addSpec 22 (spec1 (fun t : Tb => t.heights.length ≤ 4096 ∧ t.levels.length ≤ 4096 ∧ t.marks.length ≤ 4096) (fun t => t)) (addSpec 61 (spec1 (fun k : Int => k = 0 ∨ k = 1 ∨ k = 2) (fun k => threeT k.toNat)) (P48))))) g := rfl
theorem P49_ok : SpecsOk Try.prog P49 := addSpec_ok (spec1_ok sure_call) (addSpec_ok (spec1_ok fun t _ => ready_call t) (addSpec_ok (spec1_ok Table_call) (addSpec_ok (spec1_ok three_call') (P48_ok))))
attribute [go_sem] P49_app
theorem three_len (k : Nat) : (threeT k).heights.length = 4 ∧ (threeT k).levels.length = 3 := ⟨rfl, rfl⟩
/-- The table with an unknown three: closed terms would be reckoned out again and again. -/
def PW (T : Int → Tb) : Specs := addSpec 61 (spec1 (fun k : Int => k = 0 ∨ k = 1 ∨ k = 2) T) P48
theorem PW_app (T : Int → Tb) (g : FuncId) : PW T g = (addSpec 61 (spec1 (fun k : Int => k = 0 ∨ k = 1 ∨ k = 2) T) P48) g := rfl
theorem PW_ok {T : Int → Tb} (h : ∀ k : Int, (k = 0 ∨ k = 1 ∨ k = 2) → CallP Try.prog 61 [Enc.enc k] (· = Enc.enc (T k))) : SpecsOk Try.prog (PW T) := addSpec_ok (spec1_ok h) P48_ok
theorem awake_gen (T : Int → Tb) (h : ∀ k : Int, (k = 0 ∨ k = 1 ∨ k = 2) → CallP Try.prog 61 [Enc.enc k] (· = Enc.enc (T k))) (hT : ∀ k : Int, (T k).heights.length = 4 ∧ (T k).levels.length = 3)
    (ex1 : playQ (T 0) [3, 6, 8, 4] = ([[1, 2], [1, 2, 3], []], 0)) (ex2 : bndQ (T 1) = ([⟨2, 4⟩, ⟨5, 6⟩, ⟨9, 9⟩, ⟨5, 5⟩], 0)) (ex3 : wetQ (T 0) 0 1 = (3, 0)) (ex4 : rchQ (T 0) 2 = (⟨2, 4⟩, 0))
    (ex5 : dryQ (T 0) 0 3 = (9, 0)) (ex6 : firstQ (T 2) = (1, 0)) (ex7 : leaveQ (T 2) = ([0], 0)) : CallP Try.prog 20 [] (· = Enc.enc true) := by
  have h0 := hT 0
  have h1 := hT 1
  have h2 := hT 2
  clear hT
  simp only [enc_bool]
  refine callP_of_vc (Φ := PW T) Try.func20 rfl (by rfl) (by rw [Try.ntmps20]; simp) mixed (PW_ok h) (by simp [AV.strip, Tk.strip]) ?_
  rw [Try.ntmps20]
  simp only [Try.f20, startSt, tmFrom]
  refine vc_seqK fun Q' hQ => ?_
  simp (maxSteps := 4000000) only [go_sem, AV.one, drawV, intsOf, keyIdx, over, putO, memAt, List.map_cons, List.length_cons, ↓reduceIte, snap_trues, imm_trues, enc_pair, enc_iterv, zdrop, one_i, one_b, one_sl, one_ptr, one_ref, one_nilp, one_mp, one_fn, one_nilf, PW_app]
  all_goals (repeat' (first | with_reducible rfl | with_reducible apply And.intro | ((with_reducible show drawOK _ = true); rfl))) <;> (try first | omega | (simp only [InR]; omega) | with_reducible assumption)
  rw [hQ]
  clear hQ Q'
  simp only [thenA]
  refine vc_seqK fun Q' hQ => ?_
  simp (maxSteps := 4000000) only [go_sem, AV.one, drawV, intsOf, keyIdx, over, putO, memAt, List.map_cons, List.length_cons, ↓reduceIte, snap_trues, imm_trues, enc_pair, enc_iterv, zdrop, one_i, one_b, one_sl, one_ptr, one_ref, one_nilp, one_mp, one_fn, one_nilf, PW_app, ex1]
  all_goals (repeat' (first | with_reducible rfl | with_reducible apply And.intro | ((with_reducible show drawOK _ = true); rfl))) <;> (try first | omega | (simp only [InR]; omega) | with_reducible assumption)
  rw [hQ]
  clear hQ Q'
  simp only [thenA]
  refine vc_seqK fun Q' hQ => ?_
  simp (maxSteps := 4000000) only [go_sem, AV.one, drawV, intsOf, keyIdx, over, putO, memAt, List.map_cons, List.length_cons, ↓reduceIte, snap_trues, imm_trues, enc_pair, enc_iterv, zdrop, one_i, one_b, one_sl, one_ptr, one_ref, one_nilp, one_mp, one_fn, one_nilf, PW_app, ex2]
  all_goals (repeat' (first | with_reducible rfl | with_reducible apply And.intro | ((with_reducible show drawOK _ = true); rfl))) <;> (try first | omega | (simp only [InR]; omega) | with_reducible assumption)
  rw [hQ]
  clear hQ Q'
  simp only [thenA]
  refine vc_seqK fun Q' hQ => ?_
  simp (maxSteps := 4000000) only [go_sem, AV.one, drawV, intsOf, keyIdx, over, putO, memAt, List.map_cons, List.length_cons, ↓reduceIte, snap_trues, imm_trues, enc_pair, enc_iterv, zdrop, one_i, one_b, one_sl, one_ptr, one_ref, one_nilp, one_mp, one_fn, one_nilf, PW_app, ex3]
  all_goals (repeat' (first | with_reducible rfl | with_reducible apply And.intro | ((with_reducible show drawOK _ = true); rfl))) <;> (try first | omega | (simp only [InR]; omega) | with_reducible assumption)
  rw [hQ]
  clear hQ Q'
  simp only [thenA]
  refine vc_seqK fun Q' hQ => ?_
  simp (maxSteps := 4000000) only [go_sem, AV.one, drawV, intsOf, keyIdx, over, putO, memAt, List.map_cons, List.length_cons, ↓reduceIte, snap_trues, imm_trues, enc_pair, enc_iterv, zdrop, one_i, one_b, one_sl, one_ptr, one_ref, one_nilp, one_mp, one_fn, one_nilf, PW_app, ex4]
  all_goals (repeat' (first | with_reducible rfl | with_reducible apply And.intro | ((with_reducible show drawOK _ = true); rfl))) <;> (try first | omega | (simp only [InR]; omega) | with_reducible assumption)
  rw [hQ]
  clear hQ Q'
  simp only [thenA]
  refine vc_seqK fun Q' hQ => ?_
  simp (maxSteps := 4000000) only [go_sem, AV.one, drawV, intsOf, keyIdx, over, putO, memAt, List.map_cons, List.length_cons, ↓reduceIte, snap_trues, imm_trues, enc_pair, enc_iterv, zdrop, one_i, one_b, one_sl, one_ptr, one_ref, one_nilp, one_mp, one_fn, one_nilf, PW_app, ex5]
  all_goals (repeat' (first | with_reducible rfl | with_reducible apply And.intro | ((with_reducible show drawOK _ = true); rfl))) <;> (try first | omega | (simp only [InR]; omega) | with_reducible assumption)
  rw [hQ]
  clear hQ Q'
  simp only [thenA]
  refine vc_seqK fun Q' hQ => ?_
  simp (maxSteps := 4000000) only [go_sem, AV.one, drawV, intsOf, keyIdx, over, putO, memAt, List.map_cons, List.length_cons, ↓reduceIte, snap_trues, imm_trues, enc_pair, enc_iterv, zdrop, one_i, one_b, one_sl, one_ptr, one_ref, one_nilp, one_mp, one_fn, one_nilf, PW_app, ex6]
  all_goals (repeat' (first | with_reducible rfl | with_reducible apply And.intro | ((with_reducible show drawOK _ = true); rfl))) <;> (try first | omega | (simp only [InR]; omega) | with_reducible assumption)
  rw [hQ]
  clear hQ Q'
  simp only [thenA]
  refine vc_seqK fun Q' hQ => ?_
  simp (maxSteps := 4000000) only [go_sem, AV.one, drawV, intsOf, keyIdx, over, putO, memAt, List.map_cons, List.length_cons, ↓reduceIte, snap_trues, imm_trues, enc_pair, enc_iterv, zdrop, one_i, one_b, one_sl, one_ptr, one_ref, one_nilp, one_mp, one_fn, one_nilf, PW_app, ex7]
  all_goals (repeat' (first | with_reducible rfl | with_reducible apply And.intro | ((with_reducible show drawOK _ = true); rfl))) <;> (try first | omega | (simp only [InR]; omega) | with_reducible assumption)
  rw [hQ]
  clear hQ Q'
  simp only [thenA]
  refine vc_seqK fun Q' hQ => ?_
  simp (maxSteps := 4000000) only [go_sem, AV.one, intsOf, keyIdx, over, putO, memAt, List.map_cons, List.length_cons, ↓reduceIte, snap_trues, imm_trues, enc_pair, enc_iterv, zdrop, one_i, one_b, one_sl, one_ptr, one_ref, one_nilp, one_mp, one_fn, one_nilf, PW_app, List.append_eq]
  refine ⟨by kernel_rfl, drawV_keep [1, 2, 3, 4, 5, 6, 7, 8, 9, 10, 11, 12, 13, 14] fun tm' h => drawV_of_vcS (by kernel_rfl) fun ds hds => ?_⟩
  simp (maxSteps := 4000000) only [lk, List.mem_cons, List.not_mem_nil, or_false, forall_eq_or_imp, forall_eq, Nat.reduceEqDiff, if_true, if_false, ↓reduceIte] at h
  obtain ⟨l1, l2, l3, l4, l5, l6, l7, l8, l9, l10, l11, l12, l13, l14⟩ := h
  have d2 : ds.getD 2 none = some 53 := by rw [hds]; rfl
  have d7 : ds.getD 7 none = some 58 := by rw [hds]; rfl
  have d14 : ds.getD 14 none = some 65 := by rw [hds]; rfl
  have d21 : ds.getD 21 none = some 72 := by rw [hds]; rfl
  have d28 : ds.getD 28 none = some 79 := by rw [hds]; rfl
  have d32 : ds.getD 32 none = some 83 := by rw [hds]; rfl
  have d37 : ds.getD 37 none = some 88 := by rw [hds]; rfl
  have d44 : ds.getD 44 none = some 95 := by rw [hds]; rfl
  have d51 : ds.getD 51 none = some 102 := by rw [hds]; rfl
  have d55 : ds.getD 55 none = some 106 := by rw [hds]; rfl
  have d59 : ds.getD 59 none = some 110 := by rw [hds]; rfl
  have d63 : ds.getD 63 none = some 114 := by rw [hds]; rfl
  have d68 : ds.getD 68 none = some 119 := by rw [hds]; rfl
  have d72 : ds.getD 72 none = some 123 := by rw [hds]; rfl
  have d76 : ds.getD 76 none = some 127 := by rw [hds]; rfl
  have d80 : ds.getD 80 none = some 131 := by rw [hds]; rfl
  have d84 : ds.getD 84 none = some 135 := by rw [hds]; rfl
  have d88 : ds.getD 88 none = some 139 := by rw [hds]; rfl
  clear hds
  refine vcS_split 8 fun K' hK => ?_
  simp (maxSteps := 4000000) only [go_sem, AV.one, drawV, intsOf, keyIdx, over, putO, memAt, List.map_cons, List.length_cons, ↓reduceIte, snap_trues, imm_trues, enc_pair, enc_iterv, zdrop, one_i, one_b, one_sl, one_ptr, one_ref, one_nilp, one_mp, one_fn, one_nilf, vcS, guardA, restr, Int.cast_ofNat_Int, List.append_eq, PW_app, l1, l2, l3, l4, l5, l6, l7, l8, l9, l10, l11, l12, l13, l14, d2]
  all_goals (repeat' (first | with_reducible rfl | with_reducible apply And.intro | ((with_reducible show drawOK _ = true); rfl))) <;> (try first | omega | (simp only [InR]; omega) | with_reducible assumption)
  rw [hK]
  clear hK K'
  refine vcS_keep [1, 3, 4, 5, 6, 7, 8, 9, 10, 11, 12, 13, 14, 58] fun tm' h => ?_
  simp (maxSteps := 4000000) only [lk, List.mem_cons, List.not_mem_nil, or_false, forall_eq_or_imp, forall_eq, Nat.reduceEqDiff, if_true, if_false, ↓reduceIte, l1, l2, l3, l4, l5, l6, l7, l8, l9, l10, l11, l12, l13, l14, d2] at h
  clear l1 l2 l3 l4 l5 l6 l7 l8 l9 l10 l11 l12 l13 l14
  obtain ⟨l1, l3, l4, l5, l6, l7, l8, l9, l10, l11, l12, l13, l14, l58⟩ := h
  refine vcS_split 7 fun K' hK => ?_
  simp (maxSteps := 4000000) only [go_sem, AV.one, drawV, intsOf, keyIdx, over, putO, memAt, List.map_cons, List.length_cons, ↓reduceIte, snap_trues, imm_trues, enc_pair, enc_iterv, zdrop, one_i, one_b, one_sl, one_ptr, one_ref, one_nilp, one_mp, one_fn, one_nilf, vcS, guardA, restr, Int.cast_ofNat_Int, List.append_eq, PW_app, l1, l3, l4, l5, l6, l7, l8, l9, l10, l11, l12, l13, l14, l58, d7]
  all_goals (repeat' (first | with_reducible rfl | with_reducible apply And.intro | ((with_reducible show drawOK _ = true); rfl))) <;> (try first | omega | (simp only [InR]; omega) | with_reducible assumption)
  rw [hK]
  clear hK K'
  refine vcS_keep [1, 3, 4, 5, 6, 7, 8, 9, 10, 11, 12, 13, 14, 65] fun tm' h => ?_
  simp (maxSteps := 4000000) only [lk, List.mem_cons, List.not_mem_nil, or_false, forall_eq_or_imp, forall_eq, Nat.reduceEqDiff, if_true, if_false, ↓reduceIte, l1, l3, l4, l5, l6, l7, l8, l9, l10, l11, l12, l13, l14, l58, d7] at h
  clear l1 l3 l4 l5 l6 l7 l8 l9 l10 l11 l12 l13 l14 l58
  obtain ⟨l1, l3, l4, l5, l6, l7, l8, l9, l10, l11, l12, l13, l14, l65⟩ := h
  refine vcS_split 7 fun K' hK => ?_
  simp (maxSteps := 4000000) only [go_sem, AV.one, drawV, intsOf, keyIdx, over, putO, memAt, List.map_cons, List.length_cons, ↓reduceIte, snap_trues, imm_trues, enc_pair, enc_iterv, zdrop, one_i, one_b, one_sl, one_ptr, one_ref, one_nilp, one_mp, one_fn, one_nilf, vcS, guardA, restr, Int.cast_ofNat_Int, List.append_eq, PW_app, l1, l3, l4, l5, l6, l7, l8, l9, l10, l11, l12, l13, l14, l65, d14]
  all_goals (repeat' (first | with_reducible rfl | with_reducible apply And.intro | ((with_reducible show drawOK _ = true); rfl))) <;> (try first | omega | (simp only [InR]; omega) | with_reducible assumption)
  rw [hK]
  clear hK K'
  refine vcS_keep [1, 3, 4, 5, 6, 7, 8, 9, 10, 11, 12, 13, 14, 72] fun tm' h => ?_
  simp (maxSteps := 4000000) only [lk, List.mem_cons, List.not_mem_nil, or_false, forall_eq_or_imp, forall_eq, Nat.reduceEqDiff, if_true, if_false, ↓reduceIte, l1, l3, l4, l5, l6, l7, l8, l9, l10, l11, l12, l13, l14, l65, d14] at h
  clear l1 l3 l4 l5 l6 l7 l8 l9 l10 l11 l12 l13 l14 l65
  obtain ⟨l1, l3, l4, l5, l6, l7, l8, l9, l10, l11, l12, l13, l14, l72⟩ := h
  refine vcS_split 10 fun K' hK => ?_
  simp (maxSteps := 4000000) only [go_sem, AV.one, drawV, intsOf, keyIdx, over, putO, memAt, List.map_cons, List.length_cons, ↓reduceIte, snap_trues, imm_trues, enc_pair, enc_iterv, zdrop, one_i, one_b, one_sl, one_ptr, one_ref, one_nilp, one_mp, one_fn, one_nilf, vcS, guardA, restr, Int.cast_ofNat_Int, List.append_eq, PW_app, l1, l3, l4, l5, l6, l7, l8, l9, l10, l11, l12, l13, l14, l72, d21, d28]
  all_goals (repeat' (first | with_reducible rfl | with_reducible apply And.intro | ((with_reducible show drawOK _ = true); rfl))) <;> (try first | omega | (simp only [InR]; omega) | with_reducible assumption)
  rw [hK]
  clear hK K'
  refine vcS_keep [3, 5, 6, 7, 8, 9, 10, 11, 12, 13, 14, 82] fun tm' h => ?_
  simp (maxSteps := 4000000) only [lk, List.mem_cons, List.not_mem_nil, or_false, forall_eq_or_imp, forall_eq, Nat.reduceEqDiff, if_true, if_false, ↓reduceIte, l1, l3, l4, l5, l6, l7, l8, l9, l10, l11, l12, l13, l14, l72, d21, d28] at h
  clear l1 l3 l4 l5 l6 l7 l8 l9 l10 l11 l12 l13 l14 l72
  obtain ⟨l3, l5, l6, l7, l8, l9, l10, l11, l12, l13, l14, l82⟩ := h
  refine vcS_split 6 fun K' hK => ?_
  simp (maxSteps := 4000000) only [go_sem, AV.one, drawV, intsOf, keyIdx, over, putO, memAt, List.map_cons, List.length_cons, ↓reduceIte, snap_trues, imm_trues, enc_pair, enc_iterv, zdrop, one_i, one_b, one_sl, one_ptr, one_ref, one_nilp, one_mp, one_fn, one_nilf, vcS, guardA, restr, Int.cast_ofNat_Int, List.append_eq, PW_app, l3, l5, l6, l7, l8, l9, l10, l11, l12, l13, l14, l82, d32]
  all_goals (repeat' (first | with_reducible rfl | with_reducible apply And.intro | ((with_reducible show drawOK _ = true); rfl))) <;> (try first | omega | (simp only [InR]; omega) | with_reducible assumption)
  rw [hK]
  clear hK K'
  refine vcS_keep [3, 5, 6, 7, 8, 9, 10, 11, 12, 13, 14, 88] fun tm' h => ?_
  simp (maxSteps := 4000000) only [lk, List.mem_cons, List.not_mem_nil, or_false, forall_eq_or_imp, forall_eq, Nat.reduceEqDiff, if_true, if_false, ↓reduceIte, l3, l5, l6, l7, l8, l9, l10, l11, l12, l13, l14, l82, d32] at h
  clear l3 l5 l6 l7 l8 l9 l10 l11 l12 l13 l14 l82
  obtain ⟨l3, l5, l6, l7, l8, l9, l10, l11, l12, l13, l14, l88⟩ := h
  refine vcS_split 7 fun K' hK => ?_
  simp (maxSteps := 4000000) only [go_sem, AV.one, drawV, intsOf, keyIdx, over, putO, memAt, List.map_cons, List.length_cons, ↓reduceIte, snap_trues, imm_trues, enc_pair, enc_iterv, zdrop, one_i, one_b, one_sl, one_ptr, one_ref, one_nilp, one_mp, one_fn, one_nilf, vcS, guardA, restr, Int.cast_ofNat_Int, List.append_eq, PW_app, l3, l5, l6, l7, l8, l9, l10, l11, l12, l13, l14, l88, d37]
  all_goals (repeat' (first | with_reducible rfl | with_reducible apply And.intro | ((with_reducible show drawOK _ = true); rfl))) <;> (try first | omega | (simp only [InR]; omega) | with_reducible assumption)
  rw [hK]
  clear hK K'
  refine vcS_keep [3, 5, 6, 7, 8, 9, 10, 11, 12, 13, 14, 95] fun tm' h => ?_
  simp (maxSteps := 4000000) only [lk, List.mem_cons, List.not_mem_nil, or_false, forall_eq_or_imp, forall_eq, Nat.reduceEqDiff, if_true, if_false, ↓reduceIte, l3, l5, l6, l7, l8, l9, l10, l11, l12, l13, l14, l88, d37] at h
  clear l3 l5 l6 l7 l8 l9 l10 l11 l12 l13 l14 l88
  obtain ⟨l3, l5, l6, l7, l8, l9, l10, l11, l12, l13, l14, l95⟩ := h
  refine vcS_split 10 fun K' hK => ?_
  simp (maxSteps := 4000000) only [go_sem, AV.one, drawV, intsOf, keyIdx, over, putO, memAt, List.map_cons, List.length_cons, ↓reduceIte, snap_trues, imm_trues, enc_pair, enc_iterv, zdrop, one_i, one_b, one_sl, one_ptr, one_ref, one_nilp, one_mp, one_fn, one_nilf, vcS, guardA, restr, Int.cast_ofNat_Int, List.append_eq, PW_app, l3, l5, l6, l7, l8, l9, l10, l11, l12, l13, l14, l95, d44, d51]
  all_goals (repeat' (first | with_reducible rfl | with_reducible apply And.intro | ((with_reducible show drawOK _ = true); rfl))) <;> (try first | omega | (simp only [InR]; omega) | with_reducible assumption)
  rw [hK]
  clear hK K'
  refine vcS_keep [5, 7, 8, 9, 10, 11, 12, 13, 14, 105] fun tm' h => ?_
  simp (maxSteps := 4000000) only [lk, List.mem_cons, List.not_mem_nil, or_false, forall_eq_or_imp, forall_eq, Nat.reduceEqDiff, if_true, if_false, ↓reduceIte, l3, l5, l6, l7, l8, l9, l10, l11, l12, l13, l14, l95, d44, d51] at h
  clear l3 l5 l6 l7 l8 l9 l10 l11 l12 l13 l14 l95
  obtain ⟨l5, l7, l8, l9, l10, l11, l12, l13, l14, l105⟩ := h
  refine vcS_split 9 fun K' hK => ?_
  simp (maxSteps := 4000000) only [go_sem, AV.one, drawV, intsOf, keyIdx, over, putO, memAt, List.map_cons, List.length_cons, ↓reduceIte, snap_trues, imm_trues, enc_pair, enc_iterv, zdrop, one_i, one_b, one_sl, one_ptr, one_ref, one_nilp, one_mp, one_fn, one_nilf, vcS, guardA, restr, Int.cast_ofNat_Int, List.append_eq, PW_app, l5, l7, l8, l9, l10, l11, l12, l13, l14, l105, d55, d59]
  all_goals (repeat' (first | with_reducible rfl | with_reducible apply And.intro | ((with_reducible show drawOK _ = true); rfl))) <;> (try first | omega | (simp only [InR]; omega) | with_reducible assumption)
  rw [hK]
  clear hK K'
  refine vcS_keep [7, 9, 10, 11, 12, 13, 14, 114] fun tm' h => ?_
  simp (maxSteps := 4000000) only [lk, List.mem_cons, List.not_mem_nil, or_false, forall_eq_or_imp, forall_eq, Nat.reduceEqDiff, if_true, if_false, ↓reduceIte, l5, l7, l8, l9, l10, l11, l12, l13, l14, l105, d55, d59] at h
  clear l5 l7 l8 l9 l10 l11 l12 l13 l14 l105
  obtain ⟨l7, l9, l10, l11, l12, l13, l14, l114⟩ := h
  refine vcS_split 9 fun K' hK => ?_
  simp (maxSteps := 4000000) only [go_sem, AV.one, drawV, intsOf, keyIdx, over, putO, memAt, List.map_cons, List.length_cons, ↓reduceIte, snap_trues, imm_trues, enc_pair, enc_iterv, zdrop, one_i, one_b, one_sl, one_ptr, one_ref, one_nilp, one_mp, one_fn, one_nilf, vcS, guardA, restr, Int.cast_ofNat_Int, List.append_eq, PW_app, l7, l9, l10, l11, l12, l13, l14, l114, d63, d68]
  all_goals (repeat' (first | with_reducible rfl | with_reducible apply And.intro | ((with_reducible show drawOK _ = true); rfl))) <;> (try first | omega | (simp only [InR]; omega) | with_reducible assumption)
  rw [hK]
  clear hK K'
  refine vcS_keep [9, 11, 12, 13, 14, 123] fun tm' h => ?_
  simp (maxSteps := 4000000) only [lk, List.mem_cons, List.not_mem_nil, or_false, forall_eq_or_imp, forall_eq, Nat.reduceEqDiff, if_true, if_false, ↓reduceIte, l7, l9, l10, l11, l12, l13, l14, l114, d63, d68] at h
  clear l7 l9 l10 l11 l12 l13 l14 l114
  obtain ⟨l9, l11, l12, l13, l14, l123⟩ := h
  refine vcS_split 8 fun K' hK => ?_
  simp (maxSteps := 4000000) only [go_sem, AV.one, drawV, intsOf, keyIdx, over, putO, memAt, List.map_cons, List.length_cons, ↓reduceIte, snap_trues, imm_trues, enc_pair, enc_iterv, zdrop, one_i, one_b, one_sl, one_ptr, one_ref, one_nilp, one_mp, one_fn, one_nilf, vcS, guardA, restr, Int.cast_ofNat_Int, List.append_eq, PW_app, l9, l11, l12, l13, l14, l123, d72, d76]
  all_goals (repeat' (first | with_reducible rfl | with_reducible apply And.intro | ((with_reducible show drawOK _ = true); rfl))) <;> (try first | omega | (simp only [InR]; omega) | with_reducible assumption)
  rw [hK]
  clear hK K'
  refine vcS_keep [11, 13, 14, 131] fun tm' h => ?_
  simp (maxSteps := 4000000) only [lk, List.mem_cons, List.not_mem_nil, or_false, forall_eq_or_imp, forall_eq, Nat.reduceEqDiff, if_true, if_false, ↓reduceIte, l9, l11, l12, l13, l14, l123, d72, d76] at h
  clear l9 l11 l12 l13 l14 l123
  obtain ⟨l11, l13, l14, l131⟩ := h
  refine vcS_split 8 fun K' hK => ?_
  simp (maxSteps := 4000000) only [go_sem, AV.one, drawV, intsOf, keyIdx, over, putO, memAt, List.map_cons, List.length_cons, ↓reduceIte, snap_trues, imm_trues, enc_pair, enc_iterv, zdrop, one_i, one_b, one_sl, one_ptr, one_ref, one_nilp, one_mp, one_fn, one_nilf, vcS, guardA, restr, Int.cast_ofNat_Int, List.append_eq, PW_app, l11, l13, l14, l131, d80, d84]
  all_goals (repeat' (first | with_reducible rfl | with_reducible apply And.intro | ((with_reducible show drawOK _ = true); rfl))) <;> (try first | omega | (simp only [InR]; omega) | with_reducible assumption)
  rw [hK]
  clear hK K'
  refine vcS_keep [13, 139] fun tm' h => ?_
  simp (maxSteps := 4000000) only [lk, List.mem_cons, List.not_mem_nil, or_false, forall_eq_or_imp, forall_eq, Nat.reduceEqDiff, if_true, if_false, ↓reduceIte, l11, l13, l14, l131, d80, d84] at h
  clear l11 l13 l14 l131
  obtain ⟨l13, l139⟩ := h
  simp (maxSteps := 4000000) only [go_sem, AV.one, drawV, intsOf, keyIdx, over, putO, memAt, List.map_cons, List.length_cons, ↓reduceIte, snap_trues, imm_trues, enc_pair, enc_iterv, zdrop, one_i, one_b, one_sl, one_ptr, one_ref, one_nilp, one_mp, one_fn, one_nilf, vcS, guardA, restr, Int.cast_ofNat_Int, List.append_eq, PW_app, l13, l139, d88]
  all_goals (repeat' (first | with_reducible rfl | with_reducible apply And.intro | ((with_reducible show drawOK _ = true); rfl))) <;> (try first | omega | (simp only [InR]; omega) | with_reducible assumption)
  rw [hQ]
  clear hQ Q'
  simp only [thenA]
  simp (maxSteps := 4000000) only [go_sem, AV.one, drawV, intsOf, keyIdx, over, putO, memAt, List.map_cons, List.length_cons, ↓reduceIte, snap_trues, imm_trues, enc_pair, enc_iterv, zdrop, one_i, one_b, one_sl, one_ptr, one_ref, one_nilp, one_mp, one_fn, one_nilf]
theorem awake_call : CallP Try.prog 20 [] (· = Enc.enc true) :=
  awake_gen (fun k => threeT k.toNat) three_call' (fun k => three_len _) ex1 ex2 ex3 ex4 ex5 ex6 ex7
end Go.Proofs
/- What the laws have in common. -/
namespace Go.Proofs
open Go.Fs
set_option linter.unusedSimpArgs false
set_option linter.unusedVariables false
set_option maxHeartbeats 4000000
set_option maxRecDepth 8000

def P50 : Specs := addSpec 20 (spec0 true) (P49)
theorem P50_app (g : FuncId) : P50 g = (addSpec 20 (spec0 true) (P49)) g := rfl
theorem P50_ok : SpecsOk Try.prog P50 := addSpec_ok (spec0_ok awake_call) (P49_ok)
attribute [go_sem] P50_app
theorem askErr_bad {t : Tb} (b : Bool) (h : faultT t ≠ 0) : askErr t b = faultT t := by unfold askErr; rw [if_neg h]
theorem askErr_out {t : Tb} (h : faultT t = 0) : askErr t false = 2 := by unfold askErr; rw [if_pos h]; rfl
theorem askErr_dry {t : Tb} (h : faultT t = 0) (h2 : truthsL t = []) : askErr t true = 11 := by unfold askErr; rw [if_pos h, if_pos rfl, if_pos h2]
theorem askErr_ok {t : Tb} (h : faultT t = 0) (h2 : truthsL t ≠ []) : askErr t true = 0 := by unfold askErr; rw [if_pos h, if_pos rfl, if_neg h2]
theorem sureQ_bad {t : Tb} (h : faultT t ≠ 0) : sureQ t = ([], faultT t) := by unfold sureQ; rw [if_neg h]
theorem sureQ_dry {t : Tb} (h : faultT t = 0) (h2 : truthsL t = []) : sureQ t = ([], 11) := by unfold sureQ; rw [if_pos h, if_pos h2]
theorem sureQ_ok {t : Tb} (h : faultT t = 0) (h2 : truthsL t ≠ []) : sureQ t = (truthsL t, 0) := by unfold sureQ; rw [if_pos h, if_neg h2]
/-- What is known of all truths. -/
theorem truths_facts {t : Tb} (h : faultT t = 0) : (truthsL t).length ≤ 4096 ∧ ∀ l ∈ truthsL t, (l.length : Int) = t.last + 1 ∧ l.length ≤ 4096 := by
  have hv := fault_ok h
  refine ⟨by have := truthsL_len hv; omega, fun l hl => ?_⟩
  have h1 := truth_len hv hl
  have h2 := hv.last
  have h3 := hv.l9
  omega
theorem row_facts {t : Tb} {row : Int} (h : inB row 0 (t.levels.length - 1) = true) : 0 ≤ row ∧ row < t.levels.length ∧ (t.levels.map EncE.cs).getD row.toNat [] = [AV.int .i64 (at_ t.levels row.toNat)] := by
  have h := (inB_iff _ _ _).1 h
  refine ⟨by omega, by omega, ?_⟩
  rw [getD_mapA (by omega)]
  rfl
end Go.Proofs
/- How the arguments of the statements of layer 2 are read. -/
namespace Go.Proofs
open Go.Fs
set_option linter.unusedVariables false
set_option linter.constructorNameAsVariable false
set_option maxRecDepth 100000

theorem cells_int : Try.prog.cellsOf 3 = 1 := by kernel_rfl
theorem rdE_int' : RdE Try.prog 3 Int (InR .i64) := rdE_int Try.underlying3 cells_int
def RgIn (r : Rg) : Prop := InR .i64 r.lo ∧ InR .i64 r.hi
def MkIn (m : Mk) : Prop := (InR .i64 m.frm ∧ InR .i64 m.til) ∧ RgIn m.top
theorem trod_one {H : Type} {enc : TypeId × Value → H} {w : World} {base : Nat} {spare : Nat → Bool} {held : Bool} {n : Nat} {c : Value} {y : DataW H × List MemPlace}
    (h : DataW.trod enc Try.prog w base spare held n 3 [c] = some y) : ∃ a, c = .int .i64 a ∧ InR .i64 a := by
  obtain ⟨a, e, _, hw⟩ := DataW.trod_int Try.underlying3 h
  simp only [List.cons.injEq, and_true] at e
  exact ⟨a, e, inR_of_wf hw⟩
theorem rdE_rg : RdE Try.prog 47 Rg RgIn :=
  ⟨by kernel_rfl, fun enc w base spare held fuel cs x h => by
    obtain ⟨hl, xs, _, _, hf⟩ := rd_field Try.underlying47 h
    have hl : cs.length = 2 := hl.trans (by kernel_rfl)
    match cs, hl with
    | [c0, c1], _ =>
      obtain ⟨n0, y0, _, h0⟩ := hf 0 _ rfl
      obtain ⟨n1, y1, _, h1⟩ := hf 1 _ rfl
      simp only [cells_int, List.getElem_toArray, List.getElem_cons_zero, List.getElem_cons_succ, List.drop_zero, List.drop_succ_cons, List.take_succ_cons, List.take_zero] at h0 h1
      obtain ⟨a, rfl, ha⟩ := trod_one h0
      obtain ⟨b, rfl, hb⟩ := trod_one h1
      refine ⟨⟨a, b⟩, ⟨ha, hb⟩, rfl, fun i hi => ?_⟩
      match i, hi with
      | 0, _ => exact .int _ _
      | 1, _ => exact .int _ _⟩
theorem cells_rg : Try.prog.cellsOf 47 = 2 := by kernel_rfl
theorem rdE_mk : RdE Try.prog 71 Mk MkIn :=
  ⟨by kernel_rfl, fun enc w base spare held fuel cs x h => by
    obtain ⟨hl, xs, _, _, hf⟩ := rd_field Try.underlying71 h
    have hl : cs.length = 4 := hl.trans (by kernel_rfl)
    match cs, hl with
    | [c0, c1, c2, c3], _ =>
      obtain ⟨n0, y0, _, h0⟩ := hf 0 _ rfl
      obtain ⟨n1, y1, _, h1⟩ := hf 1 _ rfl
      obtain ⟨n2, y2, _, h2⟩ := hf 2 _ rfl
      simp only [cells_int, cells_rg, List.getElem_toArray, List.getElem_cons_zero, List.getElem_cons_succ, List.drop_zero, List.drop_succ_cons, List.take_succ_cons, List.take_zero] at h0 h1 h2
      obtain ⟨a, rfl, ha⟩ := trod_one h0
      obtain ⟨b, rfl, hb⟩ := trod_one h1
      obtain ⟨r, hr, hr2⟩ := rdE_rg.rd _ _ _ _ _ _ _ _ h2
      have e2 := hr2.2 0 (by show 0 < 2; omega)
      have e3 := hr2.2 1 (by show 1 < 2; omega)
      have e2' := Rep.int_inv (k := .i64) (n := r.lo) e2
      have e3' := Rep.int_inv (k := .i64) (n := r.hi) e3
      simp at e2' e3'
      subst e2' e3'
      refine ⟨⟨a, b, r⟩, ⟨⟨ha, hb⟩, hr⟩, rfl, fun i hi => ?_⟩
      match i, hi with
      | 0, _ => exact .int _ _
      | 1, _ => exact .int _ _
      | 2, _ => exact .int _ _
      | 3, _ => exact .int _ _⟩
/-- What is known of a table that comes in. -/
structure TbIn (t : Tb) : Prop where
  last : InR .i64 t.last
  step : InR .i64 t.step
  h : ∀ r ∈ t.heights, RgIn r
  l : ∀ n ∈ t.levels, InR .i64 n
  m : ∀ m ∈ t.marks, MkIn m
  hs : t.heights.length * 16 ≤ reachBytes
  ls : t.levels.length * 8 ≤ reachBytes
  ms : t.marks.length * 32 ≤ reachBytes
theorem cells_sl1 : Try.prog.cellsOf 22 = 1 := by kernel_rfl
theorem cells_sl2 : Try.prog.cellsOf 23 = 1 := by kernel_rfl
theorem cells_sl3 : Try.prog.cellsOf 24 = 1 := by kernel_rfl
theorem bytes_1 : Try.prog.bytesOf 47 = 16 := by kernel_rfl
theorem bytes_2 : Try.prog.bytesOf 3 = 8 := by kernel_rfl
theorem bytes_3 : Try.prog.bytesOf 71 = 32 := by kernel_rfl
theorem rdV_tb : RdV Try.prog 26 Tb TbIn := fun enc w base v d ps hv ⟨fuel, h⟩ hw => by
  obtain ⟨cs, rfl, hsz, hrow⟩ := okWide_row Try.underlying26 hv
  have hsz : cs.size = 5 := hsz.trans (by kernel_rfl)
  obtain ⟨hl, xs, hx, _, hf⟩ := rd_field Try.underlying26 h
  obtain ⟨l⟩ := cs
  match l, hsz with
  | [c0, c1, c2, c3, c4], _ =>
    obtain ⟨n0, y0, _, h0⟩ := hf 0 _ rfl
    obtain ⟨n1, y1, q1, h1⟩ := hf 1 _ rfl
    obtain ⟨n2, y2, _, h2⟩ := hf 2 _ rfl
    obtain ⟨n3, y3, q3, h3⟩ := hf 3 _ rfl
    obtain ⟨n4, y4, q4, h4⟩ := hf 4 _ rfl
    simp only [Value.cells, cells_int, cells_sl1, cells_sl2, cells_sl3, List.getElem_toArray, List.getElem_cons_zero, List.getElem_cons_succ, List.drop_zero, List.drop_succ_cons, List.take_succ_cons, List.take_zero] at h0 h1 h2 h3 h4
    have hwt : ∀ (j : Nat) (t : TypeId) (y : DataW _ × List MemPlace), ([3, 22, 3, 23, 24] : List TypeId)[j]? = some t → xs[j]? = some y → (y.1.weights Try.prog t).all (· ≤ reachBytes) = true := by
      intro j t y ht hy
      rw [List.all_eq_true] at hw ⊢
      intro n hn
      apply hw
      simp only at hx
      rw [hx]
      simp only [DataW.weights, Try.underlying26]
      exact DataW.weights_mem_each (j := j) ht (by rw [List.getElem?_map, hy]; rfl) n hn
    obtain ⟨a, rfl, ha⟩ := trod_one h0
    obtain ⟨b, rfl, hb⟩ := trod_one h2
    obtain ⟨lh, g1, g2, g3⟩ := rd_slice rdE_rg Try.underlying22 h1 (fun a l c e => rowOk_spot hrow (i := 1) (by rw [e]; rfl))
    obtain ⟨ll, k1, k2, k3⟩ := rd_slice rdE_int' Try.underlying23 h3 (fun a l c e => rowOk_spot hrow (i := 3) (by rw [e]; rfl))
    obtain ⟨lm, m1, m2, m3⟩ := rd_slice rdE_mk Try.underlying24 h4 (fun a l c e => rowOk_spot hrow (i := 4) (by rw [e]; rfl))
    have r1 := g3 reachBytes (hwt 1 _ y1 rfl q1)
    have r2 := k3 reachBytes (hwt 3 _ y3 rfl q3)
    have r3 := m3 reachBytes (hwt 4 _ y4 rfl q4)
    rw [bytes_1] at r1
    rw [bytes_2] at r2
    rw [bytes_3] at r3
    refine ⟨⟨a, lh, b, ll, lm⟩, ⟨ha, hb, g1, k1, m1, r1, r2, r3⟩, .agg _ _ rfl fun i hi => ?_⟩
    match i, hi with
    | 0, _ => exact .int _ _
    | 1, _ => exact g2
    | 2, _ => exact .int _ _
    | 3, _ => exact k2
    | 4, _ => exact m2
theorem own : ownKnob Try.prog.godebug = none := by kernel_rfl
theorem laidOut : laidOutB Try.prog = true := by kernel_rfl
end Go.Proofs
