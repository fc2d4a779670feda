/- The texts S11, S12, S13, S14, S15, S16, joined. -/
import Derived.Test.YtfdnifofpkceiaaG8
set_option linter.all false
namespace Go.Proofs
open Go.Fs
set_option linter.unusedSimpArgs false
set_option linter.unusedVariables false
set_option maxHeartbeats 4000000
set_option maxRecDepth 8000
theorem ordered_call (w : WkS) (l : List Int) (h : ShOk w.s ∧ (∀ x ∈ l, idxOk w.s x) ∧ l.length ≤ 8) : CallP Try.prog 60 [Enc.enc w, Enc.enc l] (· = Enc.enc (sortS (spS w.s) l)) := by
  obtain ⟨hs, hl, hn⟩ := h
  have hm : ∀ K es st, mS w K es st = [.cells [.ref [.sl (w.s.stacks.map EncE.cs) .no, .int .i64 w.s.hands, .int .i64 w.s.rain.lo, .int .i64 w.s.rain.hi, .mpr w.ks (w.vs.map (AV.int .i64))] 0], .vec (es.map EncE.cs) 1 st, .cells [.fn (.func K) [] []]] := fun _ _ _ => rfl
  have hw : wkC w = [.sl (w.s.stacks.map EncE.cs) .no, .int .i64 w.s.hands, .int .i64 w.s.rain.lo, .int .i64 w.s.rain.hi, .mpr w.ks (w.vs.map (AV.int .i64))] := rfl
  by_cases h0 : l = []
  · subst h0
    have hc := CloneNil_call w
    rw [hw] at hc
    have e0 : sortS (spS w.s) [] = [] := rfl
    have s1 := sortNil .full 78 1 0 [.cells [.ref [.sl (w.s.stacks.map EncE.cs) .no, .int .i64 w.s.hands, .int .i64 w.s.rain.lo, .int .i64 w.s.rain.hi, .mpr w.ks (w.vs.map (AV.int .i64))] 0], .cells [.fn (.func 77) [] []]] (by simp) (by simp) (by simp [AV.bare, bel_ints, cs_arr, dep_arr, cs_int, cs_bool, cs_list, cs_sk, cs_sp, AtHead, Same, AllO, Begins, LtAll, headSt, tokz_nil, tokz_cons, tokz1, lk, dep_int, dep_bool, dep_list, dep_sk, dep_sp, memAt, bel_map, bel_mapF, bel_mapO, bel_undef, bel_int, bel_boolv, bel_nilp, bel_nilf, bel_ptr, bel_arr, bel_mp, bel_yld, bel_agg, bel_tup, bel_ref, bel_only, bel_mpr, bel_fn, bel_sl_nil, bel_sl_nilF, bel_sl_nilO, bel_sl_cons, bel_sl_app, belO_cells, belO_tok, belO_dead, belO_deferred, belO_map, belO_iter, belO_loop, bel_vec, bel_vp, belO_vecM, belO_vec]) (by simp [AV.bare, bel_ints, cs_arr, dep_arr, cs_int, cs_bool, cs_list, cs_sk, cs_sp, AtHead, Same, AllO, Begins, LtAll, headSt, tokz_nil, tokz_cons, tokz1, lk, dep_int, dep_bool, dep_list, dep_sk, dep_sp, memAt, bel_map, bel_mapF, bel_mapO, bel_undef, bel_int, bel_boolv, bel_nilp, bel_nilf, bel_ptr, bel_arr, bel_mp, bel_yld, bel_agg, bel_tup, bel_ref, bel_only, bel_mpr, bel_fn, bel_sl_nil, bel_sl_nilF, bel_sl_nilO, bel_sl_cons, bel_sl_app, belO_cells, belO_tok, belO_dead, belO_deferred, belO_map, belO_iter, belO_loop, bel_vec, bel_vp, belO_vecM, belO_vec, -List.map_map])
    have s2 := sortNil (.own 1) 78 2 0 [.cells [.ref [.sl (w.s.stacks.map EncE.cs) .no, .int .i64 w.s.hands, .int .i64 w.s.rain.lo, .int .i64 w.s.rain.hi, .mpr w.ks (w.vs.map (AV.int .i64))] 0], .tok 0 1, .cells [.fn (.func 77) [] []]] (by simp) (by simp) (by simp [AV.bare, bel_ints, cs_arr, dep_arr, cs_int, cs_bool, cs_list, cs_sk, cs_sp, AtHead, Same, AllO, Begins, LtAll, headSt, tokz_nil, tokz_cons, tokz1, lk, dep_int, dep_bool, dep_list, dep_sk, dep_sp, memAt, bel_map, bel_mapF, bel_mapO, bel_undef, bel_int, bel_boolv, bel_nilp, bel_nilf, bel_ptr, bel_arr, bel_mp, bel_yld, bel_agg, bel_tup, bel_ref, bel_only, bel_mpr, bel_fn, bel_sl_nil, bel_sl_nilF, bel_sl_nilO, bel_sl_cons, bel_sl_app, belO_cells, belO_tok, belO_dead, belO_deferred, belO_map, belO_iter, belO_loop, bel_vec, bel_vp, belO_vecM, belO_vec]) (by simp [AV.bare, bel_ints, cs_arr, dep_arr, cs_int, cs_bool, cs_list, cs_sk, cs_sp, AtHead, Same, AllO, Begins, LtAll, headSt, tokz_nil, tokz_cons, tokz1, lk, dep_int, dep_bool, dep_list, dep_sk, dep_sp, memAt, bel_map, bel_mapF, bel_mapO, bel_undef, bel_int, bel_boolv, bel_nilp, bel_nilf, bel_ptr, bel_arr, bel_mp, bel_yld, bel_agg, bel_tup, bel_ref, bel_only, bel_mpr, bel_fn, bel_sl_nil, bel_sl_nilF, bel_sl_nilO, bel_sl_cons, bel_sl_app, belO_cells, belO_tok, belO_dead, belO_deferred, belO_map, belO_iter, belO_loop, bel_vec, bel_vp, belO_vecM, belO_vec, -List.map_map])
    rw [e0]
    simp only [enc_fnl, enc_fnb, enc_fnc, enc_refc, enc_arr, enc_int, enc_bool, enc_list, enc_sk, enc_sp, enc_rg, enc_sh, enc_tr, enc_refs, enc_fns, enc_wks]
    refine callP_of_vc (Φ := P26) Try.func60 rfl (by rfl) (by rw [Try.ntmps60]; simp) mixed P26_ok (by simp [AV.strip, AV.strip1, Tk.strip]) ?_
    rw [Try.ntmps60]
    simp only [Try.f60, startSt, tmFrom]
    simp (maxSteps := 4000000) only [go_sem, AV.one, drawV, intsOf, keyIdx, over, putO, memAt, List.map_cons, List.length_cons, ↓reduceIte, zdrop, one_i, one_b, one_sl, one_ptr, one_ref, one_nilp, one_mp, one_fn, one_nilf]
    all_goals (repeat' (first | with_reducible rfl | with_reducible apply And.intro | ((with_reducible show drawOK _ _ = true); rfl))) <;> (try first | omega | (simp only [InR]; omega) | with_reducible assumption)
    refine ⟨_, hc, ?_⟩
    rintro r mem' (⟨rfl, rfl⟩ | ⟨rfl, rfl⟩) _
    · simp (maxSteps := 4000000) only [go_sem, AV.one, drawV, intsOf, keyIdx, over, putO, memAt, List.map_cons, List.length_cons, ↓reduceIte, zdrop, one_i, one_b, one_sl, one_ptr, one_ref, one_nilp, one_mp, one_fn, one_nilf]
      all_goals (repeat' (first | with_reducible rfl | with_reducible apply And.intro | ((with_reducible show drawOK _ _ = true); rfl))) <;> (try first | omega | (simp only [InR]; omega) | with_reducible assumption)
      exact ⟨_, s1⟩
    · simp (maxSteps := 4000000) only [go_sem, AV.one, drawV, intsOf, keyIdx, over, putO, memAt, List.map_cons, List.length_cons, ↓reduceIte, zdrop, one_i, one_b, one_sl, one_ptr, one_ref, one_nilp, one_mp, one_fn, one_nilf]
      all_goals (repeat' (first | with_reducible rfl | with_reducible apply And.intro | ((with_reducible show drawOK _ _ = true); rfl))) <;> (try first | omega | (simp only [InR]; omega) | with_reducible assumption)
      exact ⟨_, s2⟩
  · have hc := CloneX_call w l (by omega) h0
    have hd := sortStable_od w hs l hl hn 1
    rw [hw] at hc
    have hlen : (sortS (spS w.s) l).length = l.length := sortS_len _ _
    obtain ⟨S, hS⟩ : ∃ S, sortS (spS w.s) l = S := ⟨_, rfl⟩
    rw [hS] at hd hlen ⊢
    simp only [hm] at hd
    simp only [enc_fnl, enc_fnb, enc_fnc, enc_refc, enc_arr, enc_int, enc_bool, enc_list, enc_sk, enc_sp, enc_rg, enc_sh, enc_tr, enc_refs, enc_fns, enc_wks]
    refine callP_of_vc (Φ := P26) Try.func60 rfl (by rfl) (by rw [Try.ntmps60]; simp) mixed P26_ok (by simp [AV.strip, AV.strip1, Tk.strip]) ?_
    rw [Try.ntmps60]
    simp only [Try.f60, startSt, tmFrom]
    simp (maxSteps := 4000000) only [go_sem, AV.one, drawV, intsOf, keyIdx, over, putO, memAt, List.map_cons, List.length_cons, ↓reduceIte, zdrop, one_i, one_b, one_sl, one_ptr, one_ref, one_nilp, one_mp, one_fn, one_nilf]
    all_goals (repeat' (first | with_reducible rfl | with_reducible apply And.intro | ((with_reducible show drawOK _ _ = true); rfl))) <;> (try first | omega | (simp only [InR]; omega) | with_reducible assumption)
    refine ⟨_, hc, ?_⟩
    rintro r mem' ⟨rfl, rfl⟩ _
    simp (maxSteps := 4000000) only [go_sem, AV.one, drawV, intsOf, keyIdx, over, putO, memAt, List.map_cons, List.length_cons, ↓reduceIte, zdrop, one_i, one_b, one_sl, one_ptr, one_ref, one_nilp, one_mp, one_fn, one_nilf]
    all_goals (repeat' (first | with_reducible rfl | with_reducible apply And.intro | ((with_reducible show drawOK _ _ = true); rfl))) <;> (try first | omega | (simp only [InR]; omega) | with_reducible assumption)
    refine ⟨_, hd, ?_⟩
    rintro r mem' ⟨rfl, rfl⟩ _
    have htk : List.take l.length (S.map EncE.cs) = S.map EncE.cs := List.take_of_length_le (by simp [hlen])
    simp (maxSteps := 4000000) only [go_sem, AV.one, drawV, intsOf, keyIdx, over, putO, memAt, List.map_cons, List.length_cons, ↓reduceIte, zdrop, one_i, one_b, one_sl, one_ptr, one_ref, one_nilp, one_mp, one_fn, one_nilf, htk]
    all_goals (repeat' (first | with_reducible rfl | with_reducible apply And.intro | ((with_reducible show drawOK _ _ = true); rfl))) <;> (try first | omega | (simp only [InR]; omega) | with_reducible assumption)
end Go.Proofs
namespace Go.Proofs
open Go.Fs
set_option linter.unusedSimpArgs false
set_option linter.unusedVariables false
set_option maxHeartbeats 4000000
set_option maxRecDepth 8000
def P27 : Specs := addSpec 60 (spec2 (fun (w : WkS) (l : List Int) => ShOk w.s ∧ (∀ x ∈ l, idxOk w.s x) ∧ l.length ≤ 8) (fun w l => sortS (spS w.s) l)) (P26)
theorem P27_app (g : FuncId) : P27 g = (addSpec 60 (spec2 (fun (w : WkS) (l : List Int) => ShOk w.s ∧ (∀ x ∈ l, idxOk w.s x) ∧ l.length ≤ 8) (fun w l => sortS (spS w.s) l)) (P26)) g := rfl
theorem P27_ok : SpecsOk Try.prog P27 := addSpec_ok (spec2_ok ordered_call) (P26_ok)
attribute [go_sem] P27_app
theorem P27_flag (d : Option Nat) : flagOf P27 d = none := (flagOf_add (by decide) d).trans (P26_flag d)
attribute [go_sem] P27_flag
theorem fits_call (w : WkS) (l : List Int) (h : ShOk w.s ∧ (∀ x ∈ l, idxOk w.s x) ∧ l.length ≤ 8) : CallP Try.prog 59 [Enc.enc w, Enc.enc l] (· = Enc.enc (fitsB w.s.hands (spS w.s) (sortS (spS w.s) l))) := by
  obtain ⟨hs, hl, hn⟩ := h
  have h0 := hs.h0
  have hlen : (sortS (spS w.s) l).length = l.length := sortS_len _ _
  have hmem : ∀ x ∈ sortS (spS w.s) l, idxOk w.s x := fun x hx => hl x ((sortS_mem _ _ _).1 hx)
  obtain ⟨o, ho⟩ : ∃ o, sortS (spS w.s) l = o := ⟨_, rfl⟩
  rw [ho] at hlen hmem
  rw [ho]
  unfold fitsB
  simp only [enc_fnl, enc_fnb, enc_fnc, enc_refc, enc_arr, enc_int, enc_bool, enc_list, enc_sk, enc_sp, enc_rg, enc_sh, enc_tr, enc_refs, enc_fns, enc_wks]
  refine callP_of_vc (Φ := P27) Try.func59 rfl (by rfl) (by rw [Try.ntmps59]; simp) mixed P27_ok (by simp [AV.strip, AV.strip1, Tk.strip]) ?_
  rw [Try.ntmps59]
  simp only [Try.f59, startSt, tmFrom]
  simp (maxSteps := 4000000) only [go_sem, AV.one, drawV, intsOf, keyIdx, over, putO, memAt, List.map_cons, List.length_cons, ↓reduceIte, zdrop, one_i, one_b, one_sl, one_ptr, one_ref, one_nilp, one_mp, one_fn, one_nilf, ho]
  all_goals (repeat' (first | with_reducible rfl | with_reducible apply And.intro | ((with_reducible show drawOK _ _ = true); rfl))) <;> (try first | omega | (simp only [InR]; omega) | with_reducible assumption)
  refine loopN (o.length) [] [0, 4, 9, 10] (fun i => [(11, .int .i64 i)]) (fun _ m => m) (fun i => (List.range i).all (fun k => decide (w.s.hands ≠ 0) && decide ((k : Int) / w.s.hands < spS w.s (at_ o k))) = true) ?_ ?_ ?_ ?_
  · rfl
  · simp [AV.bare, bel_ints, cs_arr, dep_arr, cs_int, cs_bool, cs_list, cs_sk, cs_sp, AtHead, Same, AllO, Begins, LtAll, headSt, tokz_nil, tokz_cons, tokz1, lk, dep_int, dep_bool, dep_list, dep_sk, dep_sp, memAt, bel_map, bel_mapF, bel_mapO, bel_undef, bel_int, bel_boolv, bel_nilp, bel_nilf, bel_ptr, bel_arr, bel_mp, bel_yld, bel_agg, bel_tup, bel_ref, bel_only, bel_mpr, bel_fn, bel_sl_nil, bel_sl_nilF, bel_sl_nilO, bel_sl_cons, bel_sl_app, belO_cells, belO_tok, belO_dead, belO_deferred, belO_map, belO_iter, belO_loop, bel_vec, bel_vp, belO_vecM, belO_vec, -List.map_map]
  · intro i hi hI
    have hi' := Int.ofNat_lt.2 hi
    have hx := hmem _ (at_mem hi)
    have hsp := (hs.nat hx).1
    obtain ⟨hx1, hx2⟩ : 0 ≤ at_ o i ∧ at_ o i < w.s.stacks.length := hx
    cases c1 : decide (w.s.hands = 0)
    · have hne : decide (w.s.hands ≠ 0) = true := by simpa using c1
      have hH : 1 ≤ w.s.hands := by simp at c1; omega
      have hq0 : 0 ≤ (i : Int) / w.s.hands := Int.ediv_nonneg (by omega) (by omega)
      have hq1 : (i : Int) / w.s.hands ≤ i := Int.ediv_le_self _ (by omega)
      cases c2 : decide ((i : Int) / w.s.hands ≥ spS w.s (at_ o i))
      · simp (maxSteps := 4000000) only [go_sem, AV.one, drawV, intsOf, keyIdx, over, putO, memAt, List.map_cons, List.length_cons, ↓reduceIte, zdrop, one_i, one_b, one_sl, one_ptr, one_ref, one_nilp, one_mp, one_fn, one_nilf, getD_mapA hi, hi', c1, c2]
        all_goals (repeat' (first | with_reducible rfl | with_reducible apply And.intro | ((with_reducible show drawOK _ _ = true); rfl))) <;> (try first | omega | (simp only [InR]; omega) | with_reducible assumption)
        · have e : decide ((i : Int) / w.s.hands < spS w.s (at_ o i)) = true := by simp at c2 ⊢; omega
          refine nxt hi (by rw [range_all_succ, hI, hne, e]; rfl) ?_
          simp [AV.bare, bel_ints, cs_arr, dep_arr, cs_int, cs_bool, cs_list, cs_sk, cs_sp, AtHead, Same, AllO, Begins, LtAll, headSt, tokz_nil, tokz_cons, tokz1, lk, dep_int, dep_bool, dep_list, dep_sk, dep_sp, memAt, bel_map, bel_mapF, bel_mapO, bel_undef, bel_int, bel_boolv, bel_nilp, bel_nilf, bel_ptr, bel_arr, bel_mp, bel_yld, bel_agg, bel_tup, bel_ref, bel_only, bel_mpr, bel_fn, bel_sl_nil, bel_sl_nilF, bel_sl_nilO, bel_sl_cons, bel_sl_app, belO_cells, belO_tok, belO_dead, belO_deferred, belO_map, belO_iter, belO_loop, bel_vec, bel_vp, belO_vecM, belO_vec, -List.map_map]
      · simp (maxSteps := 4000000) only [go_sem, AV.one, drawV, intsOf, keyIdx, over, putO, memAt, List.map_cons, List.length_cons, ↓reduceIte, zdrop, one_i, one_b, one_sl, one_ptr, one_ref, one_nilp, one_mp, one_fn, one_nilf, getD_mapA hi, hi', c1, c2]
        all_goals (repeat' (first | with_reducible rfl | with_reducible apply And.intro | ((with_reducible show drawOK _ _ = true); rfl))) <;> (try first | omega | (simp only [InR]; omega) | with_reducible assumption)
        have e : decide ((i : Int) / w.s.hands < spS w.s (at_ o i)) = false := by simp at c2 ⊢; omega
        rw [range_all_false hi (p := fun k => decide (w.s.hands ≠ 0) && decide ((k : Int) / w.s.hands < spS w.s (at_ o k))) (by rw [e, Bool.and_false])]
    · simp (maxSteps := 4000000) only [go_sem, AV.one, drawV, intsOf, keyIdx, over, putO, memAt, List.map_cons, List.length_cons, ↓reduceIte, zdrop, one_i, one_b, one_sl, one_ptr, one_ref, one_nilp, one_mp, one_fn, one_nilf, getD_mapA hi, hi', c1]
      all_goals (repeat' (first | with_reducible rfl | with_reducible apply And.intro | ((with_reducible show drawOK _ _ = true); rfl))) <;> (try first | omega | (simp only [InR]; omega) | with_reducible assumption)
      have hne : decide (w.s.hands ≠ 0) = false := by simpa using c1
      rw [range_all_false hi (p := fun k => decide (w.s.hands ≠ 0) && decide ((k : Int) / w.s.hands < spS w.s (at_ o k))) (by rw [hne, Bool.false_and])]
  · intro hI
    simp (maxSteps := 4000000) only [go_sem, AV.one, drawV, intsOf, keyIdx, over, putO, memAt, List.map_cons, List.length_cons, ↓reduceIte, zdrop, one_i, one_b, one_sl, one_ptr, one_ref, one_nilp, one_mp, one_fn, one_nilf, Int.lt_irrefl]
    rw [hI]
end Go.Proofs
namespace Go.Proofs
open Go.Fs
set_option linter.unusedSimpArgs false
set_option linter.unusedVariables false
set_option maxHeartbeats 4000000
set_option maxRecDepth 8000
theorem Clone_call (l : List Int) (h : l.length ≤ 4096) : CallF Try.prog 58 [Enc.enc l] 1 (l.map EncE.cs) := by
  simp only [enc_fnl, enc_fnb, enc_fnc, enc_refc, enc_arr, enc_int, enc_bool, enc_list, enc_sk, enc_sp, enc_rg, enc_sh, enc_tr, enc_refs, enc_fns, enc_wks]
  refine callF_of_vc (Φ := P27) Try.func58 rfl (by rfl) (by rw [Try.ntmps58]; simp) mixed P27_ok (by simp [AV.strip, AV.strip1, Tk.strip]) (by decide) ?_
  rw [Try.ntmps58]
  simp only [Try.f58, startSt, tmFrom]
  simp (maxSteps := 4000000) only [go_sem, AV.one, drawV, intsOf, keyIdx, over, putO, memAt, List.map_cons, List.length_cons, ↓reduceIte, zdrop, one_i, one_b, one_sl, one_ptr, one_ref, one_nilp, one_mp, one_fn, one_nilf, frR]
  intro b hb
  cases b
  · simp (maxSteps := 4000000) only [go_sem, AV.one, drawV, intsOf, keyIdx, over, putO, memAt, List.map_cons, List.length_cons, ↓reduceIte, zdrop, one_i, one_b, one_sl, one_ptr, one_ref, one_nilp, one_mp, one_fn, one_nilf, frR]
    all_goals (repeat' (first | with_reducible rfl | with_reducible apply And.intro | ((with_reducible show drawOK _ _ = true); rfl))) <;> (try first | omega | (simp only [InR]; omega) | with_reducible assumption)
    simp [cs_int, AV.one]
  · have : l = [] := by simpa using hb
    subst this
    simp (maxSteps := 4000000) only [go_sem, AV.one, drawV, intsOf, keyIdx, over, putO, memAt, List.map_cons, List.length_cons, ↓reduceIte, zdrop, one_i, one_b, one_sl, one_ptr, one_ref, one_nilp, one_mp, one_fn, one_nilf, frR]
def P28 : Specs := addSpec 59 (spec2 (fun (w : WkS) (l : List Int) => ShOk w.s ∧ (∀ x ∈ l, idxOk w.s x) ∧ l.length ≤ 8) (fun w l => fitsB w.s.hands (spS w.s) (sortS (spS w.s) l))) (addSpec 58 (specF1 (fun l : List Int => l.length ≤ 4096) (fun l => l)) (P27))
theorem P28_app (g : FuncId) : P28 g = (addSpec 59 (spec2 (fun (w : WkS) (l : List Int) => ShOk w.s ∧ (∀ x ∈ l, idxOk w.s x) ∧ l.length ≤ 8) (fun w l => fitsB w.s.hands (spS w.s) (sortS (spS w.s) l))) (addSpec 58 (specF1 (fun l : List Int => l.length ≤ 4096) (fun l => l)) (P27))) g := rfl
theorem P28_ok : SpecsOk Try.prog P28 := addSpec_ok (spec2_ok fits_call) (addSpec_ok (specF1_ok Clone_call) (P27_ok))
attribute [go_sem] P28_app
theorem P28_flag (d : Option Nat) : flagOf P28 d = none := (flagOf_add (by decide) d).trans ((flagOf_add (by decide) d).trans (P27_flag d))
attribute [go_sem] P28_flag
def planN (H : Int) (o : List Int) (n k : Nat) : List Int := (List.range k).foldl (fun p k => p.set (at_ o k).toNat ((k : Int) / H)) (List.replicate n (-1))
theorem planN_len (H : Int) (o : List Int) (n : Nat) : ∀ k, (planN H o n k).length = n
  | 0 => by simp [planN]
  | k + 1 => by
    have := planN_len H o n k
    unfold planN at *
    rw [List.range_succ, List.foldl_append]
    simpa using this
theorem planN_succ (H : Int) (o : List Int) (n k : Nat) : planN H o n (k + 1) = (planN H o n k).set (at_ o k).toNat ((k : Int) / H) := by
  unfold planN; rw [List.range_succ, List.foldl_append]; rfl
def bestS (s : Sh) : List Int := planN s.hands (sortS (spS s) (keptS s)) s.stacks.length (sortS (spS s) (keptS s)).length
theorem repCells_ints : ∀ n, repCells [AV.int .i64 0] n = (List.replicate n (0 : Int)).map (AV.int .i64)
  | 0 => rfl
  | n + 1 => by simp only [repCells, repCells_ints n, List.replicate_succ, List.map_cons]; rfl
theorem rep_set {n i : Nat} (hi : i < n) : (List.replicate i (-1 : Int) ++ List.replicate (n - i) 0).set i (-1) = List.replicate (i + 1) (-1) ++ List.replicate (n - (i + 1)) 0 := by
  have e : n - i = (n - (i + 1)) + 1 := by omega
  rw [List.set_append_right _ _ (by simp), e, List.replicate_succ]
  simp [List.replicate_succ']
theorem kept_hands {s : Sh} (h : ShOk s) (hne : keptS s ≠ []) : 1 ≤ s.hands := by
  obtain ⟨_, h2, h3, _⟩ := kept_spec h
  obtain ⟨x, hx⟩ := List.exists_mem_of_ne_nil _ hne
  have hr := h2 x hx
  have hsp := (h.nat hr).1
  obtain ⟨k, rfl⟩ := Int.eq_ofNat_of_zero_le hr.1
  have h4 := h3 18 (Nat.le_refl _)
  have h5 := cnt_pos (n := s.stacks.length) (i := k) (p := fun i => memB (keptS s) i && decide (spS s i ≤ ((18 : Nat) : Int))) (by omega) (by
    simp only [Bool.and_eq_true, decide_eq_true_eq]
    exact ⟨(memB_iff _ _).2 hx, by omega⟩)
  by_cases c : s.hands ≤ 0
  · have := h.h0
    have e : s.hands = 0 := by omega
    rw [e] at h4
    exact absurd (Int.le_trans h5 h4) (by simp)
  · omega
theorem rep_len (i n : Nat) (h : i ≤ n) : (List.replicate i (-1 : Int) ++ List.replicate (n - i) 0).length = n := by simp; omega
theorem best_call (w : WkS) (hs : ShOk w.s) : CallP Try.prog 34 [Enc.enc w] (· = Enc.enc (bestS w.s)) := by
  have h8 := hs.len
  have h0 := hs.h0
  have hkh := kept_hands hs
  obtain ⟨hv, hhv⟩ : ∃ hv, heavyS w.s = hv := ⟨_, rfl⟩
  have hvm : ∀ x ∈ hv, idxOk w.s x := fun x hx => (mem_heavy _ _).1 (by rw [hhv]; exact hx)
  have hvl : hv.length = w.s.stacks.length := by rw [← hhv]; unfold heavyS; rw [sortS_len, rangeI_len]
  have hk := kept_spec hs
  unfold bestS
  obtain ⟨K0, hK0⟩ : ∃ K0, keptS w.s = K0 := ⟨_, rfl⟩
  have hK0' : greedyL w.s.hands (spS w.s) (chS w.s) hv [] = K0 := by rw [← hK0, ← hhv]; rfl
  rw [hK0] at hk hkh ⊢
  have hK0m : ∀ x ∈ K0, idxOk w.s x := hk.2.1
  obtain ⟨o, ho⟩ : ∃ o, sortS (spS w.s) K0 = o := ⟨_, rfl⟩
  have hom : ∀ x ∈ o, idxOk w.s x := fun x hx => hK0m x (by rw [← ho] at hx; exact (sortS_mem _ _ _).1 hx)
  have hol : o.length = K0.length := by rw [← ho, sortS_len]
  rw [ho]
  obtain ⟨n, hn⟩ : ∃ n, w.s.stacks.length = n := ⟨_, rfl⟩
  rw [hn] at h8 hvl
  rw [hn]
  have hrep : (repCells [AV.int .i64 0] n) = (List.replicate n (0 : Int)).map (AV.int .i64) := repCells_ints n
  simp only [enc_fnl, enc_fnb, enc_fnc, enc_refc, enc_arr, enc_int, enc_bool, enc_list, enc_sk, enc_sp, enc_rg, enc_sh, enc_tr, enc_refs, enc_fns, enc_wks]
  refine callP_of_vc (Φ := P28) Try.func34 rfl (by rfl) (by rw [Try.ntmps34]; simp) mixed P28_ok (by simp [AV.strip, AV.strip1, Tk.strip]) ?_
  rw [Try.ntmps34]
  simp only [Try.f34, startSt, tmFrom]
  simp (maxSteps := 4000000) only [go_sem, AV.one, drawV, intsOf, keyIdx, over, putO, memAt, List.map_cons, List.length_cons, ↓reduceIte, zdrop, one_i, one_b, one_sl, one_ptr, one_ref, one_nilp, one_mp, one_fn, one_nilf, hhv, hn]
  all_goals (repeat' (first | with_reducible rfl | with_reducible apply And.intro | ((with_reducible show drawOK _ _ = true); rfl))) <;> (try first | omega | (simp only [InR]; omega) | with_reducible assumption)
  refine loopB [] [0, 2, 12, 13] (fun b : Nat × List Int => [(14, .int .i64 b.1), (3, .sl (b.2.map EncE.cs) .no)]) (fun b m => m) (fun b => (b.1 ≤ hv.length ∧ b.2.length ≤ b.1 ∧ ∀ x ∈ b.2, idxOk w.s x) ∧ greedyL w.s.hands (spS w.s) (chS w.s) (hv.drop b.1) b.2 = K0) (fun b => hv.length - b.1) (((0, []) : Nat × List Int)) ?_ ?_ ?_
  · exact ⟨⟨Nat.zero_le _, Nat.le_refl _, fun x hx => by cases hx⟩, by simpa using hK0'⟩
  · simp [AV.bare, bel_ints, cs_arr, dep_arr, cs_int, cs_bool, cs_list, cs_sk, cs_sp, AtHead, Same, AllO, Begins, LtAll, headSt, tokz_nil, tokz_cons, tokz1, lk, dep_int, dep_bool, dep_list, dep_sk, dep_sp, memAt, bel_map, bel_mapF, bel_mapO, bel_undef, bel_int, bel_boolv, bel_nilp, bel_nilf, bel_ptr, bel_arr, bel_mp, bel_yld, bel_agg, bel_tup, bel_ref, bel_only, bel_mpr, bel_fn, bel_sl_nil, bel_sl_nilF, bel_sl_nilO, bel_sl_cons, bel_sl_app, belO_cells, belO_tok, belO_dead, belO_deferred, belO_map, belO_iter, belO_loop, bel_vec, bel_vp, belO_vecM, belO_vec, -List.map_map]
  · rintro ⟨i, K⟩ ⟨⟨hi0, hKl, hKm⟩, hG⟩
    simp only at hi0 hKl hKm hG
    by_cases hi : i < hv.length
    · have hx := hvm _ (at_mem hi)
      have hi' := Int.ofNat_lt.2 hi
      rw [drop_at hi] at hG
      obtain ⟨x, hxe⟩ : ∃ x, at_ hv i = x := ⟨_, rfl⟩
      rw [hxe] at hx hG
      obtain ⟨k, rfl⟩ := Int.eq_ofNat_of_zero_le hx.1
      have hk2 : k < w.s.stacks.length := by have := hx.2; omega
      rw [show greedyL w.s.hands (spS w.s) (chS w.s) ((k : Int) :: hv.drop (i + 1)) K = if chS w.s k = 0 then K else greedyL w.s.hands (spS w.s) (chS w.s) (hv.drop (i + 1)) (if fitsB w.s.hands (spS w.s) (sortS (spS w.s) (K ++ [(k : Int)])) = true then K ++ [(k : Int)] else K) from rfl, ch_at] at hG
      have hKm2 : ∀ x ∈ K ++ [(k : Int)], idxOk w.s x := fun x hx' => by
        rcases List.mem_append.1 hx' with q | q
        · exact hKm x q
        · simp at q; rw [q]; exact hx
      have hKl8 : (K ++ [(k : Int)]).length ≤ 8 := by simp; omega
      cases c1 : decide ((at_ w.s.stacks k).chairs = 0)
      · have c1' : ¬ (at_ w.s.stacks k).chairs = 0 := by simpa using c1
        rw [if_neg c1'] at hG
        cases c2 : fitsB w.s.hands (spS w.s) (sortS (spS w.s) (K ++ [(k : Int)]))
        all_goals
          simp (maxSteps := 4000000) only [go_sem, AV.one, drawV, intsOf, keyIdx, over, putO, memAt, List.map_cons, List.length_cons, ↓reduceIte, zdrop, one_i, one_b, one_sl, one_ptr, one_ref, one_nilp, one_mp, one_fn, one_nilf, hi', hn, getD_mapA hi, hxe, getD_mapA hk2, c1, c2]
          all_goals (repeat' (first | with_reducible rfl | with_reducible apply And.intro | ((with_reducible show drawOK _ _ = true); rfl))) <;> (try first | omega | (simp only [InR]; omega) | with_reducible assumption)
        · refine ⟨(i + 1, K), ⟨⟨by dsimp only; omega, by dsimp only; omega, hKm⟩, ?_⟩, by dsimp only; omega, atHead_weak ?_⟩
          · rw [c2] at hG; simpa using hG
          · simp [AV.bare, bel_ints, cs_arr, dep_arr, cs_int, cs_bool, cs_list, cs_sk, cs_sp, AtHead, Same, AllO, Begins, LtAll, headSt, tokz_nil, tokz_cons, tokz1, lk, dep_int, dep_bool, dep_list, dep_sk, dep_sp, memAt, bel_map, bel_mapF, bel_mapO, bel_undef, bel_int, bel_boolv, bel_nilp, bel_nilf, bel_ptr, bel_arr, bel_mp, bel_yld, bel_agg, bel_tup, bel_ref, bel_only, bel_mpr, bel_fn, bel_sl_nil, bel_sl_nilF, bel_sl_nilO, bel_sl_cons, bel_sl_app, belO_cells, belO_tok, belO_dead, belO_deferred, belO_map, belO_iter, belO_loop, bel_vec, bel_vp, belO_vecM, belO_vec, -List.map_map]
        · refine ⟨(i + 1, K ++ [(k : Int)]), ⟨⟨by dsimp only; omega, by simp; omega, hKm2⟩, ?_⟩, by dsimp only; omega, atHead_weak ?_⟩
          · rw [c2] at hG; simpa using hG
          · simp [AV.bare, bel_ints, cs_arr, dep_arr, cs_int, cs_bool, cs_list, cs_sk, cs_sp, AtHead, Same, AllO, Begins, LtAll, headSt, tokz_nil, tokz_cons, tokz1, lk, dep_int, dep_bool, dep_list, dep_sk, dep_sp, memAt, bel_map, bel_mapF, bel_mapO, bel_undef, bel_int, bel_boolv, bel_nilp, bel_nilf, bel_ptr, bel_arr, bel_mp, bel_yld, bel_agg, bel_tup, bel_ref, bel_only, bel_mpr, bel_fn, bel_sl_nil, bel_sl_nilF, bel_sl_nilO, bel_sl_cons, bel_sl_app, belO_cells, belO_tok, belO_dead, belO_deferred, belO_map, belO_iter, belO_loop, bel_vec, bel_vp, belO_vecM, belO_vec, -List.map_map]
      · have c1' : (at_ w.s.stacks k).chairs = 0 := by simpa using c1
        rw [if_pos c1'] at hG
        simp (maxSteps := 4000000) only [go_sem, AV.one, drawV, intsOf, keyIdx, over, putO, memAt, List.map_cons, List.length_cons, ↓reduceIte, zdrop, one_i, one_b, one_sl, one_ptr, one_ref, one_nilp, one_mp, one_fn, one_nilf, hi', hn, hrep, getD_mapA hi, hxe, getD_mapA hk2, c1]
        all_goals (repeat' (first | with_reducible rfl | with_reducible apply And.intro | ((with_reducible show drawOK _ _ = true); rfl))) <;> (try first | omega | (simp only [InR]; omega) | with_reducible assumption)
        subst hG
        refine loopN (n) [] [0, 2, 3, 7, 46] (fun i => [(47, .int .i64 i)]) (fun i m => m.set 0 (.cells ((List.replicate i (-1) ++ List.replicate (n - i) 0).map (AV.int .i64)))) (fun _ => True) ?_ ?_ ?_ ?_
        · trivial
        · simp [AV.bare, bel_ints, cs_arr, dep_arr, cs_int, cs_bool, cs_list, cs_sk, cs_sp, AtHead, Same, AllO, Begins, LtAll, headSt, tokz_nil, tokz_cons, tokz1, lk, dep_int, dep_bool, dep_list, dep_sk, dep_sp, memAt, bel_map, bel_mapF, bel_mapO, bel_undef, bel_int, bel_boolv, bel_nilp, bel_nilf, bel_ptr, bel_arr, bel_mp, bel_yld, bel_agg, bel_tup, bel_ref, bel_only, bel_mpr, bel_fn, bel_sl_nil, bel_sl_nilF, bel_sl_nilO, bel_sl_cons, bel_sl_app, belO_cells, belO_tok, belO_dead, belO_deferred, belO_map, belO_iter, belO_loop, bel_vec, bel_vp, belO_vecM, belO_vec, hrep]
        · intro i hi _
          have hi' := Int.ofNat_lt.2 hi
          have hll := rep_len i n (by omega)
          have hov := over_ints (l := List.replicate i (-1) ++ List.replicate (n - i) 0) (i := i) (by omega) (-1)
          have hst := rep_set (n := n) hi
          obtain ⟨L, hL⟩ : ∃ L, List.replicate i (-1) ++ List.replicate (n - i) (0 : Int) = L := ⟨_, rfl⟩
          rw [hL] at hll hov hst
          rw [hL]
          obtain ⟨L2, hL2⟩ : ∃ L2, List.replicate (i + 1) (-1) ++ List.replicate (n - (i + 1)) (0 : Int) = L2 := ⟨_, rfl⟩
          rw [hL2] at hst
          simp (maxSteps := 4000000) only [go_sem, drawV, intsOf, keyIdx, putO, memAt, List.map_cons, List.length_cons, ↓reduceIte, zdrop, one_i, one_b, one_sl, one_ptr, one_ref, one_nilp, one_mp, one_fn, one_nilf, hi', hov, hst, hll, one_ints]
          all_goals (repeat' (first | with_reducible rfl | with_reducible apply And.intro | ((with_reducible show drawOK _ _ = true); rfl))) <;> (try first | omega | (simp only [InR]; omega) | with_reducible assumption)
          refine nxt hi trivial ?_
          rw [hL2]
          simp [AV.bare, bel_ints, cs_arr, dep_arr, cs_int, cs_bool, cs_list, cs_sk, cs_sp, AtHead, Same, AllO, Begins, LtAll, headSt, tokz_nil, tokz_cons, tokz1, lk, dep_int, dep_bool, dep_list, dep_sk, dep_sp, memAt, bel_map, bel_mapF, bel_mapO, bel_undef, bel_int, bel_boolv, bel_nilp, bel_nilf, bel_ptr, bel_arr, bel_mp, bel_yld, bel_agg, bel_tup, bel_ref, bel_only, bel_mpr, bel_fn, bel_sl_nil, bel_sl_nilF, bel_sl_nilO, bel_sl_cons, bel_sl_app, belO_cells, belO_tok, belO_dead, belO_deferred, belO_map, belO_iter, belO_loop, bel_vec, bel_vp, belO_vecM, belO_vec]
        · intro _
          have hrn : List.replicate n (-1) ++ List.replicate (n - n) (0 : Int) = planN w.s.hands o n 0 := by simp [planN]
          rw [hrn]
          have hpl := planN_len w.s.hands o n
          simp (maxSteps := 4000000) only [go_sem, AV.one, drawV, intsOf, keyIdx, over, putO, memAt, List.map_cons, List.length_cons, ↓reduceIte, zdrop, one_i, one_b, one_sl, one_ptr, one_ref, one_nilp, one_mp, one_fn, one_nilf, Int.lt_irrefl, ho]
          all_goals (repeat' (first | with_reducible rfl | with_reducible apply And.intro | ((with_reducible show drawOK _ _ = true); rfl))) <;> (try first | omega | (simp only [InR]; omega) | with_reducible assumption)
          refine loopN (o.length) [] [0, 2, 7, 56, 57] (fun k => [(58, .int .i64 k)]) (fun k m => m.set 0 (.cells ((planN w.s.hands o n k).map (AV.int .i64)))) (fun _ => True) ?_ ?_ ?_ ?_
          · trivial
          · simp [AV.bare, bel_ints, cs_arr, dep_arr, cs_int, cs_bool, cs_list, cs_sk, cs_sp, AtHead, Same, AllO, Begins, LtAll, headSt, tokz_nil, tokz_cons, tokz1, lk, dep_int, dep_bool, dep_list, dep_sk, dep_sp, memAt, bel_map, bel_mapF, bel_mapO, bel_undef, bel_int, bel_boolv, bel_nilp, bel_nilf, bel_ptr, bel_arr, bel_mp, bel_yld, bel_agg, bel_tup, bel_ref, bel_only, bel_mpr, bel_fn, bel_sl_nil, bel_sl_nilF, bel_sl_nilO, bel_sl_cons, bel_sl_app, belO_cells, belO_tok, belO_dead, belO_deferred, belO_map, belO_iter, belO_loop, bel_vec, bel_vp, belO_vecM, belO_vec]
          · intro j hj _
            have hj' := Int.ofNat_lt.2 hj
            have hpj := hpl j
            have hx := hom _ (at_mem hj)
            have hH : 1 ≤ w.s.hands := hkh (fun e => by rw [e] at hol; simp at hol; rw [hol] at hj; simp at hj)
            have hq0 : 0 ≤ (j : Int) / w.s.hands := Int.ediv_nonneg (by omega) (by omega)
            have hq1 : (j : Int) / w.s.hands ≤ j := Int.ediv_le_self _ (by omega)
            obtain ⟨x, hxe⟩ : ∃ x, at_ o j = x := ⟨_, rfl⟩
            rw [hxe] at hx
            obtain ⟨k2, rfl⟩ := Int.eq_ofNat_of_zero_le hx.1
            have hk2 : k2 < n := by have := hx.2; omega
            have hov := over_ints (l := planN w.s.hands o n j) (i := k2) (by omega) ((j : Int) / w.s.hands)
            have hsu := planN_succ w.s.hands o n j
            rw [hxe, Int.toNat_natCast] at hsu
            rw [← hsu] at hov
            simp (maxSteps := 4000000) only [go_sem, drawV, intsOf, keyIdx, putO, memAt, List.map_cons, List.length_cons, ↓reduceIte, zdrop, one_i, one_b, one_sl, one_ptr, one_ref, one_nilp, one_mp, one_fn, one_nilf, hj', hov, hpj, hxe, getD_mapA hj, one_ints]
            all_goals (repeat' (first | with_reducible rfl | with_reducible apply And.intro | ((with_reducible show drawOK _ _ = true); rfl))) <;> (try first | omega | (simp only [InR]; omega) | with_reducible assumption)
            refine nxt hj trivial ?_
            simp [AV.bare, bel_ints, cs_arr, dep_arr, cs_int, cs_bool, cs_list, cs_sk, cs_sp, AtHead, Same, AllO, Begins, LtAll, headSt, tokz_nil, tokz_cons, tokz1, lk, dep_int, dep_bool, dep_list, dep_sk, dep_sp, memAt, bel_map, bel_mapF, bel_mapO, bel_undef, bel_int, bel_boolv, bel_nilp, bel_nilf, bel_ptr, bel_arr, bel_mp, bel_yld, bel_agg, bel_tup, bel_ref, bel_only, bel_mpr, bel_fn, bel_sl_nil, bel_sl_nilF, bel_sl_nilO, bel_sl_cons, bel_sl_app, belO_cells, belO_tok, belO_dead, belO_deferred, belO_map, belO_iter, belO_loop, bel_vec, bel_vp, belO_vecM, belO_vec]
          · intro _
            simp (maxSteps := 4000000) only [go_sem, AV.one, drawV, intsOf, keyIdx, over, putO, memAt, List.map_cons, List.length_cons, ↓reduceIte, zdrop, one_i, one_b, one_sl, one_ptr, one_ref, one_nilp, one_mp, one_fn, one_nilf, Int.lt_irrefl, hpl, chunks_ints]
            all_goals (repeat' (first | with_reducible rfl | with_reducible apply And.intro | ((with_reducible show drawOK _ _ = true); rfl))) <;> (try first | omega | (simp only [InR]; omega) | with_reducible assumption)
    · have hie : i = hv.length := by omega
      have hKK : K = K0 := by rw [hie, List.drop_eq_nil_of_le (Nat.le_refl _)] at hG; exact hG
      have hi' : ¬ ((i : Int) < (hv.length : Int)) := by omega
      subst hKK
      simp (maxSteps := 4000000) only [go_sem, AV.one, drawV, intsOf, keyIdx, over, putO, memAt, List.map_cons, List.length_cons, ↓reduceIte, zdrop, one_i, one_b, one_sl, one_ptr, one_ref, one_nilp, one_mp, one_fn, one_nilf, hi', hn, hrep]
      all_goals (repeat' (first | with_reducible rfl | with_reducible apply And.intro | ((with_reducible show drawOK _ _ = true); rfl))) <;> (try first | omega | (simp only [InR]; omega) | with_reducible assumption)
      refine loopN (n) [] [0, 2, 3, 7, 46] (fun i => [(47, .int .i64 i)]) (fun i m => m.set 0 (.cells ((List.replicate i (-1) ++ List.replicate (n - i) 0).map (AV.int .i64)))) (fun _ => True) ?_ ?_ ?_ ?_
      · trivial
      · simp [AV.bare, bel_ints, cs_arr, dep_arr, cs_int, cs_bool, cs_list, cs_sk, cs_sp, AtHead, Same, AllO, Begins, LtAll, headSt, tokz_nil, tokz_cons, tokz1, lk, dep_int, dep_bool, dep_list, dep_sk, dep_sp, memAt, bel_map, bel_mapF, bel_mapO, bel_undef, bel_int, bel_boolv, bel_nilp, bel_nilf, bel_ptr, bel_arr, bel_mp, bel_yld, bel_agg, bel_tup, bel_ref, bel_only, bel_mpr, bel_fn, bel_sl_nil, bel_sl_nilF, bel_sl_nilO, bel_sl_cons, bel_sl_app, belO_cells, belO_tok, belO_dead, belO_deferred, belO_map, belO_iter, belO_loop, bel_vec, bel_vp, belO_vecM, belO_vec, hrep]
      · intro i hi _
        have hi' := Int.ofNat_lt.2 hi
        have hll := rep_len i n (by omega)
        have hov := over_ints (l := List.replicate i (-1) ++ List.replicate (n - i) 0) (i := i) (by omega) (-1)
        have hst := rep_set (n := n) hi
        obtain ⟨L, hL⟩ : ∃ L, List.replicate i (-1) ++ List.replicate (n - i) (0 : Int) = L := ⟨_, rfl⟩
        rw [hL] at hll hov hst
        rw [hL]
        obtain ⟨L2, hL2⟩ : ∃ L2, List.replicate (i + 1) (-1) ++ List.replicate (n - (i + 1)) (0 : Int) = L2 := ⟨_, rfl⟩
        rw [hL2] at hst
        simp (maxSteps := 4000000) only [go_sem, drawV, intsOf, keyIdx, putO, memAt, List.map_cons, List.length_cons, ↓reduceIte, zdrop, one_i, one_b, one_sl, one_ptr, one_ref, one_nilp, one_mp, one_fn, one_nilf, hi', hov, hst, hll, one_ints]
        all_goals (repeat' (first | with_reducible rfl | with_reducible apply And.intro | ((with_reducible show drawOK _ _ = true); rfl))) <;> (try first | omega | (simp only [InR]; omega) | with_reducible assumption)
        refine nxt hi trivial ?_
        rw [hL2]
        simp [AV.bare, bel_ints, cs_arr, dep_arr, cs_int, cs_bool, cs_list, cs_sk, cs_sp, AtHead, Same, AllO, Begins, LtAll, headSt, tokz_nil, tokz_cons, tokz1, lk, dep_int, dep_bool, dep_list, dep_sk, dep_sp, memAt, bel_map, bel_mapF, bel_mapO, bel_undef, bel_int, bel_boolv, bel_nilp, bel_nilf, bel_ptr, bel_arr, bel_mp, bel_yld, bel_agg, bel_tup, bel_ref, bel_only, bel_mpr, bel_fn, bel_sl_nil, bel_sl_nilF, bel_sl_nilO, bel_sl_cons, bel_sl_app, belO_cells, belO_tok, belO_dead, belO_deferred, belO_map, belO_iter, belO_loop, bel_vec, bel_vp, belO_vecM, belO_vec]
      · intro _
        have hrn : List.replicate n (-1) ++ List.replicate (n - n) (0 : Int) = planN w.s.hands o n 0 := by simp [planN]
        rw [hrn]
        have hpl := planN_len w.s.hands o n
        simp (maxSteps := 4000000) only [go_sem, AV.one, drawV, intsOf, keyIdx, over, putO, memAt, List.map_cons, List.length_cons, ↓reduceIte, zdrop, one_i, one_b, one_sl, one_ptr, one_ref, one_nilp, one_mp, one_fn, one_nilf, Int.lt_irrefl, ho]
        all_goals (repeat' (first | with_reducible rfl | with_reducible apply And.intro | ((with_reducible show drawOK _ _ = true); rfl))) <;> (try first | omega | (simp only [InR]; omega) | with_reducible assumption)
        refine loopN (o.length) [] [0, 2, 7, 56, 57] (fun k => [(58, .int .i64 k)]) (fun k m => m.set 0 (.cells ((planN w.s.hands o n k).map (AV.int .i64)))) (fun _ => True) ?_ ?_ ?_ ?_
        · trivial
        · simp [AV.bare, bel_ints, cs_arr, dep_arr, cs_int, cs_bool, cs_list, cs_sk, cs_sp, AtHead, Same, AllO, Begins, LtAll, headSt, tokz_nil, tokz_cons, tokz1, lk, dep_int, dep_bool, dep_list, dep_sk, dep_sp, memAt, bel_map, bel_mapF, bel_mapO, bel_undef, bel_int, bel_boolv, bel_nilp, bel_nilf, bel_ptr, bel_arr, bel_mp, bel_yld, bel_agg, bel_tup, bel_ref, bel_only, bel_mpr, bel_fn, bel_sl_nil, bel_sl_nilF, bel_sl_nilO, bel_sl_cons, bel_sl_app, belO_cells, belO_tok, belO_dead, belO_deferred, belO_map, belO_iter, belO_loop, bel_vec, bel_vp, belO_vecM, belO_vec]
        · intro j hj _
          have hj' := Int.ofNat_lt.2 hj
          have hpj := hpl j
          have hx := hom _ (at_mem hj)
          have hH : 1 ≤ w.s.hands := hkh (fun e => by rw [e] at hol; simp at hol; rw [hol] at hj; simp at hj)
          have hq0 : 0 ≤ (j : Int) / w.s.hands := Int.ediv_nonneg (by omega) (by omega)
          have hq1 : (j : Int) / w.s.hands ≤ j := Int.ediv_le_self _ (by omega)
          obtain ⟨x, hxe⟩ : ∃ x, at_ o j = x := ⟨_, rfl⟩
          rw [hxe] at hx
          obtain ⟨k2, rfl⟩ := Int.eq_ofNat_of_zero_le hx.1
          have hk2 : k2 < n := by have := hx.2; omega
          have hov := over_ints (l := planN w.s.hands o n j) (i := k2) (by omega) ((j : Int) / w.s.hands)
          have hsu := planN_succ w.s.hands o n j
          rw [hxe, Int.toNat_natCast] at hsu
          rw [← hsu] at hov
          simp (maxSteps := 4000000) only [go_sem, drawV, intsOf, keyIdx, putO, memAt, List.map_cons, List.length_cons, ↓reduceIte, zdrop, one_i, one_b, one_sl, one_ptr, one_ref, one_nilp, one_mp, one_fn, one_nilf, hj', hov, hpj, hxe, getD_mapA hj, one_ints]
          all_goals (repeat' (first | with_reducible rfl | with_reducible apply And.intro | ((with_reducible show drawOK _ _ = true); rfl))) <;> (try first | omega | (simp only [InR]; omega) | with_reducible assumption)
          refine nxt hj trivial ?_
          simp [AV.bare, bel_ints, cs_arr, dep_arr, cs_int, cs_bool, cs_list, cs_sk, cs_sp, AtHead, Same, AllO, Begins, LtAll, headSt, tokz_nil, tokz_cons, tokz1, lk, dep_int, dep_bool, dep_list, dep_sk, dep_sp, memAt, bel_map, bel_mapF, bel_mapO, bel_undef, bel_int, bel_boolv, bel_nilp, bel_nilf, bel_ptr, bel_arr, bel_mp, bel_yld, bel_agg, bel_tup, bel_ref, bel_only, bel_mpr, bel_fn, bel_sl_nil, bel_sl_nilF, bel_sl_nilO, bel_sl_cons, bel_sl_app, belO_cells, belO_tok, belO_dead, belO_deferred, belO_map, belO_iter, belO_loop, bel_vec, bel_vp, belO_vecM, belO_vec]
        · intro _
          simp (maxSteps := 4000000) only [go_sem, AV.one, drawV, intsOf, keyIdx, over, putO, memAt, List.map_cons, List.length_cons, ↓reduceIte, zdrop, one_i, one_b, one_sl, one_ptr, one_ref, one_nilp, one_mp, one_fn, one_nilf, Int.lt_irrefl, hpl, chunks_ints]
          all_goals (repeat' (first | with_reducible rfl | with_reducible apply And.intro | ((with_reducible show drawOK _ _ = true); rfl))) <;> (try first | omega | (simp only [InR]; omega) | with_reducible assumption)
end Go.Proofs
namespace Go.Proofs
open Go.Fs
set_option linter.unusedSimpArgs false
set_option linter.unusedVariables false
set_option maxHeartbeats 4000000
set_option maxRecDepth 8000
def P29 : Specs := addSpec 34 (spec1 (fun w : WkS => ShOk w.s) (fun w => bestS w.s)) (P28)
theorem P29_app (g : FuncId) : P29 g = (addSpec 34 (spec1 (fun w : WkS => ShOk w.s) (fun w => bestS w.s)) (P28)) g := rfl
theorem P29_ok : SpecsOk Try.prog P29 := addSpec_ok (spec1_ok best_call) (P28_ok)
attribute [go_sem] P29_app
theorem P29_flag (d : Option Nat) : flagOf P29 d = none := (flagOf_add (by decide) d).trans (P28_flag d)
attribute [go_sem] P29_flag
theorem work_call (s : Sh) : CallP Try.prog 33 [Enc.enc s] (· = Enc.enc (WkS.mk s [] [])) := by
  simp only [enc_fnl, enc_fnb, enc_fnc, enc_refc, enc_arr, enc_int, enc_bool, enc_list, enc_sk, enc_sp, enc_rg, enc_sh, enc_tr, enc_refs, enc_fns, enc_wks]
  refine callP_of_vc (Φ := P29) Try.func33 rfl (by rfl) (by rw [Try.ntmps33]; simp) mixed P29_ok (by simp [AV.strip, AV.strip1, Tk.strip]) ?_
  rw [Try.ntmps33]
  simp only [Try.f33, startSt, tmFrom]
  simp (maxSteps := 4000000) only [go_sem, AV.one, drawV, intsOf, keyIdx, over, putO, memAt, List.map_cons, List.length_cons, ↓reduceIte, zdrop, one_i, one_b, one_sl, one_ptr, one_ref, one_nilp, one_mp, one_fn, one_nilf]
def P30 : Specs := addSpec 33 (spec1 (fun _ : Sh => True) (fun s => WkS.mk s [] [])) (P29)
theorem P30_app (g : FuncId) : P30 g = (addSpec 33 (spec1 (fun _ : Sh => True) (fun s => WkS.mk s [] [])) (P29)) g := rfl
theorem P30_ok : SpecsOk Try.prog P30 := addSpec_ok (spec1_ok fun s _ => work_call s) (P29_ok)
attribute [go_sem] P30_app
theorem P30_flag (d : Option Nat) : flagOf P30 d = none := (flagOf_add (by decide) d).trans (P29_flag d)
attribute [go_sem] P30_flag
theorem decI_nil : decI [] = some [] := rfl
attribute [go_sem] decI_nil
theorem planN_at {H : Int} {o : List Int} {n : Nat} (hd : o.Nodup) (hr : ∀ x ∈ o, 0 ≤ x ∧ x < n) : ∀ m, m ≤ o.length → ∀ i : Nat, i < n →
    (∀ k, k < m → at_ o k = (i : Int) → at_ (planN H o n m) i = (k : Int) / H) ∧ ((∀ k, k < m → at_ o k ≠ (i : Int)) → at_ (planN H o n m) i = -1)
  | 0, _, i, hi => by
    refine ⟨fun k hk => by omega, fun _ => ?_⟩
    simp [planN, at_, List.getD, hi]
  | m + 1, hm, i, hi => by
    obtain ⟨h1, h2⟩ := planN_at hd hr m (by omega) i hi
    have hx := hr _ (at_mem (show m < o.length by omega))
    have hl := planN_len H o n m
    rw [planN_succ]
    by_cases c : at_ o m = (i : Int)
    · have e : (at_ o m).toNat = i := by omega
      rw [e]
      have hv : at_ ((planN H o n m).set i ((m : Int) / H)) i = (m : Int) / H := by simp [at_, List.getD, hl, hi]
      rw [hv]
      refine ⟨fun k hk hk2 => ?_, fun h => absurd c (h m (by omega))⟩
      have hkl : k < o.length := by omega
      rw [at_get hkl] at hk2
      rw [at_get (show m < o.length by omega)] at c
      by_cases e : k = m
      · rw [e]
      · exact absurd (hk2.trans c.symm) (List.pairwise_iff_getElem.1 hd k m hkl (show m < o.length by omega) (by omega))
    · have e : (at_ o m).toNat ≠ i := by omega
      have hv : ∀ v, at_ ((planN H o n m).set (at_ o m).toNat v) i = at_ (planN H o n m) i := fun v => at_set_ne e v
      rw [hv]
      refine ⟨fun k hk hk2 => h1 k ?_ hk2, fun h => h2 fun k hk => h k (by omega)⟩
      have : k ≠ m := fun e => c (e ▸ hk2)
      omega
theorem best_len (s : Sh) : (bestS s).length = s.stacks.length := planN_len _ _ _ _
theorem best_at {s : Sh} (h : ShOk s) {i : Nat} (hi : i < s.stacks.length) : (memB (keptS s) i = true → 0 ≤ at_ (bestS s) i ∧ at_ (bestS s) i < spS s i) ∧ (memB (keptS s) i = false → at_ (bestS s) i = -1) := by
  obtain ⟨k1, k2, k3, _⟩ := kept_spec h
  have hH := kept_hands h
  have hfit := (fits_feas (n := s.stacks.length) (sp := spS s) h.h0 k1 k2 (fun x hx => (h.nat (k2 x hx)).1)).2 k3
  have hmem := sortS_mem (spS s) (keptS s)
  have hnd := sortS_nodup (key := spS s) k1
  have hol := sortS_len (spS s) (keptS s)
  unfold bestS
  obtain ⟨o, ho⟩ : ∃ o, sortS (spS s) (keptS s) = o := ⟨_, rfl⟩
  rw [ho] at hfit hmem hnd hol
  rw [ho]
  obtain ⟨p1, p2⟩ := planN_at (H := s.hands) hnd (fun x hx => k2 x ((hmem x).1 hx)) o.length (Nat.le_refl _) i hi
  constructor
  · intro hm
    obtain ⟨k, hk, hk2⟩ := mem_at ((hmem _).2 ((memB_iff _ _).1 hm))
    have hne : keptS s ≠ [] := fun e => by rw [e] at hol; simp at hol; rw [hol] at hk; simp at hk
    have hH1 := hH hne
    rw [p1 k hk hk2]
    unfold fitsB at hfit
    simp only [List.all_eq_true, List.mem_range, Bool.and_eq_true, decide_eq_true_eq] at hfit
    have := (hfit k hk).2
    rw [hk2] at this
    exact ⟨Int.ediv_nonneg (by omega) (by omega), this⟩
  · intro hm
    refine p2 fun k hk hk2 => ?_
    have : (i : Int) ∈ keptS s := (hmem _).1 (hk2 ▸ at_mem hk)
    rw [(memB_iff _ _).2 this] at hm
    cases hm
theorem sure_best {s : Sh} (h : ShOk s) : sureS s (bestS s) = mostS s := by
  unfold sureS mostS weightS
  rw [best_len]
  refine wsum_congr (fun i hi => ?_) fun _ _ _ => rfl
  obtain ⟨h1, h2⟩ := best_at h hi
  cases c : memB (keptS s) i
  · rw [h2 c]; rfl
  · obtain ⟨a, b⟩ := h1 c
    simp [savesB]
    omega
theorem most_call (s : Sh) (hs : ShOk s) : CallP Try.prog 36 [Enc.enc s] (· = Enc.enc (mostS s)) := by
  have hb := sure_best hs
  have hbl := best_len s
  simp only [enc_fnl, enc_fnb, enc_fnc, enc_refc, enc_arr, enc_int, enc_bool, enc_list, enc_sk, enc_sp, enc_rg, enc_sh, enc_tr, enc_refs, enc_fns, enc_wks]
  refine callP_of_vc (Φ := P30) Try.func36 rfl (by rfl) (by rw [Try.ntmps36]; simp) mixed P30_ok (by simp [AV.strip, AV.strip1, Tk.strip]) ?_
  rw [Try.ntmps36]
  simp only [Try.f36, startSt, tmFrom]
  simp (maxSteps := 4000000) only [go_sem, AV.one, drawV, intsOf, keyIdx, over, putO, memAt, List.map_cons, List.length_cons, ↓reduceIte, zdrop, one_i, one_b, one_sl, one_ptr, one_ref, one_nilp, one_mp, one_fn, one_nilf, hb, hbl]
  all_goals (repeat' (first | with_reducible rfl | with_reducible apply And.intro | ((with_reducible show drawOK _ _ = true); rfl))) <;> (try first | omega | (simp only [InR]; omega) | with_reducible assumption)
def bestQ (s : Sh) : Tri (List Int) Int Int := if faultS s ≠ 0 then ⟨[], 0, faultS s⟩ else ⟨bestS s, mostS s, 0⟩
theorem Best_call (s : Sh) (h : s.stacks.length ≤ 4096) : CallP Try.prog 12 [Enc.enc s] (· = Enc.enc (bestQ s)) := by
  unfold bestQ
  cases c0 : decide (faultS s = 0)
  · rw [if_pos (by simpa using c0)]
    simp only [enc_fnl, enc_fnb, enc_fnc, enc_refc, enc_arr, enc_int, enc_bool, enc_list, enc_sk, enc_sp, enc_rg, enc_sh, enc_tr, enc_refs, enc_fns, enc_wks]
    refine callP_of_vc (Φ := P30) Try.func12 rfl (by rfl) (by rw [Try.ntmps12]; simp) mixed P30_ok (by simp [AV.strip, AV.strip1, Tk.strip]) ?_
    rw [Try.ntmps12]
    simp only [Try.f12, startSt, tmFrom]
    simp (maxSteps := 4000000) only [go_sem, AV.one, drawV, intsOf, keyIdx, over, putO, memAt, List.map_cons, List.length_cons, ↓reduceIte, zdrop, one_i, one_b, one_sl, one_ptr, one_ref, one_nilp, one_mp, one_fn, one_nilf, c0]
    all_goals (repeat' (first | with_reducible rfl | with_reducible apply And.intro | ((with_reducible show drawOK _ _ = true); rfl))) <;> (try first | omega | (simp only [InR]; omega) | with_reducible assumption)
  have hf : faultS s = 0 := by simpa using c0
  have hs := fault_ok hf
  have hb := sure_best hs
  have hbl := best_len s
  rw [if_neg (by simpa using c0)]
  simp only [enc_fnl, enc_fnb, enc_fnc, enc_refc, enc_arr, enc_int, enc_bool, enc_list, enc_sk, enc_sp, enc_rg, enc_sh, enc_tr, enc_refs, enc_fns, enc_wks]
  refine callP_of_vc (Φ := P30) Try.func12 rfl (by rfl) (by rw [Try.ntmps12]; simp) mixed P30_ok (by simp [AV.strip, AV.strip1, Tk.strip]) ?_
  rw [Try.ntmps12]
  simp only [Try.f12, startSt, tmFrom]
  simp (maxSteps := 4000000) only [go_sem, AV.one, drawV, intsOf, keyIdx, over, putO, memAt, List.map_cons, List.length_cons, ↓reduceIte, zdrop, one_i, one_b, one_sl, one_ptr, one_ref, one_nilp, one_mp, one_fn, one_nilf, c0, hb, hbl]
  all_goals (repeat' (first | with_reducible rfl | with_reducible apply And.intro | ((with_reducible show drawOK _ _ = true); rfl))) <;> (try first | omega | (simp only [InR]; omega) | with_reducible assumption)
def P31 : Specs := addSpec 36 (spec1 (fun s : Sh => ShOk s) mostS) (addSpec 12 (spec1 (fun s : Sh => s.stacks.length ≤ 4096) bestQ) (P30))
theorem P31_app (g : FuncId) : P31 g = (addSpec 36 (spec1 (fun s : Sh => ShOk s) mostS) (addSpec 12 (spec1 (fun s : Sh => s.stacks.length ≤ 4096) bestQ) (P30))) g := rfl
theorem P31_ok : SpecsOk Try.prog P31 := addSpec_ok (spec1_ok most_call) (addSpec_ok (spec1_ok Best_call) (P30_ok))
attribute [go_sem] P31_app
theorem P31_flag (d : Option Nat) : flagOf P31 d = none := (flagOf_add (by decide) d).trans ((flagOf_add (by decide) d).trans (P30_flag d))
attribute [go_sem] P31_flag
end Go.Proofs
namespace Go.Proofs
open Go.Fs
set_option linter.unusedSimpArgs false
set_option linter.unusedVariables false
set_option maxHeartbeats 4000000
set_option maxRecDepth 8000
def szR (r : Rg) : Nat := (r.hi - r.lo + 1).toNat
def leakL (r : Rg) (rain : Int) (n : Nat) : List Int := (List.range n).map fun k : Nat => rain + (r.lo + k)
def waterN (r : Rg) (lo : Int) (m : Nat) : List Int := (List.range m).flatMap fun k : Nat => leakL r (lo + k) (szR r)
def waterL (s : Sh) (i : Nat) : List Int := waterN (at_ s.stacks i).leak s.rain.lo (szR s.rain)
theorem leakL_succ (r : Rg) (rain : Int) (n : Nat) : leakL r rain (n + 1) = leakL r rain n ++ [rain + (r.lo + n)] := by simp [leakL, List.range_succ]
theorem waterN_succ (r : Rg) (lo : Int) (m : Nat) : waterN r lo (m + 1) = waterN r lo m ++ leakL r (lo + m) (szR r) := by
  simp [waterN, List.range_succ]
theorem memAt_app (m r : List AObj) (k : Nat) : memAt (m ++ r) (m.length + k) = memAt r k := by
  simp [memAt, List.getD, List.getElem?_append_right]
theorem set_app (m r : List AObj) (k : Nat) (o : AObj) : (m ++ r).set (m.length + k) o = m ++ r.set k o := by
  simp
theorem bel_mono {k k' : Nat} (hk : k ≤ k') : ∀ (n : Nat) (v : AV), bel k n v → bel k' n v
  | 0, v, h => by simp [bel] at h
  | n + 1, v, h => by
    have ih : ∀ c, bel k n c → bel k' n c := fun c hc => bel_mono hk n c hc
    cases v <;> simp only [bel] at h ⊢
    · exact fun c hc => ih c (h c hc)
    · exact fun c hc => ih c (h c hc)
    · refine ⟨fun e he c hc => ih c (h.1 e he c hc), ?_⟩
      have := h.2
      split <;> simp_all <;> omega
    · exact fun c hc => ih c (h c hc)
    · omega
    · omega
    · exact ⟨fun c hc => ih c (h.1 c hc), fun c hc => ih c (h.2 c hc)⟩
    · exact fun c hc => ih c (h c hc)
    · omega
    · omega
    · exact ih _ h
    · omega
    · omega
theorem belO_mono {k k' : Nat} (hk : k ≤ k') (o : AObj) (h : belO k o) : belO k' o := by
  cases o <;> simp only [belO] at h ⊢
  · exact fun c hc => bel_mono hk 9 c (h c hc)
  · exact fun c hc => bel_mono hk 9 _ (h c hc)
  · exact fun c hc => bel_mono hk 9 c (h c hc)
  · exact bel_mono hk 9 _ h
  · exact fun e he c hc => bel_mono hk 9 c (h e he c hc)
def xW (r : Rg) : List AObj := [.cells [.int .i64 r.lo, .int .i64 r.hi]]
structure IterW {σ : Type} (M : σ → List AObj) (m0 l : Nat) (s : Sh) (i : Nat) (next : σ → Int → σ) : Prop where
  len : ∀ a, (M a).length = m0
  lt : l < m0
  ok : ∀ a, ∀ o ∈ M a, belO m0 o
  yield : ∀ a w, YieldM Try.prog l [.int .i64 w] (M a ++ xW (at_ s.stacks i).leak) (fun r mem' => r = .bool true ∧ mem' = M (next a w) ++ xW (at_ s.stacks i).leak)
theorem ok_xW {σ : Type} {M : σ → List AObj} {m0 l : Nat} {s : Sh} {i : Nat} {next : σ → Int → σ} (hi : IterW M m0 l s i next) (a : σ) (r : Rg) : ∀ o ∈ M a ++ xW r, belO (M a ++ xW r).length o := by
  have hlen : (M a ++ xW r).length = m0 + 1 := by simp [hi.len a, xW]
  rw [hlen]
  intro o ho
  rcases List.mem_append.1 ho with h | h
  · exact belO_mono (by omega) o (hi.ok a o h)
  · simp only [xW, List.mem_cons, List.not_mem_nil, or_false] at h
    subst h
    simp [belO, bel]
theorem waters1_call {σ : Type} {M : σ → List AObj} {m0 l : Nat} {s : Sh} {i : Nat} {next : σ → Int → σ} (hi : IterW M m0 l s i next) (hs : ShOk s) (hk : i < s.stacks.length) (a : σ) :
    CallM Try.prog 62 [.yld l, .ref (shC s) 0, .ref [.int .i64 i] 0] (M a) (fun r mem' => mem' = M ((waterL s i).foldl next a)) := by
  refine callM_of_vc (Φ := P31) Try.func62 rfl (by rfl) (by rw [Try.ntmps62]; simp) mixed P31_ok (by simp [AV.strip]) ?_
  rw [Try.ntmps62]
  simp only [Try.f62, startSt, tmFrom]
  have hr := hs.r
  have hst := (hs.st _ (at_mem hk)).2
  have hk' := Int.ofNat_lt.2 hk
  obtain ⟨r, hre⟩ : ∃ r, (at_ s.stacks i).leak = r := ⟨_, rfl⟩
  have hla := hi.len
  have f0 : ∀ a x, memAt (M a ++ [x]) m0 = x := fun a x => by rw [← hla a]; exact memAt_app _ _ 0
  have fset : ∀ a x o, (M a ++ [x]).set m0 o = M a ++ [o] := fun a x o => by rw [← hla a]; exact set_app _ _ 0 _
  unfold waterL
  simp only [shC]
  rw [hre]
  rw [hre] at hst
  simp (maxSteps := 4000000) only [go_sem, AV.one, drawV, intsOf, keyIdx, over, putO, List.map_cons, List.length_cons, ↓reduceIte, zdrop, one_i, one_b, one_sl, one_ptr, one_ref, one_nilp, one_mp, one_fn, one_nilf, List.append_assoc, List.length_append, hla, f0, fset, getD_mapA hk, hre]
  all_goals (repeat' (first | with_reducible rfl | with_reducible apply And.intro | ((with_reducible show drawOK _ _ = true); rfl))) <;> (try first | omega | (simp only [InR]; omega) | with_reducible assumption)
  have hlt := hi.lt
  have hxw : ∀ a, M a ++ [AObj.cells [.int .i64 r.lo, .int .i64 r.hi]] = M a ++ xW r := fun _ => rfl
  have hokx : ∀ a, ∀ o ∈ M a ++ xW r, belO (m0 + 1) o := fun a => by
    have := ok_xW hi a r
    rw [List.length_append, hla] at this
    exact this
  have hlenx : ∀ a, (M a ++ xW r).length = m0 + 1 := fun a => by simp [hla a, xW]
  have e0 : ∀ a, memAt (M a ++ xW r) m0 = .cells [.int .i64 r.lo, .int .i64 r.hi] := fun a => f0 a _
  rw [hxw]
  refine loopN (szR s.rain) [] [0, 1, 4] (fun j => [(5, .int .i64 (s.rain.lo + j))]) (fun j _ => M ((waterN r s.rain.lo j).foldl next a) ++ xW r) (fun _ => True) ?_ ?_ ?_ ?_
  · trivial
  · refine ⟨rfl, rfl, rfl, by dsimp only [headSt, tokz_nil]; rw [hlenx]; omega, begins_refl _, ?_, allO_of (by dsimp only [headSt, tokz_nil]; rw [hlenx]; exact hokx _), trivial⟩
    dsimp only [headSt, tokz_nil]
    rw [hlenx]
    simp [AV.bare, bel_ints, cs_arr, dep_arr, cs_int, cs_bool, cs_list, cs_sk, cs_sp, AtHead, Same, AllO, Begins, LtAll, headSt, tokz_nil, tokz_cons, tokz1, lk, dep_int, dep_bool, dep_list, dep_sk, dep_sp, memAt, bel_map, bel_mapF, bel_mapO, bel_undef, bel_int, bel_boolv, bel_nilp, bel_nilf, bel_ptr, bel_arr, bel_mp, bel_yld, bel_agg, bel_tup, bel_ref, bel_only, bel_mpr, bel_fn, bel_sl_nil, bel_sl_nilF, bel_sl_nilO, bel_sl_cons, bel_sl_app, belO_cells, belO_tok, belO_dead, belO_deferred, belO_map, belO_iter, belO_loop, bel_vec, bel_vp, belO_vecM, belO_vec]
    omega
  · intro j hj _
    have hj1 : s.rain.lo + (j : Int) ≤ s.rain.hi := by unfold szR at hj; omega
    simp (maxSteps := 4000000) only [go_sem, AV.one, drawV, intsOf, keyIdx, over, putO, List.map_cons, List.length_cons, ↓reduceIte, zdrop, one_i, one_b, one_sl, one_ptr, one_ref, one_nilp, one_mp, one_fn, one_nilf, e0, hj1]
    all_goals (repeat' (first | with_reducible rfl | with_reducible apply And.intro | ((with_reducible show drawOK _ _ = true); rfl))) <;> (try first | omega | (simp only [InR]; omega) | with_reducible assumption)
    refine loopN (szR r) [] [0, 1, 4, 5, 16, 17, 18, 19, 23, 24] (fun k => [(6, .int .i64 (r.lo + k))]) (fun k _ => M ((waterN r s.rain.lo j ++ leakL r (s.rain.lo + j) k).foldl next a) ++ xW r) (fun _ => True) ?_ ?_ ?_ ?_
    · trivial
    · refine ⟨rfl, rfl, rfl, by dsimp only [headSt, tokz_nil]; rw [hlenx]; omega, ?_, ?_, allO_of (by dsimp only [headSt, tokz_nil]; rw [hlenx]; exact hokx _), trivial⟩
      · dsimp only [headSt, tokz_nil]
        rw [show leakL r (s.rain.lo + j) 0 = [] from rfl, List.append_nil]
        exact begins_refl _
      · dsimp only [headSt, tokz_nil]
        rw [hlenx]
        simp [AV.bare, bel_ints, cs_arr, dep_arr, cs_int, cs_bool, cs_list, cs_sk, cs_sp, AtHead, Same, AllO, Begins, LtAll, headSt, tokz_nil, tokz_cons, tokz1, lk, dep_int, dep_bool, dep_list, dep_sk, dep_sp, memAt, bel_map, bel_mapF, bel_mapO, bel_undef, bel_int, bel_boolv, bel_nilp, bel_nilf, bel_ptr, bel_arr, bel_mp, bel_yld, bel_agg, bel_tup, bel_ref, bel_only, bel_mpr, bel_fn, bel_sl_nil, bel_sl_nilF, bel_sl_nilO, bel_sl_cons, bel_sl_app, belO_cells, belO_tok, belO_dead, belO_deferred, belO_map, belO_iter, belO_loop, bel_vec, bel_vp, belO_vecM, belO_vec]
        omega
    · intro k hk2 _
      have hk1 : r.lo + (k : Int) ≤ r.hi := by unfold szR at hk2; omega
      have hy := hi.yield ((waterN r s.rain.lo j ++ leakL r (s.rain.lo + j) k).foldl next a) (s.rain.lo + (j : Int) + (r.lo + k))
      rw [hre] at hy
      simp (maxSteps := 4000000) only [go_sem, AV.one, drawV, intsOf, keyIdx, over, putO, List.map_cons, List.length_cons, ↓reduceIte, zdrop, one_i, one_b, one_sl, one_ptr, one_ref, one_nilp, one_mp, one_fn, one_nilf, e0, hk1]
      all_goals (repeat' (first | with_reducible rfl | with_reducible apply And.intro | ((with_reducible show drawOK _ _ = true); rfl))) <;> (try first | omega | (simp only [InR]; omega) | with_reducible assumption)
      refine ⟨_, hy, ?_⟩
      rintro r' mem' ⟨rfl, rfl⟩ hlen
      simp (maxSteps := 4000000) only [go_sem, AV.one, drawV, intsOf, keyIdx, over, putO, List.map_cons, List.length_cons, ↓reduceIte, zdrop, one_i, one_b, one_sl, one_ptr, one_ref, one_nilp, one_mp, one_fn, one_nilf, e0]
      all_goals (repeat' (first | with_reducible rfl | with_reducible apply And.intro | ((with_reducible show drawOK _ _ = true); rfl))) <;> (try first | omega | (simp only [InR]; omega) | with_reducible assumption)
      refine nxt hk2 trivial ?_
      refine ⟨rfl, rfl, rfl, by dsimp only [headSt, tokz_nil]; rw [hlenx]; omega, ?_, ?_, allO_of (by dsimp only [headSt, tokz_nil]; rw [hlenx]; exact hokx _), trivial⟩
      · dsimp only [headSt, tokz_nil]
        rw [leakL_succ, ← List.append_assoc, List.foldl_append (l' := [_])]
        simp only [List.foldl_cons, List.foldl_nil, Int.add_assoc]
        exact begins_refl _
      · dsimp only [headSt, tokz_nil]
        rw [hlenx]
        simp [AV.bare, bel_ints, cs_arr, dep_arr, cs_int, cs_bool, cs_list, cs_sk, cs_sp, AtHead, Same, AllO, Begins, LtAll, headSt, tokz_nil, tokz_cons, tokz1, lk, dep_int, dep_bool, dep_list, dep_sk, dep_sp, memAt, bel_map, bel_mapF, bel_mapO, bel_undef, bel_int, bel_boolv, bel_nilp, bel_nilf, bel_ptr, bel_arr, bel_mp, bel_yld, bel_agg, bel_tup, bel_ref, bel_only, bel_mpr, bel_fn, bel_sl_nil, bel_sl_nilF, bel_sl_nilO, bel_sl_cons, bel_sl_app, belO_cells, belO_tok, belO_dead, belO_deferred, belO_map, belO_iter, belO_loop, bel_vec, bel_vp, belO_vecM, belO_vec]
        omega
    · intro _
      have hk1 : ¬ (r.lo + ((szR r : Nat) : Int) ≤ r.hi) := by unfold szR; omega
      simp (maxSteps := 4000000) only [go_sem, AV.one, drawV, intsOf, keyIdx, over, putO, List.map_cons, List.length_cons, ↓reduceIte, zdrop, one_i, one_b, one_sl, one_ptr, one_ref, one_nilp, one_mp, one_fn, one_nilf, e0, hk1]
      all_goals (repeat' (first | with_reducible rfl | with_reducible apply And.intro | ((with_reducible show drawOK _ _ = true); rfl))) <;> (try first | omega | (simp only [InR]; omega) | with_reducible assumption)
      refine nxt hj trivial ?_
      refine ⟨rfl, rfl, rfl, by dsimp only [headSt, tokz_nil]; rw [hlenx]; omega, ?_, ?_, allO_of (by dsimp only [headSt, tokz_nil]; rw [hlenx]; exact hokx _), trivial⟩
      · dsimp only [headSt, tokz_nil]
        rw [waterN_succ]
        exact begins_refl _
      · dsimp only [headSt, tokz_nil]
        rw [hlenx]
        simp [AV.bare, bel_ints, cs_arr, dep_arr, cs_int, cs_bool, cs_list, cs_sk, cs_sp, AtHead, Same, AllO, Begins, LtAll, headSt, tokz_nil, tokz_cons, tokz1, lk, dep_int, dep_bool, dep_list, dep_sk, dep_sp, memAt, bel_map, bel_mapF, bel_mapO, bel_undef, bel_int, bel_boolv, bel_nilp, bel_nilf, bel_ptr, bel_arr, bel_mp, bel_yld, bel_agg, bel_tup, bel_ref, bel_only, bel_mpr, bel_fn, bel_sl_nil, bel_sl_nilF, bel_sl_nilO, bel_sl_cons, bel_sl_app, belO_cells, belO_tok, belO_dead, belO_deferred, belO_map, belO_iter, belO_loop, bel_vec, bel_vp, belO_vecM, belO_vec]
        omega
  · intro _
    have hj1 : ¬ (s.rain.lo + ((szR s.rain : Nat) : Int) ≤ s.rain.hi) := by unfold szR; omega
    simp (maxSteps := 4000000) only [go_sem, AV.one, drawV, intsOf, keyIdx, over, putO, List.map_cons, List.length_cons, ↓reduceIte, zdrop, one_i, one_b, one_sl, one_ptr, one_ref, one_nilp, one_mp, one_fn, one_nilf, e0, hj1]
    all_goals (repeat' (first | with_reducible rfl | with_reducible apply And.intro | ((with_reducible show drawOK _ _ = true); rfl))) <;> (try first | omega | (simp only [InR]; omega) | with_reducible assumption)
    · rw [List.take_append_of_le_length (by rw [hla]; omega), List.take_of_length_le (by rw [hla]; omega)]
    · simp [bel]
    · rw [List.take_append_of_le_length (by rw [hla]; omega), List.take_of_length_le (by rw [hla]; omega)]
      exact hi.ok _
theorem waters_call (s : Sh) (i : Int) : CallP Try.prog 38 [Enc.enc s, Enc.enc i] (· = .fn (.func 62) [] [.ref (shC s) 0, .ref [.int .i64 i] 0]) := by
  simp only [enc_fnl, enc_fnb, enc_fnc, enc_refc, enc_arr, enc_int, enc_bool, enc_list, enc_sk, enc_sp, enc_rg, enc_sh, enc_tr, enc_refs, enc_fns, enc_wks]
  refine callP_of_vc (Φ := P31) Try.func38 rfl (by rfl) (by rw [Try.ntmps38]; simp) mixed P31_ok (by simp [AV.strip, AV.strip1, Tk.strip]) ?_
  rw [Try.ntmps38]
  simp only [Try.f38, startSt, tmFrom]
  simp (maxSteps := 4000000) only [go_sem, AV.one, drawV, intsOf, keyIdx, over, putO, memAt, List.map_cons, List.length_cons, ↓reduceIte, zdrop, one_i, one_b, one_sl, one_ptr, one_ref, one_nilp, one_mp, one_fn, one_nilf, shC]
structure IterV where
  s : Sh
  i : Int
instance : Enc IterV where
  enc x := .fn (.func 62) [] [.ref (shC x.s) 0, .ref [.int .i64 x.i] 0]
  dec _ := none
  law v x h := by cases h
  dep := 4
  ok x := by
    simp only [pureN, shC, List.mem_cons, List.not_mem_nil, or_false, forall_eq_or_imp, forall_eq, true_and, List.mem_map, forall_exists_index, and_imp, forall_apply_eq_imp_iff₂]
    exact ⟨fun _ h => h.elim, ⟨fun a _ => EncE.ok a, trivial⟩, trivial⟩
theorem enc_iterv (x : IterV) : Enc.enc x = .fn (.func 62) [] [.ref (shC x.s) 0, .ref [.int .i64 x.i] 0] := rfl
def P32 : Specs := addSpec 38 (spec2 (fun (_ : Sh) (_ : Int) => True) IterV.mk) (P31)
theorem P32_app (g : FuncId) : P32 g = (addSpec 38 (spec2 (fun (_ : Sh) (_ : Int) => True) IterV.mk) (P31)) g := rfl
theorem P32_ok : SpecsOk Try.prog P32 := addSpec_ok (spec2_ok fun s i _ => waters_call s i) (P31_ok)
attribute [go_sem] P32_app
theorem P32_flag (d : Option Nat) : flagOf P32 d = none := (flagOf_add (by decide) d).trans (P31_flag d)
attribute [go_sem] P32_flag
end Go.Proofs
namespace Go.Proofs
open Go.Fs
set_option linter.unusedSimpArgs false
set_option linter.unusedVariables false
set_option maxHeartbeats 4000000
set_option maxRecDepth 8000
def rangeM {σ : Type} (mm : σ → List AObj) (tm' : List (Nat × AV)) (n : Nat) (ps : Array Tmp) (asg body : Code) (a : σ) : List AObj :=
  mm a ++ [AObj.deferred, AObj.loop .ready none tm' n ps asg body]
theorem rangeA_waters {σ : Type} (mm : σ → List AObj) {s : Sh} {i : Nat} (next : σ → Int → σ) (tm' : List (Nat × AV)) (a0 : σ)
    {Q : QA} {st : St} {f : Operand} {ps : Array Tmp} {asg body : Code}
    (hs : ShOk s) (hk : i < s.stacks.length) (hf : (evT st.tm f).un = .fn (.func 62) [] [.ref (shC s) 0, .ref [.int .i64 i] 0]) (hav : (evT st.tm f).av)
    (htm : ∀ q ∈ tm', q.2 = (lk st.tm q.1).strip) (hm0 : mm a0 = st.mem)
    (hi : IterW (rangeM mm tm' st.n ps asg body) (st.mem.length + 2) (st.mem.length + 1) s i next)
    (hend : endA Q st (rangeM mm tm' st.n ps asg body ((waterL s i).foldl next a0)) (memAt (rangeM mm tm' st.n ps asg body ((waterL s i).foldl next a0)) (st.mem.length + 1))) : rangeA Try.prog f ps asg body Q st := by
  unfold rangeA
  rw [hf]
  have hM0 : rangeM mm tm' st.n ps asg body a0 = st.mem ++ [AObj.deferred, AObj.loop .ready none tm' st.n ps asg body] := by
    unfold rangeM; rw [hm0]
  refine ⟨hav, tm', (fun r mem' => mem' = rangeM mm tm' st.n ps asg body ((waterL s i).foldl next a0)), htm, ?_, ?_⟩
  · rw [← hM0]
    exact waters1_call hi hs hk a0
  · intro r mem' h hlen
    rw [h]
    exact hend
theorem vc_range0 {P : Program} {Φ : Specs} {Q : QA} {st : St} {f : Operand} {ps : Array Tmp} {asg body : Code} (h : rangeA P f ps asg body Q st) : vc P Φ (.rangeFunc f ps asg body) Q st := ⟨[], h⟩
section
variable (a b c d e f g : AObj) (r : List AObj)
theorem mA0 : memAt (a :: r) 0 = a := rfl
theorem mA1 : memAt (a :: b :: r) 1 = b := rfl
theorem mA2 : memAt (a :: b :: c :: r) 2 = c := rfl
theorem mA3 : memAt (a :: b :: c :: d :: r) 3 = d := rfl
theorem mA4 : memAt (a :: b :: c :: d :: e :: r) 4 = e := rfl
theorem mA5 : memAt (a :: b :: c :: d :: e :: f :: r) 5 = f := rfl
theorem mA6 : memAt (a :: b :: c :: d :: e :: f :: g :: r) 6 = g := rfl
end
attribute [go_sem] mA0 mA1 mA2 mA3 mA4 mA5 mA6
theorem ok_app {m r : List AObj} {n0 k : Nat} (h : ∀ o ∈ m, belO n0 o) (hk : n0 ≤ k) (hr : AllO k r) : ∀ o ∈ m ++ r, belO k o := fun o ho => by
  rcases List.mem_append.1 ho with q | q
  · exact belO_mono hk o (h o q)
  · exact allO_mem hr o q
theorem memAt_rangeM {σ : Type} {mm : σ → List AObj} {tm' : List (Nat × AV)} {n : Nat} {ps : Array Tmp} {asg body : Code} {a : σ} {x : List AObj} {k : Nat} (h : (mm a).length = k) :
    memAt (rangeM mm tm' n ps asg body a ++ x) (k + 1) = .loop .ready none tm' n ps asg body := by
  unfold rangeM
  rw [List.append_assoc, ← h, memAt_app]
  rfl
/-! A loop whose rounds leave objects and deferred blocks behind. -/
def headJ (st : St) (ks : List Nat) (ov : List (Nat × AV)) (mm : List AObj) (mk : List Nat) : St :=
  { tm := ov ++ ks.map (fun k => (k, lk st.tm k)), mem := mm, n := st.n, marks := mk, pr := st.pr }
structure JOk (k : Nat) (J : List AObj × List Nat) : Prop where
  ok : ∀ o ∈ J.1, belO (k + J.1.length) o
  lt : ∀ m ∈ J.2, k ≤ m ∧ m < k + J.1.length
  df : ∀ m ∈ J.2, memAt J.1 (m - k) = .deferred
  nd : J.2.Nodup
theorem memAt_left {m r : List AObj} {k : Nat} (h : k < m.length) : memAt (m ++ r) k = memAt m k := by
  simp [memAt, List.getD, List.getElem?_append_left h]
theorem memAt_right {m r : List AObj} {k : Nat} (h : m.length ≤ k) : memAt (m ++ r) k = memAt r (k - m.length) := by
  simp [memAt, List.getD, List.getElem?_append_right h]
theorem JOk.push {k : Nat} {J : List AObj} {mk : List Nat} (h : JOk k (J, mk)) (os : List AObj) (hos : ∀ o ∈ os, belO (k + J.length + os.length) o) (p : Nat) (hp : p < os.length) (hd : memAt os p = .deferred) : JOk k (J ++ os, (k + J.length + p) :: mk) := by
  obtain ⟨h1, h2, h3, h4⟩ := h
  simp only at h1 h2 h3 h4
  refine ⟨fun o ho => ?_, fun m hm => ?_, fun m hm => ?_, ?_⟩
  · rw [List.length_append, ← Nat.add_assoc]
    rcases List.mem_append.1 ho with q | q
    · exact belO_mono (by omega) o (h1 o q)
    · exact hos o q
  · rw [List.length_append]
    rcases List.mem_cons.1 hm with q | q
    · omega
    · have := h2 m q; omega
  · rcases List.mem_cons.1 hm with q | q
    · subst q
      have e : k + J.length + p - k = J.length + p := by omega
      rw [e, memAt_app]; exact hd
    · have := h2 m q
      rw [memAt_left (by omega)]; exact h3 m q
  · refine List.nodup_cons.2 ⟨fun q => ?_, h4⟩
    have := h2 _ q
    omega
theorem doneA_marks {P : Program} {rs : List ResultVar} {K : List AV → St → Prop} {tm : List (Nat × AV)} {n pr : Nat} (h : ∀ mem, doneA P rs K [] ⟨tm, mem, n, [], pr⟩) : ∀ (mk : List Nat) (mem : List AObj), (∀ l ∈ mk, memAt mem l = .deferred) → mk.Nodup → doneA P rs K mk ⟨tm, mem, n, mk, pr⟩
  | [], mem, _, _ => h mem
  | l :: mk, mem, hd, hn => by
    refine ⟨hd l (by simp), doneA_marks h mk _ (fun l' hl' => ?_) (List.nodup_cons.1 hn).2⟩
    have hne : l ≠ l' := fun e => (List.nodup_cons.1 hn).1 (e ▸ hl')
    have := hd l' (by simp [hl'])
    dsimp only
    rw [← this]
    simp [memAt, List.getD, List.getElem?_set, hne]
def NxtJ (N k : Nat) (S : Nat → List AObj × List Nat → St) (i : Nat) (s : St) : Prop := ∃ b' : Nat × List AObj × List Nat, (b'.1 ≤ N ∧ JOk k b'.2) ∧ N - b'.1 < N - i ∧ Weak s (S b'.1 b'.2)
theorem nxtJ {N k : Nat} {S : Nat → List AObj × List Nat → St} {i : Nat} {s : St} (h : i < N) (J : List AObj × List Nat) (hJ : JOk k J) (hs : AtHead s (S (i + 1) J)) : NxtJ N k S i s :=
  ⟨(i + 1, J), ⟨by dsimp only; omega, hJ⟩, by dsimp only; omega, atHead_weak hs⟩
theorem ltAll_of {k : Nat} : ∀ {l : List Nat}, (∀ o ∈ l, o < k) → LtAll k l
  | [], _ => trivial
  | a :: l, h => ⟨h a (by simp), ltAll_of fun o ho => h o (by simp [ho])⟩
theorem nxtJ2 {N k i n pr : Nat} {s : St} {S : Nat → List AObj × List Nat → St} {T : List (Nat × AV)} (base : List AObj) {J m os : List AObj} {mk : List Nat} {p : Nat} (hS : ∀ J mk, S (i + 1) (J, mk) = ⟨T, base ++ J, n, mk, pr⟩) (hmem : s.mem = m ++ os) (hm : m = base ++ J)
    (h : i < N) (hJ : JOk k (J, mk)) (hk : base.length = k) (hmk : s.marks = (k + J.length + p) :: mk) (hp : p < os.length) (hd : memAt os p = .deferred) (hn : s.n = n) (hpr : s.pr = pr) (hpl : pr ≤ k)
    (hos : AllO (k + J.length + os.length) os) (hb : AllO k base) (hsame : Same s.tm (k + J.length + os.length) T) :
    NxtJ N k S i s := by
  have hJ' := hJ.push os (allO_mem hos) p hp hd
  have hlen : (base ++ (J ++ os)).length = k + J.length + os.length := by rw [List.length_append, List.length_append, hk, Nat.add_assoc]
  refine nxtJ h (J ++ os, (k + J.length + p) :: mk) hJ' ?_
  rw [hS]
  refine ⟨hn, hmk, hpr, ?_, ?_, ?_, allO_of ?_, ltAll_of ?_⟩
  · dsimp only; rw [hlen, hpr]; omega
  · dsimp only; rw [hmem, hm, List.append_assoc]; exact begins_refl _
  · dsimp only; rw [hlen]; exact hsame
  · dsimp only; rw [hlen]
    intro o ho
    rcases List.mem_append.1 ho with q | q
    · exact belO_mono (by omega) o (allO_mem hb o q)
    · have := hJ'.ok o q
      simp only [List.length_append] at this
      rwa [← Nat.add_assoc] at this
  · dsimp only; rw [hlen]
    intro o ho
    have := (hJ'.lt o ho).2
    simp only [List.length_append] at this
    omega
theorem loopJ {P : Program} {Φ : Specs} {Q : QA} {st : St} (N : Nat) (ts : List TZ) (ks : List Nat) (ov : Nat → List (Nat × AV)) (mm : Nat → List AObj → List AObj) (k : Nat) {c : Code} (hm : (tokz ts st).marks = [])
    (hw : AtHead (tokz ts st) (headSt (tokz ts st) ks (ov 0) (mm 0 (tokz ts st).mem)))
    (hstep : ∀ i J, i < N → JOk k J → vc P Φ c (thenA (NxtJ N k (fun i J => headJ (tokz ts st) ks (ov i) (mm i (tokz ts st).mem ++ J.1) J.2) i) Q) (headJ (tokz ts st) ks (ov i) (mm i (tokz ts st).mem ++ J.1) J.2))
    (hlast : ∀ J, JOk k J → vc P Φ c (thenA (NxtJ N k (fun i J => headJ (tokz ts st) ks (ov i) (mm i (tokz ts st).mem ++ J.1) J.2) N) Q) (headJ (tokz ts st) ks (ov N) (mm N (tokz ts st).mem ++ J.1) J.2)) : LoopB P Φ c Q st := by
  refine ⟨ts, Nat × List AObj × List Nat, fun b => headJ (tokz ts st) ks (ov b.1) (mm b.1 (tokz ts st).mem ++ b.2.1) b.2.2, fun b => b.1 ≤ N ∧ JOk k b.2, fun b => N - b.1, (0, [], []), ⟨Nat.zero_le _, ⟨fun o ho => (by cases ho), fun o ho => (by cases ho), fun o ho => (by cases ho), List.nodup_nil⟩⟩, ?_, fun b ⟨hi, hI⟩ => ?_⟩
  · have := atHead_weak hw
    have e : headJ (tokz ts st) ks (ov 0) (mm 0 (tokz ts st).mem ++ []) [] = headSt (tokz ts st) ks (ov 0) (mm 0 (tokz ts st).mem) := by
      simp [headJ, headSt, hm]
    dsimp only
    rw [e]
    exact this
  · obtain ⟨i, J⟩ := b
    by_cases e : i < N
    · exact hstep i J e hI
    · simp only at hi
      obtain rfl : i = N := by omega
      exact hlast J hI
def nextW (c : Int) (a : Bool × Bool) (w : Int) : Bool × Bool := (a.1 || savesB c w, a.2 || !savesB c w)
def verdictW (s : Sh) (plan : List Int) (i : Nat) : Int :=
  let a := (waterL s i).foldl (nextW (at_ plan i)) (false, false)
  if a.2 = false then 1 else if a.1 = false then 2 else 3
def savedQ (s : Sh) (plan : List Int) : List Int × Int := if plannedQ s plan ≠ 0 then ([], plannedQ s plan) else ((List.range plan.length).map (verdictW s plan), 0)
theorem Saved_call (s : Sh) (plan : List Int) (h : s.stacks.length ≤ 4096 ∧ plan.length ≤ 4096) : CallP Try.prog 14 [Enc.enc s, Enc.enc plan] (· = Enc.enc (savedQ s plan)) := by
  unfold savedQ
  have h1 := h.1
  have h2 := h.2
  cases c0 : decide (plannedQ s plan = 0)
  · rw [if_pos (by simpa using c0)]
    simp only [enc_fnl, enc_fnb, enc_fnc, enc_refc, enc_arr, enc_int, enc_bool, enc_list, enc_sk, enc_sp, enc_rg, enc_sh, enc_tr, enc_refs, enc_fns, enc_wks]
    refine callP_of_vc (Φ := P32) Try.func14 rfl (by rfl) (by rw [Try.ntmps14]; simp) mixed P32_ok (by simp [AV.strip, AV.strip1, Tk.strip]) ?_
    rw [Try.ntmps14]
    simp only [Try.f14, startSt, tmFrom]
    simp (maxSteps := 4000000) only [go_sem, AV.one, drawV, intsOf, keyIdx, over, putO, memAt, List.map_cons, List.length_cons, ↓reduceIte, zdrop, one_i, one_b, one_sl, one_ptr, one_ref, one_nilp, one_mp, one_fn, one_nilf, c0]
    all_goals (repeat' (first | with_reducible rfl | with_reducible apply And.intro | ((with_reducible show drawOK _ _ = true); rfl))) <;> (try first | omega | (simp only [InR]; omega) | with_reducible assumption)
  have hp : plannedQ s plan = 0 := by simpa using c0
  rw [if_neg (by simpa using c0)]
  obtain ⟨hs, k2⟩ := planned_zero hp
  have hl := busy_len k2
  have h8 := hs.len
  simp only [enc_fnl, enc_fnb, enc_fnc, enc_refc, enc_arr, enc_int, enc_bool, enc_list, enc_sk, enc_sp, enc_rg, enc_sh, enc_tr, enc_refs, enc_fns, enc_wks]
  refine callP_of_vc (Φ := P32) Try.func14 rfl (by rfl) (by rw [Try.ntmps14]; simp) mixed P32_ok (by simp [AV.strip, AV.strip1, Tk.strip]) ?_
  rw [Try.ntmps14]
  simp only [Try.f14, startSt, tmFrom]
  simp (maxSteps := 4000000) only [go_sem, AV.one, drawV, intsOf, keyIdx, over, putO, memAt, List.map_cons, List.length_cons, ↓reduceIte, zdrop, one_i, one_b, one_sl, one_ptr, one_ref, one_nilp, one_mp, one_fn, one_nilf, c0, hp]
  all_goals (repeat' (first | with_reducible rfl | with_reducible apply And.intro | ((with_reducible show drawOK _ _ = true); rfl))) <;> (try first | omega | (simp only [InR]; omega) | with_reducible assumption)
  obtain ⟨L, hL⟩ : ∃ L : Nat → List Int, ∀ n, L n = (List.range n).map (verdictW s plan) := ⟨_, fun _ => rfl⟩
  have hLl : ∀ n, (L n).length = n := fun n => by rw [hL]; simp
  have hLs : ∀ n, L (n + 1) = L n ++ [verdictW s plan n] := fun n => by rw [hL, hL, List.range_succ, List.map_append]; rfl
  rw [← hL]
  refine loopJ (plan.length) [.slot 7 1] [2, 4, 5, 21, 22, 31] (fun i => [(23, .int .i64 i), (7, .sl ((L i).map EncE.cs) (.own 1))]) (fun i m => m.set 1 (.tok i 1)) (2) ?_ ?_ ?_ ?_
  · rfl
  · simp [AV.bare, bel_ints, cs_arr, dep_arr, cs_int, cs_bool, cs_list, cs_sk, cs_sp, AtHead, Same, AllO, Begins, LtAll, headSt, tokz_nil, tokz_cons, tokz1, lk, dep_int, dep_bool, dep_list, dep_sk, dep_sp, memAt, bel_map, bel_mapF, bel_mapO, bel_undef, bel_int, bel_boolv, bel_nilp, bel_nilf, bel_ptr, bel_arr, bel_mp, bel_yld, bel_agg, bel_tup, bel_ref, bel_only, bel_mpr, bel_fn, bel_sl_nil, bel_sl_nilF, bel_sl_nilO, bel_sl_cons, bel_sl_app, belO_cells, belO_tok, belO_dead, belO_deferred, belO_map, belO_iter, belO_loop, bel_vec, bel_vp, belO_vecM, belO_vec, hL, -List.map_map]
  · rintro i ⟨J, mk⟩ hi hJ
    have hi' := Int.ofNat_lt.2 hi
    have hi2 : i < s.stacks.length := by omega
    have hll := hLl i
    have hJ1 := hJ.ok
    simp only at hJ1
    obtain ⟨m, hm⟩ : ∃ m, [.cells [.sl (s.stacks.map EncE.cs) .no, .int .i64 s.hands, .int .i64 s.rain.lo, .int .i64 s.rain.hi], .tok i 1] ++ J = m := ⟨_, rfl⟩
    obtain ⟨n0, hn0⟩ : ∃ n0, 2 + J.length = n0 := ⟨_, rfl⟩
    have hml : m.length = n0 := by rw [← hm, ← hn0]; simp; omega
    have hg0 : ∀ r, memAt (m ++ r) 0 = .cells [.sl (s.stacks.map EncE.cs) .no, .int .i64 s.hands, .int .i64 s.rain.lo, .int .i64 s.rain.hi] := fun r => by rw [← hm]; rfl
    have hgm : memAt m 0 = .cells [.sl (s.stacks.map EncE.cs) .no, .int .i64 s.hands, .int .i64 s.rain.lo, .int .i64 s.rain.hi] := by rw [← hm]; rfl
    have hg1 : ∀ r, memAt (m ++ r) 1 = .tok i 1 := fun r => by rw [← hm]; rfl
    have hg2 : ∀ r, memAt (m ++ r) n0 = memAt r 0 := fun r => by rw [← hml]; exact memAt_app _ _ 0
    have hg3 : ∀ r k, memAt (m ++ r) (n0 + k) = memAt r k := fun r k => by rw [← hml]; exact memAt_app _ _ k
    have hs2 : ∀ r o, (m ++ r).set n0 o = m ++ r.set 0 o := fun r o => by rw [← hml]; exact set_app _ _ 0 _
    have hs3 : ∀ r k o, (m ++ r).set (n0 + k) o = m ++ r.set k o := fun r k o => by rw [← hml]; exact set_app _ _ k _
    have hs1 : ∀ r o, (m ++ r).set 1 o = m.set 1 o ++ r := fun r o => by rw [← hm]; rfl
    have hmok : ∀ o ∈ m, belO n0 o := fun o ho => by
      rw [← hm] at ho
      rcases List.mem_append.1 ho with q | q
      · simp only [List.mem_cons, List.not_mem_nil, or_false] at q
        rcases q with rfl | rfl <;> simp [AV.bare, bel_ints, cs_arr, dep_arr, cs_int, cs_bool, cs_list, cs_sk, cs_sp, AtHead, Same, AllO, Begins, LtAll, headSt, tokz_nil, tokz_cons, tokz1, lk, dep_int, dep_bool, dep_list, dep_sk, dep_sp, memAt, bel_map, bel_mapF, bel_mapO, bel_undef, bel_int, bel_boolv, bel_nilp, bel_nilf, bel_ptr, bel_arr, bel_mp, bel_yld, bel_agg, bel_tup, bel_ref, bel_only, bel_mpr, bel_fn, bel_sl_nil, bel_sl_nilF, bel_sl_nilO, bel_sl_cons, bel_sl_app, belO_cells, belO_tok, belO_dead, belO_deferred, belO_map, belO_iter, belO_loop, bel_vec, bel_vp, belO_vecM, belO_vec]
      · rw [← hn0]; exact hJ1 o q
    obtain ⟨c, hc⟩ : ∃ c, at_ plan i = c := ⟨_, rfl⟩
    have hv : verdictW s plan i = (if ((waterL s i).foldl (nextW c) (false, false)).2 = false then 1 else if ((waterL s i).foldl (nextW c) (false, false)).1 = false then 2 else 3) := by unfold verdictW; rw [hc]
    simp (maxSteps := 4000000) only [go_sem, AV.one, drawV, intsOf, keyIdx, over, putO, List.map_cons, List.length_cons, ↓reduceIte, zdrop, one_i, one_b, one_sl, one_ptr, one_ref, one_nilp, one_mp, one_fn, one_nilf, headJ, hm, getD_mapA hi, hi', hll, hc, List.append_assoc, List.length_append, hml, hg0, hgm, hg1, hg2, hg3, hs1, hs2, hs3, enc_iterv]
    all_goals (repeat' (first | with_reducible rfl | with_reducible apply And.intro | ((with_reducible show drawOK _ _ = true); rfl))) <;> (try first | omega | (simp only [InR]; omega) | with_reducible assumption)
    refine vc_range0 ?_
    refine rangeA_waters (s := s) (i := i) (fun a : Bool × Bool => m ++ [.cells [.int .i64 c], .cells [.bool a.1], .cells [.bool a.2]]) (nextW c) [(9, .ptr n0 0), (10, .ptr (n0 + 1) 0), (11, .ptr (n0 + 2) 0)] (false, false)
      hs hi2 rfl trivial ?_ rfl ?_ ?_
    · simp [lk, AV.strip, tokz_nil]
    · refine ⟨fun a => by simp [rangeM, hml], by simp, fun a => ?_, ?_⟩
      · have hk5 : (m ++ [AObj.cells [.int .i64 c], .cells [.bool false], .cells [.bool false]]).length + 2 = n0 + 5 := by simp [hml]
        dsimp only
        rw [hk5]
        unfold rangeM
        rw [List.append_assoc]
        refine ok_app hmok (by omega) ?_
        simp [AV.bare, bel_ints, cs_arr, dep_arr, cs_int, cs_bool, cs_list, cs_sk, cs_sp, AtHead, Same, AllO, Begins, LtAll, headSt, tokz_nil, tokz_cons, tokz1, lk, dep_int, dep_bool, dep_list, dep_sk, dep_sp, memAt, bel_map, bel_mapF, bel_mapO, bel_undef, bel_int, bel_boolv, bel_nilp, bel_nilf, bel_ptr, bel_arr, bel_mp, bel_yld, bel_agg, bel_tup, bel_ref, bel_only, bel_mpr, bel_fn, bel_sl_nil, bel_sl_nilF, bel_sl_nilO, bel_sl_cons, bel_sl_app, belO_cells, belO_tok, belO_dead, belO_deferred, belO_map, belO_iter, belO_loop, bel_vec, bel_vp, belO_vecM, belO_vec]
      · intro a w
        obtain ⟨a1, a2⟩ := a
        refine yieldM_of_vc (Φ := P32) (hl := memAt_rangeM (by simp [hml])) rfl (by simp) rfl rfl mixed P32_ok (by simp [AV.strip]) (by simp [AV.strip]) ?_
        have hk4 : n0 + 3 + 1 = n0 + 4 := rfl
        simp (maxSteps := 4000000) only [go_sem, AV.one, drawV, intsOf, keyIdx, over, putO, List.map_cons, List.length_cons, ↓reduceIte, zdrop, one_i, one_b, one_sl, one_ptr, one_ref, one_nilp, one_mp, one_fn, one_nilf, beginA, roundA, endB, xW, putArgs, rangeM, List.append_assoc, List.length_append, hml, hk4, hg0, hgm, hg1, hg2, hg3, hs1, hs2, hs3]
        have htk : ∀ r : List AObj, r.length = 6 → List.take (n0 + 6) (m ++ r) = m ++ r := fun r hr => List.take_of_length_le (by simp [hml, hr])
        rw [htk _ rfl]
        exact ⟨by simp [nextW], ok_app hmok (by omega) (by simp [AV.bare, bel_ints, cs_arr, dep_arr, cs_int, cs_bool, cs_list, cs_sk, cs_sp, AtHead, Same, AllO, Begins, LtAll, headSt, tokz_nil, tokz_cons, tokz1, lk, dep_int, dep_bool, dep_list, dep_sk, dep_sp, memAt, bel_map, bel_mapF, bel_mapO, bel_undef, bel_int, bel_boolv, bel_nilp, bel_nilf, bel_ptr, bel_arr, bel_mp, bel_yld, bel_agg, bel_tup, bel_ref, bel_only, bel_mpr, bel_fn, bel_sl_nil, bel_sl_nilF, bel_sl_nilO, bel_sl_cons, bel_sl_app, belO_cells, belO_tok, belO_dead, belO_deferred, belO_map, belO_iter, belO_loop, bel_vec, bel_vp, belO_vecM, belO_vec])⟩
    · obtain ⟨a, ha⟩ : ∃ a, (waterL s i).foldl (nextW c) (false, false) = a := ⟨_, rfl⟩
      rw [ha] at hv
      rw [ha]
      obtain ⟨a1, a2⟩ := a
      cases a2 <;> cases a1 <;> simp only [if_true, if_false, Bool.true_eq_false, ↓reduceIte] at hv
      all_goals
        have hk4 : n0 + 3 + 1 = n0 + 4 := rfl
        simp (maxSteps := 4000000) only [go_sem, AV.one, drawV, intsOf, keyIdx, over, putO, List.map_cons, List.length_cons, ↓reduceIte, zdrop, one_i, one_b, one_sl, one_ptr, one_ref, one_nilp, one_mp, one_fn, one_nilf, endA, pendA, doneA, rangeM, hll, List.append_assoc, List.length_append, hml, hk4, hg0, hgm, hg1, hg2, hg3, hs1, hs2, hs3]
        all_goals (repeat' (first | with_reducible rfl | with_reducible apply And.intro | ((with_reducible show drawOK _ _ = true); rfl))) <;> (try first | omega | (simp only [InR]; omega) | with_reducible assumption)
      all_goals first
        | rfl
        | (refine nxtJ2 [.cells [.sl (s.stacks.map EncE.cs) .no, .int .i64 s.hands, .int .i64 s.rain.lo, .int .i64 s.rain.hi], .tok (i + 1) 1] (p := 3) (fun _ _ => rfl) rfl (by rw [← hm]; rfl) hi hJ rfl (by dsimp only; rw [hn0]) (by simp) rfl rfl rfl (Nat.zero_le _) ?_ ?_ ?_
           · rw [hn0]
             simp [AV.bare, bel_ints, cs_arr, dep_arr, cs_int, cs_bool, cs_list, cs_sk, cs_sp, AtHead, Same, AllO, Begins, LtAll, headSt, tokz_nil, tokz_cons, tokz1, lk, dep_int, dep_bool, dep_list, dep_sk, dep_sp, memAt, bel_map, bel_mapF, bel_mapO, bel_undef, bel_int, bel_boolv, bel_nilp, bel_nilf, bel_ptr, bel_arr, bel_mp, bel_yld, bel_agg, bel_tup, bel_ref, bel_only, bel_mpr, bel_fn, bel_sl_nil, bel_sl_nilF, bel_sl_nilO, bel_sl_cons, bel_sl_app, belO_cells, belO_tok, belO_dead, belO_deferred, belO_map, belO_iter, belO_loop, bel_vec, bel_vp, belO_vecM, belO_vec]
           · simp [AV.bare, bel_ints, cs_arr, dep_arr, cs_int, cs_bool, cs_list, cs_sk, cs_sp, AtHead, Same, AllO, Begins, LtAll, headSt, tokz_nil, tokz_cons, tokz1, lk, dep_int, dep_bool, dep_list, dep_sk, dep_sp, memAt, bel_map, bel_mapF, bel_mapO, bel_undef, bel_int, bel_boolv, bel_nilp, bel_nilf, bel_ptr, bel_arr, bel_mp, bel_yld, bel_agg, bel_tup, bel_ref, bel_only, bel_mpr, bel_fn, bel_sl_nil, bel_sl_nilF, bel_sl_nilO, bel_sl_cons, bel_sl_app, belO_cells, belO_tok, belO_dead, belO_deferred, belO_map, belO_iter, belO_loop, bel_vec, bel_vp, belO_vecM, belO_vec]
           · rw [hn0]
             simp [AV.bare, bel_ints, cs_arr, dep_arr, cs_int, cs_bool, cs_list, cs_sk, cs_sp, AtHead, Same, AllO, Begins, LtAll, headSt, tokz_nil, tokz_cons, tokz1, lk, dep_int, dep_bool, dep_list, dep_sk, dep_sp, memAt, bel_map, bel_mapF, bel_mapO, bel_undef, bel_int, bel_boolv, bel_nilp, bel_nilf, bel_ptr, bel_arr, bel_mp, bel_yld, bel_agg, bel_tup, bel_ref, bel_only, bel_mpr, bel_fn, bel_sl_nil, bel_sl_nilF, bel_sl_nilO, bel_sl_cons, bel_sl_app, belO_cells, belO_tok, belO_dead, belO_deferred, belO_map, belO_iter, belO_loop, bel_vec, bel_vp, belO_vecM, belO_vec, hLs, hv, -List.map_map])
  · rintro ⟨J, mk⟩ hJ
    simp (maxSteps := 4000000) only [go_sem, AV.one, drawV, intsOf, keyIdx, over, putO, memAt, List.map_cons, List.length_cons, ↓reduceIte, zdrop, one_i, one_b, one_sl, one_ptr, one_ref, one_nilp, one_mp, one_fn, one_nilf, Int.lt_irrefl, headJ]
    refine doneA_marks (fun mem => ?_) _ _ (fun l hl => ?_) hJ.nd
    · simp (maxSteps := 4000000) only [go_sem, AV.one, drawV, intsOf, keyIdx, over, putO, memAt, List.map_cons, List.length_cons, ↓reduceIte, zdrop, one_i, one_b, one_sl, one_ptr, one_ref, one_nilp, one_mp, one_fn, one_nilf, doneA]
      all_goals (repeat' (first | with_reducible rfl | with_reducible apply And.intro | ((with_reducible show drawOK _ _ = true); rfl))) <;> (try first | omega | (simp only [InR]; omega) | with_reducible assumption)
    · have h1 := hJ.lt l hl
      have h2 := hJ.df l hl
      rw [← h2]
      obtain ⟨l', rfl⟩ : ∃ l', l = 2 + l' := ⟨l - 2, by omega⟩
      rw [Nat.add_sub_cancel_left]
      exact memAt_app [_, _] J l'
end Go.Proofs
