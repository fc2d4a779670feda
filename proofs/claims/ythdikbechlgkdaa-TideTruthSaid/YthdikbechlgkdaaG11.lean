/- The texts S15, S16, S17, S18, joined. -/
import Derived.Test.YthdikbechlgkdaaG10
set_option linter.all false
namespace Go.Proofs
open Go.Fs
set_option linter.unusedSimpArgs false
set_option linter.unusedVariables false
set_option maxHeartbeats 4000000
set_option maxRecDepth 8000
def soonestW (w : Wk) (s : Arr 10) (level : Int) : Int :=
  match wetN s.l level (w.t.last + 1).toNat with
  | [] => w.t.last + 1
  | x :: _ => x
theorem soonest_call (w : Wk) (s : Arr 10) (level z : Int) (h : 0 ≤ w.t.last ∧ w.t.last ≤ 9) : CallP Try.prog 49 [Enc.enc w, Enc.enc s, Enc.enc level, Enc.enc z] (· = Enc.enc (soonestW w s level)) := by
  have h1 := h.1
  have h2 := h.2
  have h10 := s.h
  unfold soonestW
  have hle := wetN_len s.l level (w.t.last + 1).toNat
  cases c : wetN s.l level (w.t.last + 1).toNat
  · simp only [enc_wk, wkC]
    simp only [enc_fnl, enc_fnb, enc_fnc, enc_refc, enc_arr, enc_int, enc_bool, enc_list, enc_rg, enc_mk, enc_tb]
    refine callP_of_vc (Φ := P39) Try.func49 rfl (by rfl) (by rw [Try.ntmps49]; simp) mixed P39_ok (by simp [AV.strip, AV.strip1, Tk.strip]) ?_
    rw [Try.ntmps49]
    simp only [Try.f49, startSt, tmFrom]
    simp (maxSteps := 4000000) only [go_sem, drawV, intsOf, keyIdx, over, putO, memAt, List.map_cons, List.length_cons, ↓reduceIte, enc_pair, enc_iterv, zdrop, one_i, one_b, one_sl, one_ptr, one_ref, one_nilp, one_mp, c, h10]
    all_goals (repeat' (first | with_reducible rfl | with_reducible apply And.intro | ((with_reducible show drawOK _ _ = true); rfl))) <;> (try first | omega | (simp only [InR]; omega) | with_reducible assumption)
  · rename_i x r
    simp only [enc_wk, wkC]
    simp only [enc_fnl, enc_fnb, enc_fnc, enc_refc, enc_arr, enc_int, enc_bool, enc_list, enc_rg, enc_mk, enc_tb]
    refine callP_of_vc (Φ := P39) Try.func49 rfl (by rfl) (by rw [Try.ntmps49]; simp) mixed P39_ok (by simp [AV.strip, AV.strip1, Tk.strip]) ?_
    rw [Try.ntmps49]
    simp only [Try.f49, startSt, tmFrom]
    simp (maxSteps := 4000000) only [go_sem, drawV, intsOf, keyIdx, over, putO, memAt, List.map_cons, List.length_cons, ↓reduceIte, enc_pair, enc_iterv, zdrop, one_i, one_b, one_sl, one_ptr, one_ref, one_nilp, one_mp, c, h10, show ((0 : Int) < ((r.length + 1 : Nat) : Int)) by omega]
    all_goals (repeat' (first | with_reducible rfl | with_reducible apply And.intro | ((with_reducible show drawOK _ _ = true); rfl))) <;> (try first | omega | (simp only [InR]; omega) | with_reducible assumption)
theorem top_call (w : Wk) (s : Arr 10) (a b : Int) (h : 0 ≤ a ∧ a ≤ b ∧ b ≤ 9) : CallP Try.prog 38 [Enc.enc w, Enc.enc s, Enc.enc a, Enc.enc b] (· = Enc.enc (topL s.l a b)) := by
  have h10 := s.h
  simp only [enc_wk, wkC]
  simp only [enc_fnl, enc_fnb, enc_fnc, enc_refc, enc_arr, enc_int, enc_bool, enc_list, enc_rg, enc_mk, enc_tb]
  refine callP_of_vc (Φ := P39) Try.func38 rfl (by rfl) (by rw [Try.ntmps38]; simp) mixed P39_ok (by simp [AV.strip, AV.strip1, Tk.strip]) ?_
  rw [Try.ntmps38]
  simp only [Try.f38, startSt, tmFrom]
  simp (maxSteps := 4000000) only [go_sem, drawV, intsOf, keyIdx, over, putO, memAt, List.map_cons, List.length_cons, ↓reduceIte, enc_pair, enc_iterv, zdrop, one_i, one_b, one_sl, one_ptr, one_ref, one_nilp, one_mp, h10]
  all_goals (repeat' (first | with_reducible rfl | with_reducible apply And.intro | ((with_reducible show drawOK _ _ = true); rfl))) <;> (try first | omega | (simp only [InR]; omega) | with_reducible assumption)
def stepW (hour : Int) (r : Rg) (k : List Int) : Rg := if at_ k 0 = hour then widerR r (at_ k 1) else r
def heightsW (w : Wk) (hour : Int) : Rg := w.ks.foldl (stepW hour) ⟨at_ (at_ w.truth 0).l hour.toNat, at_ (at_ w.truth 0).l hour.toNat⟩
theorem stepW_comm (hour : Int) (r : Rg) (a b : List Int) : stepW hour (stepW hour r a) b = stepW hour (stepW hour r b) a := by
  unfold stepW widerR
  by_cases h1 : at_ a 0 = hour <;> by_cases h2 : at_ b 0 = hour <;> simp only [h1, h2, if_true, if_false, Rg.mk.injEq]
  constructor <;> omega
theorem fold_seen (ks : List (List Int)) (hour : Int) (r0 : Rg) (seen : List Nat) (hnd : seen.Nodup) (hlt : ∀ i ∈ seen, i < ks.length) (hall : ∀ i, i < ks.length → i ∈ seen) :
    seen.foldl (fun r i => stepW hour r (ks.getD i [])) r0 = ks.foldl (stepW hour) r0 := by
  have hp : seen.Perm (List.range ks.length) := (List.perm_ext_iff_of_nodup hnd List.nodup_range).2 fun i => ⟨fun q => by simpa using hlt i q, fun q => hall i (by simpa using q)⟩
  rw [List.Perm.foldl_eq' hp (fun x _ y _ z => stepW_comm hour z _ _)]
  have e : (List.range ks.length).map (fun i => ks.getD i []) = ks := by
    apply List.ext_getElem
    · simp
    · intro i h1 h2
      simp [List.getD, h2]
  conv => rhs; rw [← e]
  rw [List.foldl_map]
theorem heights_call' (w : Wk) (hour : Int) (h : (0 ≤ hour ∧ hour ≤ 9) ∧ 0 < w.truth.length ∧ ∀ k ∈ w.ks, k.length = 2) : CallP Try.prog 36 [Enc.enc w, Enc.enc hour] (· = Enc.enc (heightsW w hour)) := by
  obtain ⟨hour, rfl⟩ := Int.eq_ofNat_of_zero_le h.1.1
  have h0 := getD_mapA (f := EncE.cs) h.2.1
  have h10 := (at_ w.truth 0).h
  have hg := getD_ints (l := (at_ w.truth 0).l) (i := hour) (by omega)
  simp only [enc_wk, wkC]
  simp only [enc_fnl, enc_fnb, enc_fnc, enc_refc, enc_arr, enc_int, enc_bool, enc_list, enc_rg, enc_mk, enc_tb]
  refine callP_of_vc (Φ := P39) Try.func36 rfl (by rfl) (by rw [Try.ntmps36]; simp) mixed P39_ok (by simp [AV.strip, AV.strip1, Tk.strip]) ?_
  rw [Try.ntmps36]
  simp only [Try.f36, startSt, tmFrom]
  simp (maxSteps := 4000000) only [go_sem, drawV, intsOf, keyIdx, over, putO, memAt, List.map_cons, List.length_cons, ↓reduceIte, enc_pair, enc_iterv, zdrop, one_i, one_b, one_sl, one_ptr, one_ref, one_nilp, one_mp, h0, h10, hg]
  all_goals (repeat' (first | with_reducible rfl | with_reducible apply And.intro | ((with_reducible show drawOK _ _ = true); rfl))) <;> (try first | omega | (simp only [InR]; omega) | with_reducible assumption)
  have hkey : ∀ i, i < w.ks.length → w.ks.getD i [] = [at_ (w.ks.getD i []) 0, at_ (w.ks.getD i []) 1] := by
    intro i hi
    have h2 := h.2.2 (w.ks.getD i []) (by simp [List.getD, hi])
    generalize w.ks.getD i [] = k at h2
    match k, h2 with
    | [x, y], _ => rfl
  have hlast : ∀ (seen : List Nat) (i : Nat), (seen ++ [i]).getLast? = some i := fun seen i => by simp
  refine loopB [] [1, 4, 5, 28] (fun _ : List Nat => []) (fun seen m => (m.set 1 (.cells (EncE.cs (seen.foldl (fun r i => stepW hour r (w.ks.getD i [])) (⟨at_ (at_ w.truth 0).l hour, at_ (at_ w.truth 0).l hour⟩ : Rg))))).set 2 (.iter (.mpr w.ks (truesV w.ks.length)) w.ks.length seen)) (fun seen => seen.Nodup ∧ ∀ i ∈ seen, i < w.ks.length) (fun seen => w.ks.length - seen.length) ([]) ?_ ?_ ?_
  · simp
  · simp [AV.bare, bel_ints, cs_arr, dep_arr, cs_int, cs_bool, cs_list, cs_rg, cs_mk, AtHead, Same, AllO, Begins, LtAll, headSt, tokz_nil, tokz_cons, tokz1, lk, dep_int, dep_bool, dep_list, dep_rg, dep_mk, memAt, bel_map, bel_mapF, bel_mapO, bel_undef, bel_int, bel_boolv, bel_nilp, bel_nilf, bel_ptr, bel_arr, bel_mp, bel_yld, bel_agg, bel_tup, bel_ref, bel_only, bel_mpr, bel_fn, bel_sl_nil, bel_sl_nilF, bel_sl_nilO, bel_sl_cons, bel_sl_app, belO_cells, belO_tok, belO_dead, belO_deferred, belO_map, belO_iter, belO_loop, bel_vec, bel_vp, belO_vecM, belO_vec, belO_iter, belO_cells, truesV]
  · intro seen hI
    simp (maxSteps := 4000000) only [go_sem, drawV, intsOf, keyIdx, over, putO, memAt, List.map_cons, List.length_cons, ↓reduceIte, enc_pair, enc_iterv, zdrop, one_i, one_b, one_sl, one_ptr, one_ref, one_nilp, one_mp, hlast]
    refine ⟨fun i hi hn => ?_, fun hall => ?_⟩
    · obtain ⟨x, y, hk⟩ : ∃ x y, w.ks.getD i [] = [x, y] := ⟨_, _, hkey i hi⟩
      have hfold : (seen ++ [i]).foldl (fun r i => stepW hour r (w.ks.getD i [])) (⟨at_ (at_ w.truth 0).l hour, at_ (at_ w.truth 0).l hour⟩ : Rg) = stepW hour (seen.foldl (fun r i => stepW hour r (w.ks.getD i [])) ⟨at_ (at_ w.truth 0).l hour, at_ (at_ w.truth 0).l hour⟩) [x, y] := by
        rw [List.foldl_append]; simp only [List.foldl_cons, List.foldl_nil, hk]
      have hnd : (seen ++ [i]).Nodup ∧ ∀ j ∈ seen ++ [i], j < w.ks.length := by
        refine ⟨?_, fun j hj => ?_⟩
        · rw [List.nodup_append]
          exact ⟨hI.1, by simp, fun a ha b hb => by simp at hb; subst hb; intro q; subst q; exact hn ha⟩
        · rcases List.mem_append.1 hj with hj | hj
          · exact hI.2 j hj
          · simp at hj; subst hj; exact hi
      have hlt : seen.length < w.ks.length := by
        have h1 : (seen ++ [i]).length ≤ (List.range w.ks.length).length := List.Nodup.length_le_of_subset hnd.1 fun j hj => by simpa using hnd.2 j hj
        simp at h1
        omega
      cases c : decide (x = (hour : Int)) <;>
        simp (maxSteps := 4000000) only [go_sem, drawV, intsOf, keyIdx, over, putO, memAt, List.map_cons, List.length_cons, ↓reduceIte, enc_pair, enc_iterv, zdrop, one_i, one_b, one_sl, one_ptr, one_ref, one_nilp, one_mp, hk, keyA, c]
      all_goals all_goals (repeat' (first | with_reducible rfl | with_reducible apply And.intro | ((with_reducible show drawOK _ _ = true); rfl))) <;> (try first | omega | (simp only [InR]; omega) | with_reducible assumption)
      all_goals
        refine ⟨seen ++ [i], hnd, by simp; omega, atHead_weak ?_⟩
        simp only [hfold]
        simp at c
        simp [AV.bare, bel_ints, cs_arr, dep_arr, cs_int, cs_bool, cs_list, cs_rg, cs_mk, AtHead, Same, AllO, Begins, LtAll, headSt, tokz_nil, tokz_cons, tokz1, lk, dep_int, dep_bool, dep_list, dep_rg, dep_mk, memAt, bel_map, bel_mapF, bel_mapO, bel_undef, bel_int, bel_boolv, bel_nilp, bel_nilf, bel_ptr, bel_arr, bel_mp, bel_yld, bel_agg, bel_tup, bel_ref, bel_only, bel_mpr, bel_fn, bel_sl_nil, bel_sl_nilF, bel_sl_nilO, bel_sl_cons, bel_sl_app, belO_cells, belO_tok, belO_dead, belO_deferred, belO_map, belO_iter, belO_loop, bel_vec, bel_vp, belO_vecM, belO_vec, stepW, at_, c, belO_iter, belO_cells, truesV]
    · rw [fold_seen w.ks hour _ seen hI.1 hI.2 hall]
      rfl
def P40 : Specs := addSpec 36 (spec2 (fun (w : Wk) (hour : Int) => (0 ≤ hour ∧ hour ≤ 9) ∧ 0 < w.truth.length ∧ ∀ k ∈ w.ks, k.length = 2) heightsW) (P39)
theorem P40_app (g : FuncId) : P40 g = (addSpec 36 (spec2 (fun (w : Wk) (hour : Int) => (0 ≤ hour ∧ hour ≤ 9) ∧ 0 < w.truth.length ∧ ∀ k ∈ w.ks, k.length = 2) heightsW) (P39)) g := rfl
theorem P40_ok : SpecsOk Try.prog P40 := addSpec_ok (spec2_ok heights_call') (P39_ok)
attribute [go_sem] P40_app
theorem P40_flag (d : Option Nat) : flagOf P40 d = none := (flagOf_add (by decide) d).trans (P39_flag d)
attribute [go_sem] P40_flag
end Go.Proofs
namespace Go.Proofs
open Go.Fs
set_option linter.unusedSimpArgs false
set_option linter.unusedVariables false
set_option maxHeartbeats 4000000
set_option maxRecDepth 8000
def P41 : Specs := addSpec 49 (spec4 (fun (w : Wk) (_ : Arr 10) (_ _ : Int) => 0 ≤ w.t.last ∧ w.t.last ≤ 9) (fun w s level _ => soonestW w s level)) (addSpec 38 (spec4 (fun (_ : Wk) (_ : Arr 10) (a b : Int) => 0 ≤ a ∧ a ≤ b ∧ b ≤ 9) (fun _ s a b => topL s.l a b)) (P40))
theorem P41_app (g : FuncId) : P41 g = (addSpec 49 (spec4 (fun (w : Wk) (_ : Arr 10) (_ _ : Int) => 0 ≤ w.t.last ∧ w.t.last ≤ 9) (fun w s level _ => soonestW w s level)) (addSpec 38 (spec4 (fun (_ : Wk) (_ : Arr 10) (a b : Int) => 0 ≤ a ∧ a ≤ b ∧ b ≤ 9) (fun _ s a b => topL s.l a b)) (P40))) g := rfl
theorem P41_ok : SpecsOk Try.prog P41 := addSpec_ok (spec4_ok soonest_call) (addSpec_ok (spec4_ok top_call) (P40_ok))
attribute [go_sem] P41_app
theorem P41_flag (d : Option Nat) : flagOf P41 d = none := (flagOf_add (by decide) d).trans ((flagOf_add (by decide) d).trans (P40_flag d))
attribute [go_sem] P41_flag
theorem snap_trues {k : Nat} {mem : List AObj} (n : Nat) : (truesV n).map (snap (k + 1) mem) = truesV n := by simp [truesV, snap]
theorem imm_trues {k : Nat} (n : Nat) : (∀ c ∈ truesV n, imm (k + 1) c) = True := by simp [truesV, imm]
theorem dec_wk (w : Wk) : (Enc.dec (.ref [.int .i64 w.t.last, .sl (w.t.heights.map EncE.cs) .no, .int .i64 w.t.step, .sl (w.t.levels.map EncE.cs) .no, .sl (w.t.marks.map EncE.cs) .no, .sl (w.truth.map EncE.cs) .no, .mpr w.ks (truesV w.ks.length)] 0) : Option Wk) = some w := by
  show decWk _ = _
  simp only [decWk, decL_map, decT_trues, if_true]
inductive Qn where
  | soon
  | top
def Qn.fn : Qn → Nat
  | .soon => 49
  | .top => 38
instance : Enc Qn where
  enc q := .agg [.fn (.func q.fn) [] []]
  dec
    | .agg [.fn (.func g) [] []] => if g = Qn.fn .soon then some .soon else if g = Qn.fn .top then some .top else none
    | _ => none
  law v x h := by
    split at h
    · split at h
      · rename_i e; cases h; rw [e] <;> rfl
      · split at h
        · rename_i e; cases h; rw [e] <;> rfl
        · cases h
    · cases h
  dep := 2
  ok x := by simp [pureN]
theorem enc_qn (q : Qn) : Enc.enc q = .agg [.fn (.func q.fn) [] []] := rfl
theorem dec_qn_s : (Enc.dec (.agg [.fn (.func 49) [] []]) : Option Qn) = some .soon := rfl
theorem dec_qn_t : (Enc.dec (.agg [.fn (.func 38) [] []]) : Option Qn) = some .top := rfl
def Qn.ask (q : Qn) (w : Wk) (x y : Int) (s : Arr 10) : Int :=
  match q with
  | .soon => soonestW w s x
  | .top => topL s.l x y
def Qn.pre (q : Qn) (w : Wk) (x y : Int) : Prop :=
  match q with
  | .soon => 0 ≤ w.t.last ∧ w.t.last ≤ 9
  | .top => 0 ≤ x ∧ x ≤ y ∧ y ≤ 9
def boundsW (q : Qn) (w : Wk) (x y : Int) : Rg := w.truth.foldl (fun r s => widerR r (q.ask w x y s)) ⟨q.ask w x y (at_ w.truth 0), q.ask w x y (at_ w.truth 0)⟩
theorem bounds_call (q : Qn) (w : Wk) (x y : Int) (h : (0 < w.truth.length ∧ w.truth.length ≤ 4096) ∧ q.pre w x y) : CallP Try.prog 39 [Enc.enc q, Enc.enc w, Enc.enc x, Enc.enc y] (· = Enc.enc (boundsW q w x y)) := by
  obtain ⟨⟨h1, h2⟩, h3⟩ := h
  have h0 := getD_mapA (f := EncE.cs) h1
  have h10 := (at_ w.truth 0).h
  have h1' : (0 : Int) < w.truth.length := by omega
  simp only [enc_wk, wkC, enc_qn]
  cases q
  · simp only [Qn.fn, Qn.pre] at h3 ⊢
    simp only [enc_fnl, enc_fnb, enc_fnc, enc_refc, enc_arr, enc_int, enc_bool, enc_list, enc_rg, enc_mk, enc_tb]
    refine callP_of_vc (Φ := P41) Try.func39 rfl (by rfl) (by rw [Try.ntmps39]; simp) mixed P41_ok (by simp [AV.strip, AV.strip1, Tk.strip]) ?_
    rw [Try.ntmps39]
    simp only [Try.f39, startSt, tmFrom]
    simp (maxSteps := 4000000) only [go_sem, drawV, intsOf, keyIdx, over, putO, memAt, List.map_cons, List.length_cons, ↓reduceIte, snap_trues, imm_trues, dec_wk, dec_qn_s, dec_qn_t, enc_pair, enc_iterv, zdrop, one_i, one_b, one_sl, one_ptr, one_ref, one_nilp, one_mp, h0, h10, h1']
    all_goals (repeat' (first | with_reducible rfl | with_reducible apply And.intro | ((with_reducible show drawOK _ _ = true); rfl))) <;> (try first | omega | (simp only [InR]; omega) | with_reducible assumption)
    refine loopN (w.truth.length) [] [1, 2, 3, 4, 8, 10, 31, 32] (fun i => [(33, .int .i64 i)]) (fun i m => m.set 2 (.cells (EncE.cs ((w.truth.take i).foldl (fun r s => widerR r (Qn.soon.ask w x y s)) (⟨Qn.soon.ask w x y (at_ w.truth 0), Qn.soon.ask w x y (at_ w.truth 0)⟩ : Rg))))) (fun _ => True) ?_ ?_ ?_ ?_
    · trivial
    · simp [AV.bare, bel_ints, cs_arr, dep_arr, cs_int, cs_bool, cs_list, cs_rg, cs_mk, AtHead, Same, AllO, Begins, LtAll, headSt, tokz_nil, tokz_cons, tokz1, lk, dep_int, dep_bool, dep_list, dep_rg, dep_mk, memAt, bel_map, bel_mapF, bel_mapO, bel_undef, bel_int, bel_boolv, bel_nilp, bel_nilf, bel_ptr, bel_arr, bel_mp, bel_yld, bel_agg, bel_tup, bel_ref, bel_only, bel_mpr, bel_fn, bel_sl_nil, bel_sl_nilF, bel_sl_nilO, bel_sl_cons, bel_sl_app, belO_cells, belO_tok, belO_dead, belO_deferred, belO_map, belO_iter, belO_loop, bel_vec, bel_vp, belO_vecM, belO_vec, Qn.ask, truesV]
    · intro i hi _
      have h10i := (at_ w.truth i).h
      simp (maxSteps := 4000000) only [go_sem, drawV, intsOf, keyIdx, over, putO, memAt, List.map_cons, List.length_cons, ↓reduceIte, snap_trues, imm_trues, dec_wk, dec_qn_s, dec_qn_t, enc_pair, enc_iterv, zdrop, one_i, one_b, one_sl, one_ptr, one_ref, one_nilp, one_mp, getD_mapA hi, Int.ofNat_lt.2 hi, h10i]
      all_goals (repeat' (first | with_reducible rfl | with_reducible apply And.intro | ((with_reducible show drawOK _ _ = true); rfl))) <;> (try first | omega | (simp only [InR]; omega) | with_reducible assumption)
      refine nxt hi trivial ?_
      simp [AV.bare, bel_ints, cs_arr, dep_arr, cs_int, cs_bool, cs_list, cs_rg, cs_mk, AtHead, Same, AllO, Begins, LtAll, headSt, tokz_nil, tokz_cons, tokz1, lk, dep_int, dep_bool, dep_list, dep_rg, dep_mk, memAt, bel_map, bel_mapF, bel_mapO, bel_undef, bel_int, bel_boolv, bel_nilp, bel_nilf, bel_ptr, bel_arr, bel_mp, bel_yld, bel_agg, bel_tup, bel_ref, bel_only, bel_mpr, bel_fn, bel_sl_nil, bel_sl_nilF, bel_sl_nilO, bel_sl_cons, bel_sl_app, belO_cells, belO_tok, belO_dead, belO_deferred, belO_map, belO_iter, belO_loop, bel_vec, bel_vp, belO_vecM, belO_vec, fold_take hi, Qn.ask, truesV]
    · intro _
      simp (maxSteps := 4000000) only [go_sem, drawV, intsOf, keyIdx, over, putO, memAt, List.map_cons, List.length_cons, ↓reduceIte, snap_trues, imm_trues, dec_wk, dec_qn_s, dec_qn_t, enc_pair, enc_iterv, zdrop, one_i, one_b, one_sl, one_ptr, one_ref, one_nilp, one_mp, List.take_length]
      rfl
  · simp only [Qn.fn, Qn.pre] at h3 ⊢
    simp only [enc_fnl, enc_fnb, enc_fnc, enc_refc, enc_arr, enc_int, enc_bool, enc_list, enc_rg, enc_mk, enc_tb]
    refine callP_of_vc (Φ := P41) Try.func39 rfl (by rfl) (by rw [Try.ntmps39]; simp) mixed P41_ok (by simp [AV.strip, AV.strip1, Tk.strip]) ?_
    rw [Try.ntmps39]
    simp only [Try.f39, startSt, tmFrom]
    simp (maxSteps := 4000000) only [go_sem, drawV, intsOf, keyIdx, over, putO, memAt, List.map_cons, List.length_cons, ↓reduceIte, snap_trues, imm_trues, dec_wk, dec_qn_s, dec_qn_t, enc_pair, enc_iterv, zdrop, one_i, one_b, one_sl, one_ptr, one_ref, one_nilp, one_mp, h0, h10, h1']
    all_goals (repeat' (first | with_reducible rfl | with_reducible apply And.intro | ((with_reducible show drawOK _ _ = true); rfl))) <;> (try first | omega | (simp only [InR]; omega) | with_reducible assumption)
    refine loopN (w.truth.length) [] [1, 2, 3, 4, 8, 10, 31, 32] (fun i => [(33, .int .i64 i)]) (fun i m => m.set 2 (.cells (EncE.cs ((w.truth.take i).foldl (fun r s => widerR r (Qn.top.ask w x y s)) (⟨Qn.top.ask w x y (at_ w.truth 0), Qn.top.ask w x y (at_ w.truth 0)⟩ : Rg))))) (fun _ => True) ?_ ?_ ?_ ?_
    · trivial
    · simp [AV.bare, bel_ints, cs_arr, dep_arr, cs_int, cs_bool, cs_list, cs_rg, cs_mk, AtHead, Same, AllO, Begins, LtAll, headSt, tokz_nil, tokz_cons, tokz1, lk, dep_int, dep_bool, dep_list, dep_rg, dep_mk, memAt, bel_map, bel_mapF, bel_mapO, bel_undef, bel_int, bel_boolv, bel_nilp, bel_nilf, bel_ptr, bel_arr, bel_mp, bel_yld, bel_agg, bel_tup, bel_ref, bel_only, bel_mpr, bel_fn, bel_sl_nil, bel_sl_nilF, bel_sl_nilO, bel_sl_cons, bel_sl_app, belO_cells, belO_tok, belO_dead, belO_deferred, belO_map, belO_iter, belO_loop, bel_vec, bel_vp, belO_vecM, belO_vec, Qn.ask, truesV]
    · intro i hi _
      have h10i := (at_ w.truth i).h
      simp (maxSteps := 4000000) only [go_sem, drawV, intsOf, keyIdx, over, putO, memAt, List.map_cons, List.length_cons, ↓reduceIte, snap_trues, imm_trues, dec_wk, dec_qn_s, dec_qn_t, enc_pair, enc_iterv, zdrop, one_i, one_b, one_sl, one_ptr, one_ref, one_nilp, one_mp, getD_mapA hi, Int.ofNat_lt.2 hi, h10i]
      all_goals (repeat' (first | with_reducible rfl | with_reducible apply And.intro | ((with_reducible show drawOK _ _ = true); rfl))) <;> (try first | omega | (simp only [InR]; omega) | with_reducible assumption)
      refine nxt hi trivial ?_
      simp [AV.bare, bel_ints, cs_arr, dep_arr, cs_int, cs_bool, cs_list, cs_rg, cs_mk, AtHead, Same, AllO, Begins, LtAll, headSt, tokz_nil, tokz_cons, tokz1, lk, dep_int, dep_bool, dep_list, dep_rg, dep_mk, memAt, bel_map, bel_mapF, bel_mapO, bel_undef, bel_int, bel_boolv, bel_nilp, bel_nilf, bel_ptr, bel_arr, bel_mp, bel_yld, bel_agg, bel_tup, bel_ref, bel_only, bel_mpr, bel_fn, bel_sl_nil, bel_sl_nilF, bel_sl_nilO, bel_sl_cons, bel_sl_app, belO_cells, belO_tok, belO_dead, belO_deferred, belO_map, belO_iter, belO_loop, bel_vec, bel_vp, belO_vecM, belO_vec, fold_take hi, Qn.ask, truesV]
    · intro _
      simp (maxSteps := 4000000) only [go_sem, drawV, intsOf, keyIdx, over, putO, memAt, List.map_cons, List.length_cons, ↓reduceIte, snap_trues, imm_trues, dec_wk, dec_qn_s, dec_qn_t, enc_pair, enc_iterv, zdrop, one_i, one_b, one_sl, one_ptr, one_ref, one_nilp, one_mp, List.take_length]
      rfl
def P42 : Specs := addSpec 39 (spec4 (fun (q : Qn) (w : Wk) (x y : Int) => (0 < w.truth.length ∧ w.truth.length ≤ 4096) ∧ q.pre w x y) boundsW) (P41)
theorem P42_app (g : FuncId) : P42 g = (addSpec 39 (spec4 (fun (q : Qn) (w : Wk) (x y : Int) => (0 < w.truth.length ∧ w.truth.length ≤ 4096) ∧ q.pre w x y) boundsW) (P41)) g := rfl
theorem P42_ok : SpecsOk Try.prog P42 := addSpec_ok (spec4_ok bounds_call) (P41_ok)
attribute [go_sem] P42_app
theorem P42_flag (d : Option Nat) : flagOf P42 d = none := (flagOf_add (by decide) d).trans (P41_flag d)
attribute [go_sem] P42_flag
end Go.Proofs
namespace Go.Proofs
open Go.Fs
set_option linter.unusedSimpArgs false
set_option linter.unusedVariables false
set_option maxHeartbeats 1000000
structure IsB (S : Int → Prop) (r : Rg) : Prop where
  all : ∀ x, S x → r.lo ≤ x ∧ x ≤ r.hi
  lo : S r.lo
  hi : S r.hi
theorem Rg.ext' {r s : Rg} (h1 : r.lo = s.lo) (h2 : r.hi = s.hi) : r = s := by cases r; cases s; simp_all
theorem IsB.congr {S T : Int → Prop} {r : Rg} (h : IsB S r) (hst : ∀ x, S x ↔ T x) : IsB T r :=
  ⟨fun x hx => h.all x ((hst x).2 hx), (hst _).1 h.lo, (hst _).1 h.hi⟩
theorem IsB.eq {S T : Int → Prop} {r s : Rg} (h : IsB S r) (h' : IsB T s) (hst : ∀ x, S x ↔ T x) : r = s := by
  have h2 := h.congr hst
  have a1 := h2.all _ h'.lo
  have a2 := h2.all _ h'.hi
  have a3 := h'.all _ h2.lo
  have a4 := h'.all _ h2.hi
  exact Rg.ext' (by omega) (by omega)
theorem IsB.le {S : Int → Prop} {r : Rg} (h : IsB S r) : r.lo ≤ r.hi := (h.all _ h.lo).2
theorem isB_wider {S : Int → Prop} {r : Rg} (h : IsB S r) (n : Int) : IsB (fun x => S x ∨ x = n) (widerR r n) := by
  refine ⟨fun x hx => ?_, ?_, ?_⟩
  · show min r.lo n ≤ x ∧ x ≤ max r.hi n
    rcases hx with hx | hx
    · have := h.all x hx; omega
    · omega
  · show S (min r.lo n) ∨ min r.lo n = n
    by_cases c : r.lo ≤ n
    · left; rw [Int.min_eq_left c]; exact h.lo
    · right; omega
  · show S (max r.hi n) ∨ max r.hi n = n
    by_cases c : n ≤ r.hi
    · left; rw [Int.max_eq_left c]; exact h.hi
    · right; omega
theorem isB_fold {α : Type} (f : α → Int) : ∀ (l : List α) (S : Int → Prop) (r : Rg), IsB S r → IsB (fun x => S x ∨ ∃ a ∈ l, f a = x) (l.foldl (fun r a => widerR r (f a)) r)
  | [], S, r, h => h.congr fun x => by simp
  | a :: l, S, r, h => by
    refine (isB_fold f l _ _ (isB_wider h (f a))).congr fun x => ?_
    simp only [List.mem_cons, exists_eq_or_imp, or_assoc]
    constructor
    · rintro (h | h | h)
      · exact .inl h
      · exact .inr (.inl h.symm)
      · exact .inr (.inr h)
    · rintro (h | h | h)
      · exact .inl h
      · exact .inr (.inl h.symm)
      · exact .inr (.inr h)
theorem isB_one (n : Int) : IsB (fun x => x = n) ⟨n, n⟩ := ⟨fun x h => by subst h; exact ⟨Int.le_refl _, Int.le_refl _⟩, rfl, rfl⟩
theorem isB_from {α : Type} (f : α → Int) (l : List α) (a : α) (h : a ∈ l) : IsB (fun x => ∃ a ∈ l, f a = x) (l.foldl (fun r a => widerR r (f a)) ⟨f a, f a⟩) := by
  refine (isB_fold f l _ _ (isB_one (f a))).congr fun x => ?_
  constructor
  · rintro (rfl | h')
    · exact ⟨a, h, rfl⟩
    · exact h'
  · exact .inr
theorem isB_empty {α : Type} (f : α → Int) (l : List α) (h : l ≠ []) (hb : ∀ a ∈ l, 0 ≤ f a ∧ f a ≤ 1099511627776) : IsB (fun x => ∃ a ∈ l, f a = x) (l.foldl (fun r a => widerR r (f a)) emptyR) := by
  cases l with
  | nil => exact absurd rfl h
  | cons a l =>
    have hba := hb a (by simp)
    have e : widerR emptyR (f a) = ⟨f a, f a⟩ := by
      unfold widerR emptyR
      exact Rg.ext' (by dsimp only; omega) (by dsimp only; omega)
    rw [List.foldl_cons, e]
    refine (isB_fold f l _ _ (isB_one (f a))).congr fun x => ?_
    simp only [List.mem_cons, exists_eq_or_imp]
    constructor
    · rintro (h | h)
      · exact .inl h.symm
      · exact .inr h
    · rintro (h | h)
      · exact .inl h.symm
      · exact .inr h
theorem fault_l0 {t : Tb} (h : faultT t = 0) : 0 ≤ t.last := by
  unfold faultT at h
  split at h
  · cases h
  split at h
  · cases h
  rename_i h10
  simp only [not_or] at h10
  omega
theorem runS_true {σ α : Type} (next : σ → α → σ) : ∀ (l : List α) (a : σ), runS (fun _ _ => true) next a l = (l.foldl next a, true)
  | [], a => rfl
  | p :: l, a => by simp only [runS, if_true, List.foldl_cons]; exact runS_true next l _
theorem mem_addK {ks : List (List Int)} {k x : List Int} : x ∈ addK ks k ↔ x ∈ ks ∨ x = k := by
  unfold addK
  split
  · rename_i h
    constructor
    · exact .inl
    · rintro (h1 | rfl)
      · exact h1
      · exact h
  · simp
theorem mem_addKs {ks : List (List Int)} {p x : List Int} : ∀ n, x ∈ addKs ks p n ↔ x ∈ ks ∨ ∃ i : Nat, i < n ∧ x = [(i : Int), at_ p i]
  | 0 => by simp [addKs]
  | n + 1 => by
    rw [addKs, mem_addK, mem_addKs n]
    constructor
    · rintro ((h | ⟨i, hi, rfl⟩) | rfl)
      · exact .inl h
      · exact .inr ⟨i, by omega, rfl⟩
      · exact .inr ⟨n, by omega, rfl⟩
    · rintro (h | ⟨i, hi, rfl⟩)
      · exact .inl (.inl h)
      · by_cases c : i = n
        · subst c; exact .inr rfl
        · exact .inl (.inr ⟨i, by omega, rfl⟩)
theorem pad10_inj {a b : List Int} (h1 : a.length = b.length) (h2 : b.length ≤ 10) (h : pad10 a = pad10 b) : a = b := by
  unfold pad10 at h
  rw [List.take_of_length_le (by omega), List.take_of_length_le h2] at h
  exact (List.append_inj h h1).1
structure Met (t : Tb) (n : Nat) (a : List (List Int) × List (List Int)) : Prop where
  len : ∀ p ∈ a.1, p.length = n
  key : ∀ k ∈ a.2, ∃ p ∈ a.1, ∃ i : Nat, i < n ∧ k = [(i : Int), at_ p i]
  all : ∀ p ∈ a.1, ∀ i : Nat, i < n → [(i : Int), at_ p i] ∈ a.2
theorem met_step {t : Tb} {n : Nat} (hn : (t.last + 1).toNat = n) {a : List (List Int) × List (List Int)} {p : List Int} (h : Met t n a) (hp : p.length = n) : Met t n (askN t a p) := by
  unfold askN
  split
  · rw [hn]
    refine ⟨fun q hq => ?_, fun k hk => ?_, fun q hq i hi => ?_⟩
    · rcases List.mem_append.1 hq with hq | hq
      · exact h.len q hq
      · simp at hq; subst hq; exact hp
    · rcases (mem_addKs n).1 hk with hk | ⟨i, hi, rfl⟩
      · obtain ⟨q, hq, i, hi, rfl⟩ := h.key k hk
        exact ⟨q, List.mem_append_left _ hq, i, hi, rfl⟩
      · exact ⟨p, by simp, i, hi, rfl⟩
    · rcases List.mem_append.1 hq with hq | hq
      · exact (mem_addKs n).2 (.inl (h.all q hq i hi))
      · simp at hq; subst hq
        exact (mem_addKs n).2 (.inr ⟨i, hi, rfl⟩)
  · exact h
theorem met_mono {t : Tb} {a : List (List Int) × List (List Int)} {p q : List Int} (h : q ∈ a.1) : q ∈ (askN t a p).1 := by
  unfold askN
  split
  · exact List.mem_append_left _ h
  · exact h
theorem met_add {t : Tb} {n : Nat} (h10 : n ≤ 10) {a : List (List Int) × List (List Int)} {p : List Int} (h : Met t n a) (hp : p.length = n) (hr : right2 t (pad10 p) [] t.marks.length = true) : p ∈ (askN t a p).1 := by
  unfold askN
  split
  · simp
  · rename_i c
    rw [hr, Bool.true_and, Bool.not_eq_true, Bool.not_eq_false', Bool.and_eq_true] at c
    have c1 : 0 < a.1.length := by simpa using c.1
    have c2 : pad10 (at_ a.1 (a.1.length - 1)) = pad10 p := by simpa using c.2
    have hm := at_mem (l := a.1) (i := a.1.length - 1) (by omega)
    have := pad10_inj (by rw [h.len _ hm, hp]) (by omega) c2
    rw [← this]; exact hm
theorem met_fold {t : Tb} {n : Nat} (hn : (t.last + 1).toNat = n) (h10 : n ≤ 10) : ∀ (l : List (List Int)) (a : List (List Int) × List (List Int)), (∀ p ∈ l, p.length = n) → Met t n a →
    Met t n (l.foldl (askN t) a) ∧ (∀ q ∈ a.1, q ∈ (l.foldl (askN t) a).1) ∧ ∀ p ∈ l, right2 t (pad10 p) [] t.marks.length = true → p ∈ (l.foldl (askN t) a).1
  | [], a, hl, h => ⟨h, fun q hq => hq, fun p hp => by cases hp⟩
  | p :: l, a, hl, h => by
    have hp := hl p (by simp)
    obtain ⟨h1, h2, h3⟩ := met_fold hn h10 l (askN t a p) (fun q hq => hl q (by simp [hq])) (met_step hn h hp)
    refine ⟨h1, fun q hq => h2 q (met_mono hq), fun q hq hr => ?_⟩
    rcases List.mem_cons.1 hq with rfl | hq
    · exact h2 _ (met_add h10 h hp hr)
    · exact h3 q hq hr
theorem seqL_length {t : Tb} (hv : VOk t) {p : List Int} (h : p ∈ seqL t) : p.length = (t.last + 1).toNat := by
  have := listedB_len ((mem_seqL hv.hok hv.last p).1 h)
  have := hv.last
  omega
theorem askS_met {t : Tb} (hv : VOk t) : Met t (t.last + 1).toNat (askS t) ∧ ∀ p, p ∈ (askS t).1 ↔ p ∈ seqL t ∧ right2 t (pad10 p) [] t.marks.length = true := by
  have h10 : (t.last + 1).toNat ≤ 10 := by have := hv.last; have := hv.hok.len; omega
  have e : askS t = (seqL t).foldl (askN t) ([], []) := by unfold askS; rw [runS_true]
  obtain ⟨h1, _, h3⟩ := met_fold rfl h10 (seqL t) ([], []) (fun p hp => seqL_length hv hp) ⟨by simp, by simp, by simp⟩
  rw [← e] at h1 h3
  refine ⟨h1, fun p => ⟨fun hp => ?_, fun hp => h3 p hp.1 hp.2⟩⟩
  rcases askS_mem (seqL t) ([], []) p hp with h | h
  · simp at h
  · exact h
theorem right2_listed {t : Tb} (hv : VOk t) {p : List Int} (h : listedB t p = true) : right2 t (pad10 p) [] t.marks.length = t.marks.all (rightM p) := by
  rw [right_nil]
  have hl := listedB_len h
  refine all_congr' fun m hm => ?_
  have := hv.mok.m m hm
  exact rightM_pad (by have := hv.hok.len; omega) (by omega) (by omega)
theorem mem_truthsL {t : Tb} (hv : VOk t) (p : List Int) : p ∈ truthsL t ↔ isTruthB t p = true := by
  unfold truthsL
  rw [List.mem_filter, mem_listsL hv.hok hv.many]
  constructor
  · exact fun h => h.2
  · intro h
    refine ⟨?_, h⟩
    unfold isTruthB at h
    simp only [Bool.and_eq_true] at h
    exact h.1
theorem askS_truths {t : Tb} (hv : VOk t) (p : List Int) : p ∈ (askS t).1 ↔ p ∈ truthsL t := by
  rw [(askS_met hv).2 p, mem_seqL hv.hok hv.last, mem_truthsL hv]
  unfold isTruthB
  rw [Bool.and_eq_true]
  constructor
  · rintro ⟨h1, h2⟩
    rw [right2_listed hv h1] at h2
    exact ⟨h1, h2⟩
  · rintro ⟨h1, h2⟩
    rw [right2_listed hv h1]
    exact ⟨h1, h2⟩
theorem askS_nil {t : Tb} (hv : VOk t) : (askS t).1.length = 0 ↔ truthsL t = [] := by
  rw [List.length_eq_zero_iff]
  constructor
  · intro h
    refine List.eq_nil_iff_forall_not_mem.2 fun p hp => ?_
    have := (askS_truths hv p).2 hp
    rw [h] at this; cases this
  · intro h
    refine List.eq_nil_iff_forall_not_mem.2 fun p hp => ?_
    have := (askS_truths hv p).1 hp
    rw [h] at this; cases this
theorem truth_len {t : Tb} (hv : VOk t) {p : List Int} (h : p ∈ truthsL t) : p.length = t.heights.length := by
  have := (mem_truthsL hv p).1 h
  unfold isTruthB at this
  rw [Bool.and_eq_true] at this
  exact listedB_len this.1
theorem truth_lok {t : Tb} (hv : VOk t) {p : List Int} (h : p ∈ truthsL t) : LOk p := by
  unfold truthsL at h
  exact (listsL_at hv.hok p (List.mem_filter.1 h).1).2
theorem truthsL_len {t : Tb} (hv : VOk t) : (truthsL t).length ≤ 3000 := by
  have := listsL_len hv.hok
  have := List.length_filter_le (isTruthB t) (listsL t)
  unfold truthsL; omega
def wkOf (t : Tb) : Wk := ⟨t, (askS t).1.map padA, (askS t).2⟩
theorem askS_key2 {t : Tb} (hv : VOk t) : ∀ k ∈ (wkOf t).ks, k.length = 2 := by
  intro k hk
  obtain ⟨p, _, i, _, rfl⟩ := (askS_met hv).1.key k hk
  rfl
theorem heights_isB {t : Tb} (hv : VOk t) (hne : truthsL t ≠ []) {hour : Int} (h0 : 0 ≤ hour) (h1 : hour ≤ t.last) : IsB (fun x => ∃ p ∈ truthsL t, at_ p hour.toNat = x) (heightsW (wkOf t) hour) := by
  obtain ⟨hm, ht⟩ := askS_met hv
  have hat := askS_truths hv
  have hne' : 0 < (askS t).1.length := by
    have := askS_nil hv
    rcases Nat.eq_zero_or_pos (askS t).1.length with h | h
    · exact absurd (this.1 h) hne
    · exact h
  have h10 : t.heights.length ≤ 10 := hv.hok.len
  have hl := hv.last
  have e0 : at_ (at_ (wkOf t).truth 0).l hour.toNat = at_ (at_ (askS t).1 0) hour.toNat := by
    have : at_ (wkOf t).truth 0 = padA (at_ (askS t).1 0) := by
      show at_ ((askS t).1.map padA) 0 = _
      simp [at_, List.getD, hne']
    rw [this]
    have hmm := at_mem hne'
    exact pad_at (by rw [hm.len _ hmm]; omega) (by omega)
  unfold heightsW
  rw [e0]
  have e1 : (wkOf t).ks.foldl (stepW hour) ⟨at_ (at_ (askS t).1 0) hour.toNat, at_ (at_ (askS t).1 0) hour.toNat⟩ = ((askS t).2.filter fun k => decide (at_ k 0 = hour)).foldl (fun r k => widerR r (at_ k 1)) ⟨at_ (at_ (askS t).1 0) hour.toNat, at_ (at_ (askS t).1 0) hour.toNat⟩ := by
    rw [List.foldl_filter]
    simp only [decide_eq_true_eq]
    rfl
  rw [e1]
  have hk0 := hm.all _ (at_mem hne') hour.toNat (by omega)
  have := isB_from (fun k : List Int => at_ k 1) ((askS t).2.filter fun k => decide (at_ k 0 = hour)) [((hour.toNat : Nat) : Int), at_ (at_ (askS t).1 0) hour.toNat] (by
    rw [List.mem_filter]
    refine ⟨hk0, ?_⟩
    simp [at_]; omega)
  refine this.congr fun x => ?_
  constructor
  · rintro ⟨k, hk, rfl⟩
    rw [List.mem_filter] at hk
    obtain ⟨p, hp, i, hi, rfl⟩ := hm.key k hk.1
    have hi2 : (i : Int) = hour := by simpa [at_] using hk.2
    refine ⟨p, (hat p).1 hp, ?_⟩
    rw [show hour.toNat = i by omega]
    rfl
  · rintro ⟨p, hp, rfl⟩
    refine ⟨[((hour.toNat : Nat) : Int), at_ p hour.toNat], ?_, rfl⟩
    rw [List.mem_filter]
    refine ⟨hm.all p ((hat p).2 hp) _ (by omega), ?_⟩
    simp [at_]; omega
theorem boundsL_isB {t : Tb} (hv : VOk t) (hne : truthsL t ≠ []) {hour : Int} (h0 : 0 ≤ hour) (h1 : hour ≤ t.last) : IsB (fun x => ∃ p ∈ truthsL t, at_ p hour.toNat = x) (boundsL (truthsL t) hour) := by
  refine isB_empty (fun l : List Int => at_ l hour.toNat) (truthsL t) hne fun p hp => ?_
  have hl := truth_len hv hp
  have := hv.last
  have := (truth_lok hv hp).b _ (at_mem (show hour.toNat < p.length by omega))
  omega
theorem heights_bounds {t : Tb} (hv : VOk t) (hne : truthsL t ≠ []) {hour : Int} (h0 : 0 ≤ hour) (h1 : hour ≤ t.last) : heightsW (wkOf t) hour = boundsL (truthsL t) hour :=
  (heights_isB hv hne h0 h1).eq (boundsL_isB hv hne h0 h1) fun _ => Iff.rfl
theorem boundsW_isB {t : Tb} (hv : VOk t) (hne : truthsL t ≠ []) (q : Qn) (x y : Int) (f : List Int → Int) (hf : ∀ p ∈ truthsL t, q.ask (wkOf t) x y (padA p) = f p) : IsB (fun z => ∃ p ∈ truthsL t, f p = z) (boundsW q (wkOf t) x y) := by
  have hat := askS_truths hv
  have hne' : 0 < (askS t).1.length := by
    rcases Nat.eq_zero_or_pos (askS t).1.length with h | h
    · exact absurd ((askS_nil hv).1 h) hne
    · exact h
  unfold boundsW
  have := isB_from (fun s => q.ask (wkOf t) x y s) (wkOf t).truth (at_ (wkOf t).truth 0) (at_mem (by show 0 < ((askS t).1.map padA).length; simpa using hne'))
  refine this.congr fun z => ?_
  constructor
  · rintro ⟨s, hs, rfl⟩
    obtain ⟨p, hp, rfl⟩ := List.mem_map.1 hs
    exact ⟨p, (hat p).1 hp, (hf p ((hat p).1 hp)).symm⟩
  · rintro ⟨p, hp, rfl⟩
    exact ⟨padA p, List.mem_map.2 ⟨p, (hat p).2 hp, rfl⟩, hf p hp⟩
theorem soonest_pad {t : Tb} (hv : VOk t) {p : List Int} (hp : p ∈ truthsL t) (level : Int) : soonestW (wkOf t) (padA p) level = soonestL p level := by
  have hl := truth_len hv hp
  have h10 := hv.hok.len
  have h := hv.last
  have e : (t.last + 1).toNat = p.length := by omega
  unfold soonestW soonestL
  show (match wetN (pad10 p) level (t.last + 1).toNat with | [] => t.last + 1 | x :: _ => x) = _
  rw [e, wet_pad level (by omega)]
  cases wetL p level with
  | nil =>
    dsimp only
    have e2 : t.last + 1 = (p.length : Int) := by omega
    exact e2
  | cons x r => rfl
theorem top_pad {p : List Int} {a b : Int} (h10 : p.length ≤ 10) (h0 : 0 ≤ a) (h1 : b < p.length) : topL (pad10 p) a b = topL p a b := by
  unfold topL pad10
  rw [List.take_of_length_le h10, List.drop_append, List.take_append]
  by_cases c : a ≤ b
  · rw [show a.toNat - p.length = 0 by omega, List.drop_zero]
    rw [show (b + 1 - a).toNat - (p.drop a.toNat).length = 0 by simp; omega]
    simp
  · rw [show (b + 1 - a).toNat = 0 by omega]
    simp
theorem soonestL_bd {p : List Int} (h : LOk p) (level : Int) : 0 ≤ soonestL p level ∧ soonestL p level ≤ 4096 := by
  have := h.len
  unfold soonestL
  cases c : wetL p level with
  | nil => dsimp only; omega
  | cons x r =>
    have : x ∈ wetL p level := by rw [c]; simp
    unfold wetL wetN at this
    simp only [List.mem_map, List.mem_filter, List.mem_range] at this
    obtain ⟨i, ⟨hi, _⟩, rfl⟩ := this
    dsimp only; omega
theorem reachL_isB {t : Tb} (hv : VOk t) (hne : truthsL t ≠ []) (level : Int) : IsB (fun z => ∃ p ∈ truthsL t, soonestL p level = z) (reachL (truthsL t) level) := by
  refine isB_empty (fun l : List Int => soonestL l level) (truthsL t) hne fun p hp => ?_
  have := soonestL_bd (truth_lok hv hp) level
  omega
theorem soon_bounds {t : Tb} (hv : VOk t) (hne : truthsL t ≠ []) (level z : Int) : boundsW .soon (wkOf t) level z = reachL (truthsL t) level :=
  (boundsW_isB hv hne .soon level z (fun p => soonestL p level) fun p hp => soonest_pad hv hp level).eq (reachL_isB hv hne level) fun _ => Iff.rfl
theorem maxL_ge : ∀ (l : List Int) (x : Int), x ∈ l → x ≤ maxL l := by
  have key : ∀ (l : List Int) (a : Int), a ≤ l.foldl max a ∧ ∀ x ∈ l, x ≤ l.foldl max a := by
    intro l
    induction l with
    | nil => intro a; simp
    | cons y l ih =>
      intro a
      obtain ⟨h1, h2⟩ := ih (max a y)
      simp only [List.foldl_cons]
      refine ⟨by omega, fun x hx => ?_⟩
      rcases List.mem_cons.1 hx with rfl | hx
      · omega
      · exact h2 x hx
  intro l x hx
  cases l with
  | nil => cases hx
  | cons y l =>
    obtain ⟨h1, h2⟩ := key l y
    rcases List.mem_cons.1 hx with rfl | hx
    · exact h1
    · exact h2 x hx
theorem maxL_mem : ∀ (l : List Int), l ≠ [] → maxL l ∈ l := by
  have key : ∀ (l : List Int) (a : Int), l.foldl max a = a ∨ l.foldl max a ∈ l := by
    intro l
    induction l with
    | nil => intro a; exact .inl rfl
    | cons y l ih =>
      intro a
      simp only [List.foldl_cons]
      rcases ih (max a y) with h | h
      · rw [h]
        by_cases c : a ≤ y
        · right; rw [Int.max_eq_right c]; simp
        · left; omega
      · right; simp [h]
  intro l h
  cases l with
  | nil => exact absurd rfl h
  | cons y l =>
    rcases key l y with h | h
    · rw [maxL, h]; simp
    · exact List.mem_cons_of_mem _ h
theorem topL_ge {l : List Int} {a b : Int} (h0 : 0 ≤ a) {i : Nat} (h1 : a ≤ i) (h2 : (i : Int) ≤ b) (h3 : b < l.length) : at_ l i ≤ topL l a b := by
  refine maxL_ge _ _ ?_
  have e : at_ l i = at_ ((l.drop a.toNat).take (b + 1 - a).toNat) (i - a.toNat) := by
    simp only [at_, List.getD]
    rw [List.getElem?_take_of_lt (by omega), List.getElem?_drop, show a.toNat + (i - a.toNat) = i by omega]
  rw [e]
  exact at_mem (by simp; omega)
theorem topL_mem {l : List Int} {a b : Int} (h0 : 0 ≤ a) (h1 : a ≤ b) (h3 : b < l.length) : ∃ i : Nat, a ≤ i ∧ (i : Int) ≤ b ∧ topL l a b = at_ l i := by
  have hne : (l.drop a.toNat).take (b + 1 - a).toNat ≠ [] := by
    intro q
    have := congrArg List.length q
    simp at this
    omega
  obtain ⟨k, hk, e⟩ := List.getElem_of_mem (maxL_mem _ hne)
  have hk' : k < (b + 1 - a).toNat := by simp at hk; omega
  refine ⟨a.toNat + k, by omega, by omega, ?_⟩
  unfold topL
  rw [← e]
  simp only [List.getElem_take, List.getElem_drop]
  rw [at_get (by omega)]
theorem topL_bd {l : List Int} (h : LOk l) {a b : Int} (h0 : 0 ≤ a) (h1 : a ≤ b) (h3 : b < l.length) : 0 ≤ topL l a b ∧ topL l a b ≤ 99 := by
  obtain ⟨i, _, _, e⟩ := topL_mem h0 h1 h3
  rw [e]
  exact h.b _ (at_mem (by omega))
theorem isDryB_iff {ls : List (List Int)} {a b n : Int} {r : Rg} (h : IsB (fun z => ∃ p ∈ ls, topL p a b = z) r) : isDryB ls a b n = true ↔ r.hi ≤ n := by
  unfold isDryB
  rw [List.all_eq_true]
  constructor
  · intro q
    obtain ⟨p, hp, e⟩ := h.hi
    have := q p hp
    rw [e] at this
    simpa using this
  · intro q p hp
    have := h.all _ ⟨p, hp, rfl⟩
    simp; omega
theorem dryN_eq {ls : List (List Int)} {a b hi : Int} (h : ∀ n, isDryB ls a b n = true ↔ hi ≤ n) : ∀ (f : Nat) (n : Int), n ≤ hi → hi ≤ n + f → dryN ls a b f n = hi
  | 0, n, h1, h2 => by unfold dryN; omega
  | f + 1, n, h1, h2 => by
    unfold dryN
    by_cases c : hi ≤ n
    · rw [if_pos ((h n).2 c)]; omega
    · rw [if_neg (by rw [h n]; exact c)]
      exact dryN_eq h f (n + 1) (by omega) (by omega)
theorem top_isB {t : Tb} (hv : VOk t) (hne : truthsL t ≠ []) {a b : Int} (h0 : 0 ≤ a) (h1 : a ≤ b) (h2 : b ≤ t.last) : IsB (fun z => ∃ p ∈ truthsL t, topL p a b = z) (boundsW .top (wkOf t) a b) := by
  refine boundsW_isB hv hne .top a b (fun p => topL p a b) fun p hp => ?_
  have := truth_len hv hp
  have := hv.last
  exact top_pad (by have := hv.hok.len; omega) h0 (by omega)
theorem top_dry {t : Tb} (hv : VOk t) (hne : truthsL t ≠ []) {a b : Int} (h0 : 0 ≤ a) (h1 : a ≤ b) (h2 : b ≤ t.last) : (boundsW .top (wkOf t) a b).hi = dryL (truthsL t) a b ∧ 0 ≤ dryL (truthsL t) a b ∧ dryL (truthsL t) a b ≤ 99 := by
  have hB := top_isB hv hne h0 h1 h2
  obtain ⟨p, hp, e⟩ := hB.hi
  have hl := truth_len hv hp
  have := hv.last
  have hb := topL_bd (truth_lok hv hp) h0 h1 (by omega)
  rw [e] at hb
  have hd := dryN_eq (fun n => isDryB_iff (n := n) hB) 99 0 hb.1 (by omega)
  unfold dryL
  rw [hd]
  exact ⟨rfl, hb⟩
theorem wetMany_iff (ls : List (List Int)) (level : Int) (hour : Nat) : (wetMany ls level hour = ls.length ↔ ∀ l ∈ ls, level < at_ l hour) ∧ (wetMany ls level hour = 0 ↔ ∀ l ∈ ls, ¬ level < at_ l hour) := by
  have key : ∀ (ls : List (List Int)) (n : Int), ls.foldl (fun n l => if level < at_ l hour then n + 1 else n) n = n + ls.countP (fun l => decide (level < at_ l hour)) := by
    intro ls
    induction ls with
    | nil => intro n; simp
    | cons l ls ih =>
      intro n
      simp only [List.foldl_cons, List.countP_cons]
      by_cases c : level < at_ l hour
      · rw [if_pos c, ih]; simp [c]; omega
      · rw [if_neg c, ih]; simp [c]
  have e : wetMany ls level hour = (ls.countP (fun l => decide (level < at_ l hour)) : Nat) := by
    unfold wetMany; rw [key]; omega
  rw [e]
  constructor
  · rw [Int.natCast_inj, List.countP_eq_length]; simp
  · rw [show ((ls.countP (fun l => decide (level < at_ l hour)) : Nat) : Int) = 0 ↔ ls.countP (fun l => decide (level < at_ l hour)) = 0 by omega, List.countP_eq_zero]; simp
theorem verdict_iff {ls : List (List Int)} {level hour : Int} {r : Rg} (h : IsB (fun z => ∃ p ∈ ls, at_ p hour.toNat = z) r) : verdictL ls level hour = if level < r.lo then 1 else if r.hi ≤ level then 2 else 3 := by
  obtain ⟨w1, w2⟩ := wetMany_iff ls level hour.toNat
  obtain ⟨p, hp, ep⟩ := h.lo
  obtain ⟨q, hq, eq⟩ := h.hi
  have hlen : (0 : Int) < ls.length := by
    have := List.length_pos_of_mem hp
    omega
  unfold verdictL
  by_cases c1 : level < r.lo
  · rw [if_pos c1, if_pos (w1.2 fun l hl => by have := h.all _ ⟨l, hl, rfl⟩; omega)]
  · have n1 : ¬ wetMany ls level hour.toNat = ls.length := fun e => by have := w1.1 e p hp; omega
    rw [if_neg c1, if_neg n1]
    by_cases c2 : r.hi ≤ level
    · rw [if_pos c2, if_pos (w2.2 fun l hl => by have := h.all _ ⟨l, hl, rfl⟩; omega)]
    · rw [if_neg c2, if_neg fun e => by have := w2.1 e q hq; omega]
end Go.Proofs
namespace Go.Proofs
open Go.Fs
set_option linter.unusedSimpArgs false
set_option linter.unusedVariables false
set_option maxHeartbeats 4000000
set_option maxRecDepth 8000
theorem one_fn (f a b) : (AV.fn f a b).one = true := rfl
def askErr (t : Tb) (fine : Bool) : Int := if faultT t = 0 then if fine then if truthsL t = [] then 11 else 0 else 2 else faultT t
theorem ask_facts {t : Tb} {fine : Bool} (h : askErr t fine = 0) : faultT t = 0 ∧ fine = true ∧ truthsL t ≠ [] := by
  unfold askErr at h
  by_cases c : faultT t = 0
  · rw [if_pos c] at h
    cases fine
    · simp at h
    · rw [if_pos rfl] at h
      refine ⟨c, rfl, fun q => ?_⟩
      rw [if_pos q] at h
      simp at h
  · rw [if_neg c] at h; exact absurd h c
theorem asked_ok {t : Tb} {fine : Bool} (h : askErr t fine = 0) : askedR t fine = (some (wkOf t), 0) := by
  obtain ⟨h1, h2, h3⟩ := ask_facts h
  have hn := askS_nil (fault_ok h1)
  unfold askedR
  rw [if_pos h1, h2, if_pos rfl, if_neg (fun q => h3 (hn.1 q))]
  rfl
theorem asked_bad {t : Tb} {fine : Bool} (h : askErr t fine ≠ 0) : askedR t fine = (none, askErr t fine) := by
  unfold askedR askErr at *
  by_cases c : faultT t = 0
  · rw [if_pos c] at h ⊢
    rw [if_pos c]
    have hn := askS_nil (fault_ok c)
    cases fine
    · rfl
    · rw [if_pos rfl] at h ⊢
      rw [if_pos rfl]
      by_cases c2 : truthsL t = []
      · rw [if_pos (hn.2 c2), if_pos c2]
      · rw [if_neg c2] at h; exact absurd rfl h
  · rw [if_neg c, if_neg c]
structure WOk (t : Tb) (w : Wk) : Prop where
  wt : w.t = t
  n0 : 0 < w.truth.length
  n1 : w.truth.length ≤ 4096
  k : ∀ k ∈ w.ks, k.length = 2
  hb : ∀ i : Int, 0 ≤ i → i ≤ t.last → heightsW w i = boundsL (truthsL t) i
  sb : ∀ level z : Int, boundsW .soon w level z = reachL (truthsL t) level
  db : ∀ a b : Int, 0 ≤ a → a ≤ b → b ≤ t.last → (boundsW .top w a b).hi = dryL (truthsL t) a b
theorem wok_of {t : Tb} (hv : VOk t) (hne : truthsL t ≠ []) : ∃ w, wkOf t = w ∧ WOk t w := by
  have hl : (wkOf t).truth.length = (askS t).1.length := by show ((askS t).1.map padA).length = _; simp
  refine ⟨_, rfl, rfl, ?_, ?_, askS_key2 hv, fun i h0 h1 => heights_bounds hv hne h0 h1, fun level z => soon_bounds hv hne level z, fun a b h0 h1 h2 => (top_dry hv hne h0 h1 h2).1⟩
  · rw [hl]
    rcases Nat.eq_zero_or_pos (askS t).1.length with h | h
    · exact absurd ((askS_nil hv).1 h) hne
    · exact h
  · rw [hl]
    have e : askS t = (seqL t).foldl (askN t) ([], []) := by unfold askS; rw [runS_true]
    have key : ∀ (l : List (List Int)) (a : List (List Int) × List (List Int)), (l.foldl (askN t) a).1.length ≤ a.1.length + l.length := by
      intro l
      induction l with
      | nil => intro a; simp
      | cons p l ih =>
        intro a
        have := ih (askN t a p)
        have h1 : (askN t a p).1.length ≤ a.1.length + 1 := by unfold askN; split <;> simp
        simp only [List.foldl_cons, List.length_cons]
        omega
    have := key (seqL t) ([], [])
    have := seqL_len hv
    rw [e]
    simp at *
    omega
def bndQ (t : Tb) : List Rg × Int := if askErr t true = 0 then ((List.range (t.last + 1).toNat).map fun i : Nat => boundsL (truthsL t) i, 0) else ([], askErr t true)
theorem Bounds_prog (t : Tb) (h : t.heights.length ≤ 4096) : CallP Try.prog 11 [Enc.enc t] (· = Enc.enc (bndQ t)) := by
  simp only [enc_pair]
  unfold bndQ
  by_cases c : askErr t true = 0
  case neg =>
    have e := asked_bad c
    rw [if_neg c]
    simp only [enc_fnl, enc_fnb, enc_fnc, enc_refc, enc_arr, enc_int, enc_bool, enc_list, enc_rg, enc_mk, enc_tb]
    refine callP_of_vc (Φ := P42) Try.func11 rfl (by rfl) (by rw [Try.ntmps11]; simp) mixed P42_ok (by simp [AV.strip, AV.strip1, Tk.strip]) ?_
    rw [Try.ntmps11]
    simp only [Try.f11, startSt, tmFrom]
    simp (maxSteps := 4000000) only [go_sem, AV.one, drawV, intsOf, keyIdx, over, putO, memAt, List.map_cons, List.length_cons, ↓reduceIte, snap_trues, imm_trues, dec_wk, dec_qn_s, dec_qn_t, enc_qn, enc_pair, enc_iterv, zdrop, one_i, one_b, one_sl, one_ptr, one_ref, one_nilp, one_mp, one_fn, e, enc_none_wk, c]
    all_goals (repeat' (first | with_reducible rfl | with_reducible apply And.intro | ((with_reducible show drawOK _ _ = true); rfl))) <;> (try first | omega | (simp only [InR]; omega) | with_reducible assumption)
  rw [if_pos c]
  obtain ⟨hf, _, hne⟩ := ask_facts c
  have hv := fault_ok hf
  have e := asked_ok c
  obtain ⟨w, hw, hW⟩ := wok_of hv hne
  rw [hw] at e
  have hl0 := fault_l0 hf
  have hl9 := hv.l9
  have hk := hW.k
  have hn := hW.n0
  have ht := hW.wt
  simp only [enc_fnl, enc_fnb, enc_fnc, enc_refc, enc_arr, enc_int, enc_bool, enc_list, enc_rg, enc_mk, enc_tb]
  refine callP_of_vc (Φ := P42) Try.func11 rfl (by rfl) (by rw [Try.ntmps11]; simp) mixed P42_ok (by simp [AV.strip, AV.strip1, Tk.strip]) ?_
  rw [Try.ntmps11]
  simp only [Try.f11, startSt, tmFrom]
  simp (maxSteps := 4000000) only [go_sem, drawV, intsOf, keyIdx, over, putO, memAt, List.map_cons, List.length_cons, ↓reduceIte, snap_trues, imm_trues, dec_wk, dec_qn_s, dec_qn_t, enc_qn, enc_pair, enc_iterv, zdrop, one_i, one_b, one_sl, one_ptr, one_ref, one_nilp, one_mp, one_fn, e, enc_some_wk, wkC, c]
  all_goals (repeat' (first | with_reducible rfl | with_reducible apply And.intro | ((with_reducible show drawOK _ _ = true); rfl))) <;> (try first | omega | (simp only [InR]; omega) | with_reducible assumption)
  refine loopN ((t.last + 1).toNat) [.slot 6 2] [2, 3, 4, 18] (fun i => [(19, .int .i64 i), (6, .sl (((List.range i).map fun i : Nat => boundsL (truthsL t) i).map EncE.cs) (.own 1))]) (fun i m => m.set 1 (.tok i 2)) (fun _ => True) ?_ ?_ ?_ ?_
  · trivial
  · simp [AV.bare, bel_ints, cs_arr, dep_arr, cs_int, cs_bool, cs_list, cs_rg, cs_mk, AtHead, Same, AllO, Begins, LtAll, headSt, tokz_nil, tokz_cons, tokz1, lk, dep_int, dep_bool, dep_list, dep_rg, dep_mk, memAt, bel_map, bel_mapF, bel_mapO, bel_undef, bel_int, bel_boolv, bel_nilp, bel_nilf, bel_ptr, bel_arr, bel_mp, bel_yld, bel_agg, bel_tup, bel_ref, bel_only, bel_mpr, bel_fn, bel_sl_nil, bel_sl_nilF, bel_sl_nilO, bel_sl_cons, bel_sl_app, belO_cells, belO_tok, belO_dead, belO_deferred, belO_map, belO_iter, belO_loop, bel_vec, bel_vp, belO_vecM, belO_vec, truesV, -List.map_map]
  · intro i hi _
    have hi' : (i : Int) < t.last + 1 := by omega
    have hh := hW.hb i (by omega) (by omega)
    simp (maxSteps := 4000000) only [go_sem, drawV, intsOf, keyIdx, over, putO, memAt, List.map_cons, List.length_cons, ↓reduceIte, snap_trues, imm_trues, dec_wk, dec_qn_s, dec_qn_t, enc_qn, enc_pair, enc_iterv, zdrop, one_i, one_b, one_sl, one_ptr, one_ref, one_nilp, one_mp, one_fn, hi', hh, List.length_range]
    all_goals (repeat' (first | with_reducible rfl | with_reducible apply And.intro | ((with_reducible show drawOK _ _ = true); rfl))) <;> (try first | omega | (simp only [InR]; omega) | with_reducible assumption)
    refine nxt hi trivial ?_
    simp [AV.bare, bel_ints, cs_arr, dep_arr, cs_int, cs_bool, cs_list, cs_rg, cs_mk, AtHead, Same, AllO, Begins, LtAll, headSt, tokz_nil, tokz_cons, tokz1, lk, dep_int, dep_bool, dep_list, dep_rg, dep_mk, memAt, bel_map, bel_mapF, bel_mapO, bel_undef, bel_int, bel_boolv, bel_nilp, bel_nilf, bel_ptr, bel_arr, bel_mp, bel_yld, bel_agg, bel_tup, bel_ref, bel_only, bel_mpr, bel_fn, bel_sl_nil, bel_sl_nilF, bel_sl_nilO, bel_sl_cons, bel_sl_app, belO_cells, belO_tok, belO_dead, belO_deferred, belO_map, belO_iter, belO_loop, bel_vec, bel_vp, belO_vecM, belO_vec, truesV, List.range_succ, -List.map_map]
  · intro _
    have hi' : ¬ (((t.last + 1).toNat : Nat) : Int) < t.last + 1 := by omega
    simp (maxSteps := 4000000) only [go_sem, drawV, intsOf, keyIdx, over, putO, memAt, List.map_cons, List.length_cons, ↓reduceIte, snap_trues, imm_trues, dec_wk, dec_qn_s, dec_qn_t, enc_qn, enc_pair, enc_iterv, zdrop, one_i, one_b, one_sl, one_ptr, one_ref, one_nilp, one_mp, one_fn, hi', List.length_range]
    all_goals (repeat' (first | with_reducible rfl | with_reducible apply And.intro | ((with_reducible show drawOK _ _ = true); rfl))) <;> (try first | omega | (simp only [InR]; omega) | with_reducible assumption)
def wetQ (t : Tb) (row hour : Int) : Int × Int :=
  if askErr t (inB row 0 (t.levels.length - 1) && inB hour 0 t.last) = 0 then (verdictL (truthsL t) (at_ t.levels row.toNat) hour, 0) else (0, askErr t (inB row 0 (t.levels.length - 1) && inB hour 0 t.last))
theorem Wet_prog (t : Tb) (row hour : Int) (h : t.heights.length ≤ 4096 ∧ t.levels.length ≤ 4096) : CallP Try.prog 24 [Enc.enc t, Enc.enc row, Enc.enc hour] (· = Enc.enc (wetQ t row hour)) := by
  simp only [enc_pair]
  unfold wetQ
  have h1 := h.1
  have h2 := h.2
  by_cases c : askErr t (inB row 0 (t.levels.length - 1) && inB hour 0 t.last) = 0
  case neg =>
    have e := asked_bad c
    rw [if_neg c]
    cases b1 : inB row 0 (t.levels.length - 1)
    all_goals
      rw [b1] at e c
      simp only [Bool.true_and, Bool.false_and] at e c
      simp only [enc_fnl, enc_fnb, enc_fnc, enc_refc, enc_arr, enc_int, enc_bool, enc_list, enc_rg, enc_mk, enc_tb]
      refine callP_of_vc (Φ := P42) Try.func24 rfl (by rfl) (by rw [Try.ntmps24]; simp) mixed P42_ok (by simp [AV.strip, AV.strip1, Tk.strip]) ?_
      rw [Try.ntmps24]
      simp only [Try.f24, startSt, tmFrom]
      simp (maxSteps := 4000000) only [go_sem, AV.one, drawV, intsOf, keyIdx, over, putO, memAt, List.map_cons, List.length_cons, ↓reduceIte, snap_trues, imm_trues, dec_wk, dec_qn_s, dec_qn_t, enc_qn, enc_pair, enc_iterv, zdrop, one_i, one_b, one_sl, one_ptr, one_ref, one_nilp, one_mp, one_fn, e, enc_none_wk, c, b1]
      all_goals (repeat' (first | with_reducible rfl | with_reducible apply And.intro | ((with_reducible show drawOK _ _ = true); rfl))) <;> (try first | omega | (simp only [InR]; omega) | with_reducible assumption)
  rw [if_pos c]
  obtain ⟨hf, hfine, hne⟩ := ask_facts c
  rw [Bool.and_eq_true] at hfine
  obtain ⟨b1, b2⟩ := hfine
  have g1 := (inB_iff _ _ _).1 b1
  have g2 := (inB_iff _ _ _).1 b2
  have hv := fault_ok hf
  have e := asked_ok c
  obtain ⟨w, hw, hW⟩ := wok_of hv hne
  rw [hw] at e
  rw [b1, b2, Bool.and_self] at e
  have hl9 := hv.l9
  have hk := hW.k
  have hn := hW.n0
  have hh := hW.hb hour g2.1 g2.2
  have hB := verdict_iff (level := at_ t.levels row.toNat) (boundsL_isB hv hne g2.1 g2.2)
  obtain ⟨row, rfl⟩ := Int.eq_ofNat_of_zero_le g1.1
  have hlv := getD_mapA (f := EncE.cs) (l := t.levels) (i := row) (by omega)
  rw [hB]
  generalize boundsL (truthsL t) hour = r at hh
  simp only [Int.toNat_natCast]
  cases c1 : decide (at_ t.levels row < r.lo)
  · cases c2 : decide (r.hi ≤ at_ t.levels row)
    all_goals
      have d1 := c1
      have d2 := c2
      simp at d1 d2
      simp only [enc_fnl, enc_fnb, enc_fnc, enc_refc, enc_arr, enc_int, enc_bool, enc_list, enc_rg, enc_mk, enc_tb]
      refine callP_of_vc (Φ := P42) Try.func24 rfl (by rfl) (by rw [Try.ntmps24]; simp) mixed P42_ok (by simp [AV.strip, AV.strip1, Tk.strip]) ?_
      rw [Try.ntmps24]
      simp only [Try.f24, startSt, tmFrom]
      simp (maxSteps := 4000000) only [go_sem, drawV, intsOf, keyIdx, over, putO, memAt, List.map_cons, List.length_cons, ↓reduceIte, snap_trues, imm_trues, dec_wk, dec_qn_s, dec_qn_t, enc_qn, enc_pair, enc_iterv, zdrop, one_i, one_b, one_sl, one_ptr, one_ref, one_nilp, one_mp, one_fn, e, enc_some_wk, wkC, c, b1, b2, hh, hlv, c1, c2]
      all_goals (repeat' (first | with_reducible rfl | with_reducible apply And.intro | ((with_reducible show drawOK _ _ = true); rfl))) <;> (try first | omega | (simp only [InR]; omega) | with_reducible assumption)
      try simp [d1, d2]
      try omega
  · have d1 := c1
    simp at d1
    simp only [enc_fnl, enc_fnb, enc_fnc, enc_refc, enc_arr, enc_int, enc_bool, enc_list, enc_rg, enc_mk, enc_tb]
    refine callP_of_vc (Φ := P42) Try.func24 rfl (by rfl) (by rw [Try.ntmps24]; simp) mixed P42_ok (by simp [AV.strip, AV.strip1, Tk.strip]) ?_
    rw [Try.ntmps24]
    simp only [Try.f24, startSt, tmFrom]
    simp (maxSteps := 4000000) only [go_sem, drawV, intsOf, keyIdx, over, putO, memAt, List.map_cons, List.length_cons, ↓reduceIte, snap_trues, imm_trues, dec_wk, dec_qn_s, dec_qn_t, enc_qn, enc_pair, enc_iterv, zdrop, one_i, one_b, one_sl, one_ptr, one_ref, one_nilp, one_mp, one_fn, e, enc_some_wk, wkC, c, b1, b2, hh, hlv, c1]
    all_goals (repeat' (first | with_reducible rfl | with_reducible apply And.intro | ((with_reducible show drawOK _ _ = true); rfl))) <;> (try first | omega | (simp only [InR]; omega) | with_reducible assumption)
    try simp [d1]
    try omega
def rchQ (t : Tb) (row : Int) : Rg × Int :=
  if askErr t (inB row 0 (t.levels.length - 1)) = 0 then (reachL (truthsL t) (at_ t.levels row.toNat), 0) else (⟨0, 0⟩, askErr t (inB row 0 (t.levels.length - 1)))
theorem Reach_prog (t : Tb) (row : Int) (h : t.heights.length ≤ 4096 ∧ t.levels.length ≤ 4096) : CallP Try.prog 23 [Enc.enc t, Enc.enc row] (· = Enc.enc (rchQ t row)) := by
  simp only [enc_pair]
  unfold rchQ
  have h1 := h.1
  have h2 := h.2
  by_cases c : askErr t (inB row 0 (t.levels.length - 1)) = 0
  case neg =>
    have e := asked_bad c
    rw [if_neg c]
    simp only [enc_fnl, enc_fnb, enc_fnc, enc_refc, enc_arr, enc_int, enc_bool, enc_list, enc_rg, enc_mk, enc_tb]
    refine callP_of_vc (Φ := P42) Try.func23 rfl (by rfl) (by rw [Try.ntmps23]; simp) mixed P42_ok (by simp [AV.strip, AV.strip1, Tk.strip]) ?_
    rw [Try.ntmps23]
    simp only [Try.f23, startSt, tmFrom]
    simp (maxSteps := 4000000) only [go_sem, AV.one, drawV, intsOf, keyIdx, over, putO, memAt, List.map_cons, List.length_cons, ↓reduceIte, snap_trues, imm_trues, dec_wk, dec_qn_s, dec_qn_t, enc_qn, enc_pair, enc_iterv, zdrop, one_i, one_b, one_sl, one_ptr, one_ref, one_nilp, one_mp, one_fn, e, enc_none_wk, c]
    all_goals (repeat' (first | with_reducible rfl | with_reducible apply And.intro | ((with_reducible show drawOK _ _ = true); rfl))) <;> (try first | omega | (simp only [InR]; omega) | with_reducible assumption)
  rw [if_pos c]
  obtain ⟨hf, b1, hne⟩ := ask_facts c
  have g1 := (inB_iff _ _ _).1 b1
  have hv := fault_ok hf
  have e := asked_ok c
  obtain ⟨w, hw, hW⟩ := wok_of hv hne
  rw [hw, b1] at e
  have hl0 := fault_l0 hf
  have hl9 := hv.l9
  have hn := hW.n0
  have hn1 := hW.n1
  have ht := hW.wt
  obtain ⟨row, rfl⟩ := Int.eq_ofNat_of_zero_le g1.1
  have hlv := getD_mapA (f := EncE.cs) (l := t.levels) (i := row) (by omega)
  have hs := hW.sb (at_ t.levels row) 0
  have hp : Qn.soon.pre w (at_ t.levels row) 0 := ⟨by rw [ht]; exact hl0, by rw [ht]; exact hl9⟩
  simp only [Int.toNat_natCast]
  simp only [enc_fnl, enc_fnb, enc_fnc, enc_refc, enc_arr, enc_int, enc_bool, enc_list, enc_rg, enc_mk, enc_tb]
  refine callP_of_vc (Φ := P42) Try.func23 rfl (by rfl) (by rw [Try.ntmps23]; simp) mixed P42_ok (by simp [AV.strip, AV.strip1, Tk.strip]) ?_
  rw [Try.ntmps23]
  simp only [Try.f23, startSt, tmFrom]
  simp (maxSteps := 4000000) only [go_sem, drawV, intsOf, keyIdx, over, putO, memAt, List.map_cons, List.length_cons, ↓reduceIte, snap_trues, imm_trues, dec_wk, dec_qn_s, dec_qn_t, enc_qn, enc_pair, enc_iterv, zdrop, one_i, one_b, one_sl, one_ptr, one_ref, one_nilp, one_mp, one_fn, e, enc_some_wk, wkC, c, b1, hlv, hs]
  all_goals (repeat' (first | with_reducible rfl | with_reducible apply And.intro | ((with_reducible show drawOK _ _ = true); rfl))) <;> (try first | omega | (simp only [InR]; omega) | with_reducible assumption)
def dryQ (t : Tb) (a b : Int) : Int × Int :=
  if askErr t (inB a 0 t.last && inB b 0 t.last && decide (a ≤ b)) = 0 then (dryL (truthsL t) a b, 0) else (0, askErr t (inB a 0 t.last && inB b 0 t.last && decide (a ≤ b)))
theorem Dry_prog (t : Tb) (a b : Int) (h : t.heights.length ≤ 4096) : CallP Try.prog 12 [Enc.enc t, Enc.enc a, Enc.enc b] (· = Enc.enc (dryQ t a b)) := by
  simp only [enc_pair]
  unfold dryQ
  by_cases c : askErr t (inB a 0 t.last && inB b 0 t.last && decide (a ≤ b)) = 0
  case neg =>
    have e := asked_bad c
    rw [if_neg c]
    simp only [enc_fnl, enc_fnb, enc_fnc, enc_refc, enc_arr, enc_int, enc_bool, enc_list, enc_rg, enc_mk, enc_tb]
    refine callP_of_vc (Φ := P42) Try.func12 rfl (by rfl) (by rw [Try.ntmps12]; simp) mixed P42_ok (by simp [AV.strip, AV.strip1, Tk.strip]) ?_
    rw [Try.ntmps12]
    simp only [Try.f12, startSt, tmFrom]
    simp (maxSteps := 4000000) only [go_sem, AV.one, drawV, intsOf, keyIdx, over, putO, memAt, List.map_cons, List.length_cons, ↓reduceIte, snap_trues, imm_trues, dec_wk, dec_qn_s, dec_qn_t, enc_qn, enc_pair, enc_iterv, zdrop, one_i, one_b, one_sl, one_ptr, one_ref, one_nilp, one_mp, one_fn, e, enc_none_wk, c]
    all_goals (repeat' (first | with_reducible rfl | with_reducible apply And.intro | ((with_reducible show drawOK _ _ = true); rfl))) <;> (try first | omega | (simp only [InR]; omega) | with_reducible assumption)
  rw [if_pos c]
  obtain ⟨hf, hfine, hne⟩ := ask_facts c
  have hfine' := hfine
  rw [Bool.and_eq_true, Bool.and_eq_true, decide_eq_true_eq] at hfine
  obtain ⟨⟨b1, b2⟩, b3⟩ := hfine
  have g1 := (inB_iff _ _ _).1 b1
  have g2 := (inB_iff _ _ _).1 b2
  have hv := fault_ok hf
  have e := asked_ok c
  obtain ⟨w, hw, hW⟩ := wok_of hv hne
  rw [hw] at e
  have hl9 := hv.l9
  have hn := hW.n0
  have hn1 := hW.n1
  have hd := hW.db a b g1.1 b3 g2.2
  have hp : Qn.top.pre w a b := ⟨g1.1, b3, by omega⟩
  simp only [enc_fnl, enc_fnb, enc_fnc, enc_refc, enc_arr, enc_int, enc_bool, enc_list, enc_rg, enc_mk, enc_tb]
  refine callP_of_vc (Φ := P42) Try.func12 rfl (by rfl) (by rw [Try.ntmps12]; simp) mixed P42_ok (by simp [AV.strip, AV.strip1, Tk.strip]) ?_
  rw [Try.ntmps12]
  simp only [Try.f12, startSt, tmFrom]
  simp (maxSteps := 4000000) only [go_sem, drawV, intsOf, keyIdx, over, putO, memAt, List.map_cons, List.length_cons, ↓reduceIte, snap_trues, imm_trues, dec_wk, dec_qn_s, dec_qn_t, enc_qn, enc_pair, enc_iterv, zdrop, one_i, one_b, one_sl, one_ptr, one_ref, one_nilp, one_mp, one_fn, e, enc_some_wk, wkC, c, hd]
  all_goals (repeat' (first | with_reducible rfl | with_reducible apply And.intro | ((with_reducible show drawOK _ _ = true); rfl))) <;> (try first | omega | (simp only [InR]; omega) | with_reducible assumption)
def P43 : Specs := addSpec 11 (spec1 (fun t : Tb => t.heights.length ≤ 4096) bndQ) (addSpec 24 (spec3 (fun (t : Tb) (_ _ : Int) => t.heights.length ≤ 4096 ∧ t.levels.length ≤ 4096) wetQ) (addSpec 23 (spec2 (fun (t : Tb) (_ : Int) => t.heights.length ≤ 4096 ∧ t.levels.length ≤ 4096) rchQ) (addSpec 12 (spec3 (fun (t : Tb) (_ _ : Int) => t.heights.length ≤ 4096) dryQ) (P42))))
theorem P43_app (g : FuncId) : P43 g = (addSpec 11 (spec1 (fun t : Tb => t.heights.length ≤ 4096) bndQ) (addSpec 24 (spec3 (fun (t : Tb) (_ _ : Int) => t.heights.length ≤ 4096 ∧ t.levels.length ≤ 4096) wetQ) (addSpec 23 (spec2 (fun (t : Tb) (_ : Int) => t.heights.length ≤ 4096 ∧ t.levels.length ≤ 4096) rchQ) (addSpec 12 (spec3 (fun (t : Tb) (_ _ : Int) => t.heights.length ≤ 4096) dryQ) (P42))))) g := rfl
theorem P43_ok : SpecsOk Try.prog P43 := addSpec_ok (spec1_ok Bounds_prog) (addSpec_ok (spec3_ok Wet_prog) (addSpec_ok (spec2_ok Reach_prog) (addSpec_ok (spec3_ok Dry_prog) (P42_ok))))
attribute [go_sem] P43_app
theorem P43_flag (d : Option Nat) : flagOf P43 d = none := (flagOf_add (by decide) d).trans ((flagOf_add (by decide) d).trans ((flagOf_add (by decide) d).trans ((flagOf_add (by decide) d).trans (P42_flag d))))
attribute [go_sem] P43_flag
def pdryQ (t : Tb) (a b level : Int) : Bool := decide ((dryQ t a b).2 = 0) && decide ((dryQ t a b).1 ≤ level)
theorem ProveDry_prog (t : Tb) (a b level : Int) (h : t.heights.length ≤ 4096) : CallP Try.prog 27 [Enc.enc t, Enc.enc a, Enc.enc b, Enc.enc level] (· = Enc.enc (pdryQ t a b level)) := by
  unfold pdryQ
  generalize hr : dryQ t a b = r
  obtain ⟨n, e⟩ := r
  cases c : decide (e = 0)
  all_goals
    simp only [enc_fnl, enc_fnb, enc_fnc, enc_refc, enc_arr, enc_int, enc_bool, enc_list, enc_rg, enc_mk, enc_tb]
    refine callP_of_vc (Φ := P43) Try.func27 rfl (by rfl) (by rw [Try.ntmps27]; simp) mixed P43_ok (by simp [AV.strip, AV.strip1, Tk.strip]) ?_
    rw [Try.ntmps27]
    simp only [Try.f27, startSt, tmFrom]
    simp (maxSteps := 4000000) only [go_sem, AV.one, drawV, intsOf, keyIdx, over, putO, memAt, List.map_cons, List.length_cons, ↓reduceIte, snap_trues, imm_trues, dec_wk, dec_qn_s, dec_qn_t, enc_qn, enc_pair, enc_iterv, zdrop, one_i, one_b, one_sl, one_ptr, one_ref, one_nilp, one_mp, one_fn, hr, c]
    all_goals (repeat' (first | with_reducible rfl | with_reducible apply And.intro | ((with_reducible show drawOK _ _ = true); rfl))) <;> (try first | omega | (simp only [InR]; omega) | with_reducible assumption)
def P44 : Specs := addSpec 27 (spec4 (fun (t : Tb) (_ _ _ : Int) => t.heights.length ≤ 4096) pdryQ) (P43)
theorem P44_app (g : FuncId) : P44 g = (addSpec 27 (spec4 (fun (t : Tb) (_ _ _ : Int) => t.heights.length ≤ 4096) pdryQ) (P43)) g := rfl
theorem P44_ok : SpecsOk Try.prog P44 := addSpec_ok (spec4_ok ProveDry_prog) (P43_ok)
attribute [go_sem] P44_app
theorem P44_flag (d : Option Nat) : flagOf P44 d = none := (flagOf_add (by decide) d).trans (P43_flag d)
attribute [go_sem] P44_flag
end Go.Proofs
