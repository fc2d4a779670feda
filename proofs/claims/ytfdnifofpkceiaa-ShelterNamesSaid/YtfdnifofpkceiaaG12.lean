/- The texts S24, S25, S26, joined. -/
import Derived.Test.YtfdnifofpkceiaaG11
set_option linter.all false
namespace Go.Proofs
open Go.Fs
set_option linter.unusedSimpArgs false
set_option linter.unusedVariables false
set_option maxHeartbeats 4000000
set_option maxRecDepth 8000
def P41 : Specs := addSpec 27 (spec1 (fun s : Sh => s.stacks.length ≤ 4096) showQ) (addSpec 21 (spec3 (fun (s : Sh) (p : List Sp) (_ : Int) => s.stacks.length ≤ 4096 ∧ p.length ≤ 4096) proveBoundB) (P39))
theorem P41_app (g : FuncId) : P41 g = (addSpec 27 (spec1 (fun s : Sh => s.stacks.length ≤ 4096) showQ) (addSpec 21 (spec3 (fun (s : Sh) (p : List Sp) (_ : Int) => s.stacks.length ≤ 4096 ∧ p.length ≤ 4096) proveBoundB) (P39))) g := rfl
theorem P41_ok : SpecsOk Try.prog P41 := addSpec_ok (spec1_ok Show_call) (addSpec_ok (spec3_ok ProveBound_call) (P39_ok))
attribute [go_sem] P41_app
theorem P41_flag (d : Option Nat) : flagOf P41 d = none := (flagOf_add (by decide) d).trans ((flagOf_add (by decide) d).trans (P39_flag d))
attribute [go_sem] P41_flag
def closedL (plan : List Int) (hour : Int) (n : Nat) : List Int := ((List.range n).filter fun i => savesB (at_ plan i) hour).map fun i : Nat => (i : Int)
theorem closedL_succ (plan : List Int) (hour : Int) (n : Nat) : closedL plan hour (n + 1) = closedL plan hour n ++ if savesB (at_ plan n) hour = true then [(n : Int)] else [] := by
  unfold closedL
  rw [List.range_succ, List.filter_append, List.map_append]
  congr 1
  by_cases c : savesB (at_ plan n) hour = true <;> simp [c]
theorem closedL_len (plan : List Int) (hour : Int) (n : Nat) : (closedL plan hour n).length ≤ n := by
  unfold closedL
  rw [List.length_map]
  exact Nat.le_trans (List.length_filter_le _ _) (by simp)
theorem closedL_mem {plan : List Int} {hour : Int} {n : Nat} {x : Int} (h : x ∈ closedL plan hour n) : 0 ≤ x ∧ x < n := by
  unfold closedL at h
  obtain ⟨i, hi, rfl⟩ := List.mem_map.1 h
  have := List.mem_range.1 (List.mem_filter.1 hi).1
  omega
def zeroSh : Sh := ⟨[], 0, ⟨0, 0⟩⟩
def dryS (s : Sh) : Sh := ⟨s.stacks, s.hands, ⟨0, 0⟩⟩
def leftQ (s : Sh) (plan : List Int) (hour : Int) : Tri Sh Int Int :=
  if plannedQ s plan ≠ 0 then ⟨zeroSh, 0, plannedQ s plan⟩ else if inB hour s.rain.lo s.rain.hi = true then ⟨withoutS (dryS s) (closedL plan hour plan.length), wsum plan.length (fun i => chS s i) (fun i => savesB (at_ plan i) hour), 0⟩ else ⟨zeroSh, 0, 2⟩
theorem busy_true {s : Sh} {plan : List Int} (h : (busyQ s plan).2 = true) : (busyQ s plan).1 = hA plan ∧ plan.all (fun p => inB p (-1) 17) = true := by
  unfold busyQ at h ⊢
  split at h
  · cases h
  · split at h
    · rename_i h1 h2
      rw [if_neg h1, if_pos h2]
      exact ⟨rfl, h2⟩
    · cases h
theorem busy_zero {s : Sh} {plan : List Int} (h : (busyQ s plan).2 = true) (hz : (busyQ s plan).1.l = [0, 0, 0, 0, 0, 0, 0, 0, 0, 0, 0, 0, 0, 0, 0, 0, 0, 0]) : ∀ i, i < plan.length → at_ plan i = -1 := by
  obtain ⟨h1, h2⟩ := busy_true h
  rw [h1] at hz
  have hz' : hcnt plan = List.replicate 18 0 := hz
  intro i hi
  have hb := (inB_iff _ _ _).1 (List.all_eq_true.1 h2 _ (at_mem hi))
  by_cases e : at_ plan i = -1
  · exact e
  · obtain ⟨k, hk⟩ := Int.eq_ofNat_of_zero_le (show 0 ≤ at_ plan i by omega)
    have hk18 : k < 18 := by omega
    have h3 := hcnt_at plan hk18
    rw [hz'] at h3
    have h4 : at_ (List.replicate 18 (0 : Int)) k = 0 := by rw [at_get (by simpa using hk18)]; exact List.getElem_replicate _
    rw [h4] at h3
    have h5 : 0 < plan.countP (fun q => decide (q = (k : Int))) := List.countP_pos_iff.2 ⟨_, at_mem hi, by simp [hk]⟩
    omega
theorem closed_none {plan : List Int} {hour : Int} (h : ∀ i, i < plan.length → at_ plan i = -1) : closedL plan hour plan.length = [] ∧ ∀ f, wsum plan.length f (fun i => savesB (at_ plan i) hour) = 0 := by
  have hs : ∀ i, i < plan.length → savesB (at_ plan i) hour = false := fun i hi => by rw [h i hi]; rfl
  refine ⟨?_, fun f => ?_⟩
  · unfold closedL
    rw [List.map_eq_nil_iff, List.filter_eq_nil_iff]
    intro i hi
    rw [hs i (List.mem_range.1 hi)]; simp
  · have : ∀ n, n ≤ plan.length → wsum n f (fun i => savesB (at_ plan i) hour) = 0 := by
      intro n
      induction n with
      | zero => intro _; rfl
      | succ n ih => intro hn; unfold wsum; rw [ih (by omega)]; show 0 + (if savesB (at_ plan n) hour = true then f n else 0) = 0; rw [hs n (by omega)]; rfl
    exact this _ (Nat.le_refl _)
theorem soft_ints (l : List Int) : (l.map (AV.int .i64)).map AV.soft = l.map (AV.int .i64) := by rw [List.map_map]; rfl
theorem Left_call (s : Sh) (plan : List Int) (hour : Int) (h : s.stacks.length ≤ 4096 ∧ plan.length ≤ 4096) : CallP Try.prog 23 [Enc.enc s, Enc.enc plan, Enc.enc hour] (· = Enc.enc (leftQ s plan hour)) := by
  unfold leftQ
  have h1 := h.1
  have h2 := h.2
  cases c0 : decide (plannedQ s plan = 0)
  · rw [if_pos (by simpa using c0)]
    simp only [enc_fnl, enc_fnb, enc_fnc, enc_refc, enc_arr, enc_int, enc_bool, enc_list, enc_sk, enc_sp, enc_rg, enc_sh, enc_tr, enc_refs, enc_fns, enc_wks]
    refine callP_of_vc (Φ := P41) Try.func23 rfl (by rfl) (by rw [Try.ntmps23]; simp) mixed P41_ok (by simp [AV.strip, AV.strip1, Tk.strip]) ?_
    rw [Try.ntmps23]
    simp only [Try.f23, startSt, tmFrom]
    simp (maxSteps := 4000000) only [go_sem, AV.one, drawV, intsOf, keyIdx, over, putO, memAt, List.map_cons, List.length_cons, ↓reduceIte, zdrop, one_i, one_b, one_sl, one_ptr, one_ref, one_nilp, one_mp, one_fn, one_nilf, c0, zeroSh, List.map_nil]
    all_goals (repeat' (first | with_reducible rfl | with_reducible apply And.intro | ((with_reducible show drawOK _ _ = true); rfl))) <;> (try first | omega | (simp only [InR]; omega) | with_reducible assumption)
  have hp : plannedQ s plan = 0 := by simpa using c0
  rw [if_neg (by simpa using c0)]
  obtain ⟨hs, k2⟩ := planned_zero hp
  have hl := busy_len k2
  have h8 := hs.len
  cases c1 : inB hour s.rain.lo s.rain.hi
  · rw [if_neg (by simp)]
    simp only [enc_fnl, enc_fnb, enc_fnc, enc_refc, enc_arr, enc_int, enc_bool, enc_list, enc_sk, enc_sp, enc_rg, enc_sh, enc_tr, enc_refs, enc_fns, enc_wks]
    refine callP_of_vc (Φ := P41) Try.func23 rfl (by rfl) (by rw [Try.ntmps23]; simp) mixed P41_ok (by simp [AV.strip, AV.strip1, Tk.strip]) ?_
    rw [Try.ntmps23]
    simp only [Try.f23, startSt, tmFrom]
    simp (maxSteps := 4000000) only [go_sem, AV.one, drawV, intsOf, keyIdx, over, putO, memAt, List.map_cons, List.length_cons, ↓reduceIte, zdrop, one_i, one_b, one_sl, one_ptr, one_ref, one_nilp, one_mp, one_fn, one_nilf, c0, hp, c1, zeroSh, List.map_nil]
    all_goals (repeat' (first | with_reducible rfl | with_reducible apply And.intro | ((with_reducible show drawOK _ _ = true); rfl))) <;> (try first | omega | (simp only [InR]; omega) | with_reducible assumption)
  rw [if_pos rfl]
  have hB := (busyQ s plan).1.h
  have hz0 := fun hz => closed_none (hour := hour) (busy_zero k2 hz)
  obtain ⟨B, hBe⟩ : ∃ B, (busyQ s plan).1 = B := ⟨_, rfl⟩
  rw [hBe] at hB hz0
  have hzi : intsOf [AV.int .i64 0, AV.int .i64 0, AV.int .i64 0, AV.int .i64 0, AV.int .i64 0, AV.int .i64 0, AV.int .i64 0, AV.int .i64 0, AV.int .i64 0, AV.int .i64 0, AV.int .i64 0, AV.int .i64 0, AV.int .i64 0, AV.int .i64 0, AV.int .i64 0, AV.int .i64 0, AV.int .i64 0, AV.int .i64 0] = some [0, 0, 0, 0, 0, 0, 0, 0, 0, 0, 0, 0, 0, 0, 0, 0, 0, 0] := rfl
  cases c2 : decide (B.l = [0, 0, 0, 0, 0, 0, 0, 0, 0, 0, 0, 0, 0, 0, 0, 0, 0, 0])
  · simp only [enc_fnl, enc_fnb, enc_fnc, enc_refc, enc_arr, enc_int, enc_bool, enc_list, enc_sk, enc_sp, enc_rg, enc_sh, enc_tr, enc_refs, enc_fns, enc_wks]
    refine callP_of_vc (Φ := P41) Try.func23 rfl (by rfl) (by rw [Try.ntmps23]; simp) mixed P41_ok (by simp [AV.strip, AV.strip1, Tk.strip]) ?_
    rw [Try.ntmps23]
    simp only [Try.f23, startSt, tmFrom]
    simp (maxSteps := 4000000) only [go_sem, drawV, keyIdx, over, putO, memAt, List.map_cons, List.length_cons, ↓reduceIte, zdrop, one_i, one_b, one_sl, one_ptr, one_ref, one_nilp, one_mp, one_fn, one_nilf, c0, hp, c1, c2, hBe, hB, k2, soft_ints, intsOf_map, hzi]
    all_goals (repeat' (first | with_reducible rfl | with_reducible apply And.intro | ((with_reducible show drawOK _ _ = true); rfl))) <;> (try first | omega | (simp only [InR]; omega) | with_reducible assumption)
    obtain ⟨L, hL⟩ : ∃ L, L = closedL plan hour := ⟨_, rfl⟩
    have hLs := fun n => closedL_succ plan hour n
    have hLl := fun n => closedL_len plan hour n
    have hLm := fun (n : Nat) (x : Int) (h : x ∈ closedL plan hour n) => closedL_mem h
    rw [← hL] at hLs hLl hLm
    rw [← hL]
    have hL0 : L 0 = [] := by rw [hL]; rfl
    refine loopN (plan.length) [.slot 12 1] [2, 3, 6, 8, 42, 43] (fun i => [(44, .int .i64 i), (12, .sl ((L i).map EncE.cs) (.own 3)), (7, .int .i64 (wsum i (fun i => chS s i) (fun i => savesB (at_ plan i) hour)))]) (fun i m => m.set 3 (.tok (L i).length 1)) (fun _ => True) ?_ ?_ ?_ ?_
    · trivial
    · simp [AV.bare, bel_ints, cs_arr, dep_arr, cs_int, cs_bool, cs_list, cs_sk, cs_sp, AtHead, Same, AllO, Begins, LtAll, headSt, tokz_nil, tokz_cons, tokz1, lk, dep_int, dep_bool, dep_list, dep_sk, dep_sp, memAt, bel_map, bel_mapF, bel_mapO, bel_undef, bel_int, bel_boolv, bel_nilp, bel_nilf, bel_ptr, bel_arr, bel_mp, bel_yld, bel_agg, bel_tup, bel_ref, bel_only, bel_mpr, bel_fn, bel_sl_nil, bel_sl_nilF, bel_sl_nilO, bel_sl_cons, bel_sl_app, belO_cells, belO_tok, belO_dead, belO_deferred, belO_map, belO_iter, belO_loop, bel_vec, bel_vp, belO_vecM, belO_vec, hL0, wsum, -List.map_map]
    · intro i hi _
      have hi' := Int.ofNat_lt.2 hi
      have hi2 : i < s.stacks.length := by omega
      have hll := hLl i
      have hsi := hLs i
      have hch := hs.ch hi2
      have hche := ch_at s i
      rw [hche] at hch
      have hb := wsum_bd (n := i) (f := fun i => chS s i) (m := 99) (fun i => savesB (at_ plan i) hour) (by omega) (fun j hj => hs.ch (by omega))
      have hws : wsum (i + 1) (fun i => chS s i) (fun i => savesB (at_ plan i) hour) = wsum i (fun i => chS s i) (fun i => savesB (at_ plan i) hour) + if savesB (at_ plan i) hour = true then chS s i else 0 := rfl
      cases c3 : savesB (at_ plan i) hour
      · rw [c3, if_neg (by simp), List.append_nil] at hsi
        rw [c3, if_neg (by simp), Int.add_zero] at hws
        simp (maxSteps := 4000000) only [go_sem, AV.one, drawV, intsOf, keyIdx, over, putO, memAt, List.map_cons, List.length_cons, ↓reduceIte, zdrop, one_i, one_b, one_sl, one_ptr, one_ref, one_nilp, one_mp, one_fn, one_nilf, getD_mapA hi, getD_mapA hi2, hi', c3]
        all_goals (repeat' (first | with_reducible rfl | with_reducible apply And.intro | ((with_reducible show drawOK _ _ = true); rfl))) <;> (try first | omega | (simp only [InR]; omega) | with_reducible assumption)
        refine nxt hi trivial ?_
        simp [AV.bare, bel_ints, cs_arr, dep_arr, cs_int, cs_bool, cs_list, cs_sk, cs_sp, AtHead, Same, AllO, Begins, LtAll, headSt, tokz_nil, tokz_cons, tokz1, lk, dep_int, dep_bool, dep_list, dep_sk, dep_sp, memAt, bel_map, bel_mapF, bel_mapO, bel_undef, bel_int, bel_boolv, bel_nilp, bel_nilf, bel_ptr, bel_arr, bel_mp, bel_yld, bel_agg, bel_tup, bel_ref, bel_only, bel_mpr, bel_fn, bel_sl_nil, bel_sl_nilF, bel_sl_nilO, bel_sl_cons, bel_sl_app, belO_cells, belO_tok, belO_dead, belO_deferred, belO_map, belO_iter, belO_loop, bel_vec, bel_vp, belO_vecM, belO_vec, hsi, hws, -List.map_map]
      · rw [c3, if_pos rfl] at hsi
        rw [c3, if_pos rfl, hche] at hws
        have hsl : (L (i + 1)).length = (L i).length + 1 := by rw [hsi]; simp
        simp (maxSteps := 4000000) only [go_sem, AV.one, drawV, intsOf, keyIdx, over, putO, memAt, List.map_cons, List.length_cons, ↓reduceIte, zdrop, one_i, one_b, one_sl, one_ptr, one_ref, one_nilp, one_mp, one_fn, one_nilf, getD_mapA hi, getD_mapA hi2, hi', c3]
        all_goals (repeat' (first | with_reducible rfl | with_reducible apply And.intro | ((with_reducible show drawOK _ _ = true); rfl))) <;> (try first | omega | (simp only [InR]; omega) | with_reducible assumption)
        refine nxt hi trivial ?_
        simp [AV.bare, bel_ints, cs_arr, dep_arr, cs_int, cs_bool, cs_list, cs_sk, cs_sp, AtHead, Same, AllO, Begins, LtAll, headSt, tokz_nil, tokz_cons, tokz1, lk, dep_int, dep_bool, dep_list, dep_sk, dep_sp, memAt, bel_map, bel_mapF, bel_mapO, bel_undef, bel_int, bel_boolv, bel_nilp, bel_nilf, bel_ptr, bel_arr, bel_mp, bel_yld, bel_agg, bel_tup, bel_ref, bel_only, bel_mpr, bel_fn, bel_sl_nil, bel_sl_nilF, bel_sl_nilO, bel_sl_cons, bel_sl_app, belO_cells, belO_tok, belO_dead, belO_deferred, belO_map, belO_iter, belO_loop, bel_vec, bel_vp, belO_vecM, belO_vec, hsl, hsi, hws, -List.map_map]
    · intro _
      have hLm2 : ∀ x ∈ L plan.length, idxOk (dryS s) x := fun x hx => by have := hLm _ x hx; unfold idxOk dryS; dsimp only; omega
      have hll := hLl plan.length
      have hde : (⟨s.stacks, s.hands, ⟨0, 0⟩⟩ : Sh) = dryS s := rfl
      simp (maxSteps := 4000000) only [go_sem, AV.one, drawV, intsOf, keyIdx, over, putO, memAt, List.map_cons, List.length_cons, ↓reduceIte, zdrop, one_i, one_b, one_sl, one_ptr, one_ref, one_nilp, one_mp, one_fn, one_nilf, Int.lt_irrefl, hde]
      all_goals (repeat' (first | with_reducible rfl | with_reducible apply And.intro | ((with_reducible show drawOK _ _ = true); rfl))) <;> (try first | omega | (simp only [InR]; omega) | with_reducible assumption)
      exact h1
  · simp only [enc_fnl, enc_fnb, enc_fnc, enc_refc, enc_arr, enc_int, enc_bool, enc_list, enc_sk, enc_sp, enc_rg, enc_sh, enc_tr, enc_refs, enc_fns, enc_wks]
    refine callP_of_vc (Φ := P41) Try.func23 rfl (by rfl) (by rw [Try.ntmps23]; simp) mixed P41_ok (by simp [AV.strip, AV.strip1, Tk.strip]) ?_
    rw [Try.ntmps23]
    simp only [Try.f23, startSt, tmFrom]
    simp (maxSteps := 4000000) only [go_sem, drawV, keyIdx, over, putO, memAt, List.map_cons, List.length_cons, ↓reduceIte, zdrop, one_i, one_b, one_sl, one_ptr, one_ref, one_nilp, one_mp, one_fn, one_nilf, c0, hp, c1, c2, hBe, hB, k2, soft_ints, intsOf_map, hzi]
    all_goals (repeat' (first | with_reducible rfl | with_reducible apply And.intro | ((with_reducible show drawOK _ _ = true); rfl))) <;> (try first | omega | (simp only [InR]; omega) | with_reducible assumption)
    obtain ⟨z1, z2⟩ := hz0 (by simpa using c2)
    rw [z1, z2]
    rfl
end Go.Proofs
namespace Go.Proofs
open Go.Fs
set_option linter.unusedSimpArgs false
set_option linter.unusedVariables false
set_option maxHeartbeats 4000000
set_option maxRecDepth 8000
def P42 : Specs := addSpec 23 (spec3 (fun (s : Sh) (p : List Int) (_ : Int) => s.stacks.length ≤ 4096 ∧ p.length ≤ 4096) leftQ) (P41)
theorem P42_app (g : FuncId) : P42 g = (addSpec 23 (spec3 (fun (s : Sh) (p : List Int) (_ : Int) => s.stacks.length ≤ 4096 ∧ p.length ≤ 4096) leftQ) (P41)) g := rfl
theorem P42_ok : SpecsOk Try.prog P42 := addSpec_ok (spec3_ok Left_call) (P41_ok)
attribute [go_sem] P42_app
theorem P42_flag (d : Option Nat) : flagOf P42 d = none := (flagOf_add (by decide) d).trans (P41_flag d)
attribute [go_sem] P42_flag
theorem list_call (l : List Int) (h : l.length ≤ 4096) : CallP Try.prog 11 [Enc.enc l] (· = Enc.enc l) := by
  simp only [enc_fnl, enc_fnb, enc_fnc, enc_refc, enc_arr, enc_int, enc_bool, enc_list, enc_sk, enc_sp, enc_rg, enc_sh, enc_tr, enc_refs, enc_fns, enc_wks]
  refine callP_of_vc (Φ := P42) Try.func11 rfl (by rfl) (by rw [Try.ntmps11]; simp) mixed P42_ok (by simp [AV.strip, AV.strip1, Tk.strip]) ?_
  rw [Try.ntmps11]
  simp only [Try.f11, startSt, tmFrom]
  simp (maxSteps := 4000000) only [go_sem, AV.one, drawV, intsOf, keyIdx, over, putO, memAt, List.map_cons, List.length_cons, ↓reduceIte, zdrop, one_i, one_b, one_sl, one_ptr, one_ref, one_nilp, one_mp, one_fn, one_nilf]
  all_goals (repeat' (first | with_reducible rfl | with_reducible apply And.intro | ((with_reducible show drawOK _ _ = true); rfl))) <;> (try first | omega | (simp only [InR]; omega) | with_reducible assumption)
  simp [cs_int, AV.one]
theorem to_call (r : Rg) : CallP Try.prog 32 [Enc.enc r] (· = Enc.enc r) := by
  simp only [enc_fnl, enc_fnb, enc_fnc, enc_refc, enc_arr, enc_int, enc_bool, enc_list, enc_sk, enc_sp, enc_rg, enc_sh, enc_tr, enc_refs, enc_fns, enc_wks]
  refine callP_of_vc (Φ := P42) Try.func32 rfl (by rfl) (by rw [Try.ntmps32]; simp) mixed P42_ok (by simp [AV.strip, AV.strip1, Tk.strip]) ?_
  rw [Try.ntmps32]
  simp only [Try.f32, startSt, tmFrom]
  simp (maxSteps := 4000000) only [go_sem, AV.one, drawV, intsOf, keyIdx, over, putO, memAt, List.map_cons, List.length_cons, ↓reduceIte, zdrop, one_i, one_b, one_sl, one_ptr, one_ref, one_nilp, one_mp, one_fn, one_nilf]
theorem ints_call (a b : List Int) (h : a.length ≤ 4096 ∧ b.length ≤ 4096) : CallP Try.prog 19 [Enc.enc a, Enc.enc b] (· = Enc.enc (decide (a = b))) := by
  have h1 := h.1
  have h2 := h.2
  cases c : decide ((a.length : Int) = b.length)
  · have hn : decide (a = b) = false := by
      simp only [decide_eq_false_iff_not] at c ⊢
      intro e; apply c; rw [e]
    rw [hn]
    simp only [enc_fnl, enc_fnb, enc_fnc, enc_refc, enc_arr, enc_int, enc_bool, enc_list, enc_sk, enc_sp, enc_rg, enc_sh, enc_tr, enc_refs, enc_fns, enc_wks]
    refine callP_of_vc (Φ := P42) Try.func19 rfl (by rfl) (by rw [Try.ntmps19]; simp) mixed P42_ok (by simp [AV.strip, AV.strip1, Tk.strip]) ?_
    rw [Try.ntmps19]
    simp only [Try.f19, startSt, tmFrom]
    simp (maxSteps := 4000000) only [go_sem, AV.one, drawV, intsOf, keyIdx, over, putO, memAt, List.map_cons, List.length_cons, ↓reduceIte, zdrop, one_i, one_b, one_sl, one_ptr, one_ref, one_nilp, one_mp, one_fn, one_nilf, c]
  · have hl : a.length = b.length := by simp only [decide_eq_true_eq] at c; omega
    simp only [enc_fnl, enc_fnb, enc_fnc, enc_refc, enc_arr, enc_int, enc_bool, enc_list, enc_sk, enc_sp, enc_rg, enc_sh, enc_tr, enc_refs, enc_fns, enc_wks]
    refine callP_of_vc (Φ := P42) Try.func19 rfl (by rfl) (by rw [Try.ntmps19]; simp) mixed P42_ok (by simp [AV.strip, AV.strip1, Tk.strip]) ?_
    rw [Try.ntmps19]
    simp only [Try.f19, startSt, tmFrom]
    simp (maxSteps := 4000000) only [go_sem, AV.one, drawV, intsOf, keyIdx, over, putO, memAt, List.map_cons, List.length_cons, ↓reduceIte, zdrop, one_i, one_b, one_sl, one_ptr, one_ref, one_nilp, one_mp, one_fn, one_nilf, c]
    refine loopN (a.length) [] [0, 1, 4] (fun i => [(5, .int .i64 i)]) (fun _ m => m) (fun i => a.take i = b.take i) ?_ ?_ ?_ ?_
    · simp
    · simp [AV.bare, bel_ints, cs_arr, dep_arr, cs_int, cs_bool, cs_list, cs_sk, cs_sp, AtHead, Same, AllO, Begins, LtAll, headSt, tokz_nil, tokz_cons, tokz1, lk, dep_int, dep_bool, dep_list, dep_sk, dep_sp, memAt, bel_map, bel_mapF, bel_mapO, bel_undef, bel_int, bel_boolv, bel_nilp, bel_nilf, bel_ptr, bel_arr, bel_mp, bel_yld, bel_agg, bel_tup, bel_ref, bel_only, bel_mpr, bel_fn, bel_sl_nil, bel_sl_nilF, bel_sl_nilO, bel_sl_cons, bel_sl_app, belO_cells, belO_tok, belO_dead, belO_deferred, belO_map, belO_iter, belO_loop, bel_vec, bel_vp, belO_vecM, belO_vec]
    · intro i hi hI
      have hi' := Int.ofNat_lt.2 hi
      have hib : i < b.length := by omega
      cases c2 : decide (at_ a i = at_ b i) <;>
        simp (maxSteps := 4000000) only [go_sem, AV.one, drawV, intsOf, keyIdx, over, putO, memAt, List.map_cons, List.length_cons, ↓reduceIte, zdrop, one_i, one_b, one_sl, one_ptr, one_ref, one_nilp, one_mp, one_fn, one_nilf, getD_mapA hi, getD_mapA hib, hi', c2]
      all_goals all_goals (repeat' (first | with_reducible rfl | with_reducible apply And.intro | ((with_reducible show drawOK _ _ = true); rfl))) <;> (try first | omega | (simp only [InR]; omega) | with_reducible assumption)
      · have : decide (a = b) = false := by
          simp only [decide_eq_false_iff_not] at c2 ⊢
          intro e; apply c2; rw [e]
        rw [this]
      · simp only [decide_eq_true_eq] at c2
        refine nxt hi (by rw [take_succ_at hi, take_succ_at hib, hI, c2]) ?_
        simp [AV.bare, bel_ints, cs_arr, dep_arr, cs_int, cs_bool, cs_list, cs_sk, cs_sp, AtHead, Same, AllO, Begins, LtAll, headSt, tokz_nil, tokz_cons, tokz1, lk, dep_int, dep_bool, dep_list, dep_sk, dep_sp, memAt, bel_map, bel_mapF, bel_mapO, bel_undef, bel_int, bel_boolv, bel_nilp, bel_nilf, bel_ptr, bel_arr, bel_mp, bel_yld, bel_agg, bel_tup, bel_ref, bel_only, bel_mpr, bel_fn, bel_sl_nil, bel_sl_nilF, bel_sl_nilO, bel_sl_cons, bel_sl_app, belO_cells, belO_tok, belO_dead, belO_deferred, belO_map, belO_iter, belO_loop, bel_vec, bel_vp, belO_vecM, belO_vec]
    · intro hI
      rw [List.take_length, hl, List.take_length] at hI
      simp (maxSteps := 4000000) only [go_sem, AV.one, drawV, intsOf, keyIdx, over, putO, memAt, List.map_cons, List.length_cons, ↓reduceIte, zdrop, one_i, one_b, one_sl, one_ptr, one_ref, one_nilp, one_mp, one_fn, one_nilf]
      simp [hI]
theorem between_call (a b : Int) : CallP Try.prog 17 [Enc.enc a, Enc.enc b] (· = Enc.enc (Rg.mk a b)) := by
  simp only [enc_fnl, enc_fnb, enc_fnc, enc_refc, enc_arr, enc_int, enc_bool, enc_list, enc_sk, enc_sp, enc_rg, enc_sh, enc_tr, enc_refs, enc_fns, enc_wks]
  refine callP_of_vc (Φ := P42) Try.func17 rfl (by rfl) (by rw [Try.ntmps17]; simp) mixed P42_ok (by simp [AV.strip, AV.strip1, Tk.strip]) ?_
  rw [Try.ntmps17]
  simp only [Try.f17, startSt, tmFrom]
  simp (maxSteps := 4000000) only [go_sem, AV.one, drawV, intsOf, keyIdx, over, putO, memAt, List.map_cons, List.length_cons, ↓reduceIte, zdrop, one_i, one_b, one_sl, one_ptr, one_ref, one_nilp, one_mp, one_fn, one_nilf]
def thinB (s : Sh) : Bool := decide (s.stacks.length ≤ 10)
theorem Thin_call (s : Sh) : CallP Try.prog 25 [Enc.enc s] (· = Enc.enc (thinB s)) := by
  unfold thinB
  simp only [enc_fnl, enc_fnb, enc_fnc, enc_refc, enc_arr, enc_int, enc_bool, enc_list, enc_sk, enc_sp, enc_rg, enc_sh, enc_tr, enc_refs, enc_fns, enc_wks]
  refine callP_of_vc (Φ := P42) Try.func25 rfl (by rfl) (by rw [Try.ntmps25]; simp) mixed P42_ok (by simp [AV.strip, AV.strip1, Tk.strip]) ?_
  rw [Try.ntmps25]
  simp only [Try.f25, startSt, tmFrom]
  simp (maxSteps := 4000000) only [go_sem, AV.one, drawV, intsOf, keyIdx, over, putO, memAt, List.map_cons, List.length_cons, ↓reduceIte, zdrop, one_i, one_b, one_sl, one_ptr, one_ref, one_nilp, one_mp, one_fn, one_nilf]
  congr 1
  simp only [decide_eq_decide]
  omega
def P43 : Specs := addSpec 11 (spec1 (fun l : List Int => l.length ≤ 4096) (fun l => l)) (addSpec 32 (spec1 (fun _ : Rg => True) (fun r => r)) (addSpec 19 (spec2 (fun (a b : List Int) => a.length ≤ 4096 ∧ b.length ≤ 4096) (fun a b => decide (a = b))) (addSpec 17 (spec2 (fun _ _ : Int => True) Rg.mk) (addSpec 25 (spec1 (fun _ : Sh => True) thinB) (P42)))))
theorem P43_app (g : FuncId) : P43 g = (addSpec 11 (spec1 (fun l : List Int => l.length ≤ 4096) (fun l => l)) (addSpec 32 (spec1 (fun _ : Rg => True) (fun r => r)) (addSpec 19 (spec2 (fun (a b : List Int) => a.length ≤ 4096 ∧ b.length ≤ 4096) (fun a b => decide (a = b))) (addSpec 17 (spec2 (fun _ _ : Int => True) Rg.mk) (addSpec 25 (spec1 (fun _ : Sh => True) thinB) (P42)))))) g := rfl
theorem P43_ok : SpecsOk Try.prog P43 := addSpec_ok (spec1_ok list_call) (addSpec_ok (spec1_ok fun r _ => to_call r) (addSpec_ok (spec2_ok ints_call) (addSpec_ok (spec2_ok fun a b _ => between_call a b) (addSpec_ok (spec1_ok fun s _ => Thin_call s) (P42_ok)))))
attribute [go_sem] P43_app
theorem P43_flag (d : Option Nat) : flagOf P43 d = none := (flagOf_add (by decide) d).trans ((flagOf_add (by decide) d).trans ((flagOf_add (by decide) d).trans ((flagOf_add (by decide) d).trans ((flagOf_add (by decide) d).trans (P42_flag d)))))
attribute [go_sem] P43_flag
theorem ready_call (s : Sh) : CallP Try.prog 6 [Enc.enc s] (· = Enc.enc (thinB s && decide (faultS s = 0))) := by
  cases c : thinB s
  · simp only [enc_fnl, enc_fnb, enc_fnc, enc_refc, enc_arr, enc_int, enc_bool, enc_list, enc_sk, enc_sp, enc_rg, enc_sh, enc_tr, enc_refs, enc_fns, enc_wks]
    refine callP_of_vc (Φ := P43) Try.func6 rfl (by rfl) (by rw [Try.ntmps6]; simp) mixed P43_ok (by simp [AV.strip, AV.strip1, Tk.strip]) ?_
    rw [Try.ntmps6]
    simp only [Try.f6, startSt, tmFrom]
    simp (maxSteps := 4000000) only [go_sem, AV.one, drawV, intsOf, keyIdx, over, putO, memAt, List.map_cons, List.length_cons, ↓reduceIte, zdrop, one_i, one_b, one_sl, one_ptr, one_ref, one_nilp, one_mp, one_fn, one_nilf, c]
  · have : s.stacks.length ≤ 10 := by unfold thinB at c; simpa using c
    simp only [enc_fnl, enc_fnb, enc_fnc, enc_refc, enc_arr, enc_int, enc_bool, enc_list, enc_sk, enc_sp, enc_rg, enc_sh, enc_tr, enc_refs, enc_fns, enc_wks]
    refine callP_of_vc (Φ := P43) Try.func6 rfl (by rfl) (by rw [Try.ntmps6]; simp) mixed P43_ok (by simp [AV.strip, AV.strip1, Tk.strip]) ?_
    rw [Try.ntmps6]
    simp only [Try.f6, startSt, tmFrom]
    simp (maxSteps := 4000000) only [go_sem, AV.one, drawV, intsOf, keyIdx, over, putO, memAt, List.map_cons, List.length_cons, ↓reduceIte, zdrop, one_i, one_b, one_sl, one_ptr, one_ref, one_nilp, one_mp, one_fn, one_nilf, c]
    all_goals (repeat' (first | with_reducible rfl | with_reducible apply And.intro | ((with_reducible show drawOK _ _ = true); rfl))) <;> (try first | omega | (simp only [InR]; omega) | with_reducible assumption)
theorem Shelter_call (s : Sh) (h : s.stacks.length ≤ 4096) : CallP Try.prog 10 [Enc.enc s] (· = Enc.enc s) := by
  simp only [enc_fnl, enc_fnb, enc_fnc, enc_refc, enc_arr, enc_int, enc_bool, enc_list, enc_sk, enc_sp, enc_rg, enc_sh, enc_tr, enc_refs, enc_fns, enc_wks]
  refine callP_of_vc (Φ := P43) Try.func10 rfl (by rfl) (by rw [Try.ntmps10]; simp) mixed P43_ok (by simp [AV.strip, AV.strip1, Tk.strip]) ?_
  rw [Try.ntmps10]
  simp only [Try.f10, startSt, tmFrom]
  simp (maxSteps := 4000000) only [go_sem, AV.one, drawV, intsOf, keyIdx, over, putO, memAt, List.map_cons, List.length_cons, ↓reduceIte, zdrop, one_i, one_b, one_sl, one_ptr, one_ref, one_nilp, one_mp, one_fn, one_nilf]
  all_goals (repeat' (first | with_reducible rfl | with_reducible apply And.intro | ((with_reducible show drawOK _ _ = true); rfl))) <;> (try first | omega | (simp only [InR]; omega) | with_reducible assumption)
  refine loopN (s.stacks.length) [.cell 2 0 3] [1, 2, 3] (fun i => [(4, .int .i64 i)]) (fun i m => (m.set 2 (.cells [.sl ((s.stacks.take i).map EncE.cs) (.own 3), .int .i64 s.hands, .int .i64 s.rain.lo, .int .i64 s.rain.hi])).set 3 (.tok i 3)) (fun _ => True) ?_ ?_ ?_ ?_
  · trivial
  · simp [AV.bare, bel_ints, cs_arr, dep_arr, cs_int, cs_bool, cs_list, cs_sk, cs_sp, AtHead, Same, AllO, Begins, LtAll, headSt, tokz_nil, tokz_cons, tokz1, lk, dep_int, dep_bool, dep_list, dep_sk, dep_sp, memAt, bel_map, bel_mapF, bel_mapO, bel_undef, bel_int, bel_boolv, bel_nilp, bel_nilf, bel_ptr, bel_arr, bel_mp, bel_yld, bel_agg, bel_tup, bel_ref, bel_only, bel_mpr, bel_fn, bel_sl_nil, bel_sl_nilF, bel_sl_nilO, bel_sl_cons, bel_sl_app, belO_cells, belO_tok, belO_dead, belO_deferred, belO_map, belO_iter, belO_loop, bel_vec, bel_vp, belO_vecM, belO_vec, -List.map_take]
  · intro i hi _
    have hi' := Int.ofNat_lt.2 hi
    have htk : (s.stacks.take i).length = i := by simp; omega
    have hts := take_succ_at hi
    obtain ⟨S0, hS0⟩ : ∃ S0, s.stacks.take i = S0 := ⟨_, rfl⟩
    obtain ⟨S1, hS1⟩ : ∃ S1, s.stacks.take (i + 1) = S1 := ⟨_, rfl⟩
    rw [hS0] at htk hts
    rw [hS1] at hts
    rw [hS0]
    simp (maxSteps := 4000000) only [go_sem, AV.one, drawV, intsOf, keyIdx, over, putO, memAt, List.map_cons, List.length_cons, ↓reduceIte, zdrop, one_i, one_b, one_sl, one_ptr, one_ref, one_nilp, one_mp, one_fn, one_nilf, getD_mapA hi, hi', htk]
    all_goals (repeat' (first | with_reducible rfl | with_reducible apply And.intro | ((with_reducible show drawOK _ _ = true); rfl))) <;> (try first | omega | (simp only [InR]; omega) | with_reducible assumption)
    refine nxt hi trivial ?_
    have e : S0.map EncE.cs ++ [[AV.int .i64 (at_ s.stacks i).chairs, AV.int .i64 (at_ s.stacks i).leak.lo, AV.int .i64 (at_ s.stacks i).leak.hi]] = S1.map EncE.cs := by rw [hts, List.map_append]; rfl
    simp only [e]
    simp [AV.bare, bel_ints, cs_arr, dep_arr, cs_int, cs_bool, cs_list, cs_sk, cs_sp, AtHead, Same, AllO, Begins, LtAll, headSt, tokz_nil, tokz_cons, tokz1, lk, dep_int, dep_bool, dep_list, dep_sk, dep_sp, memAt, bel_map, bel_mapF, bel_mapO, bel_undef, bel_int, bel_boolv, bel_nilp, bel_nilf, bel_ptr, bel_arr, bel_mp, bel_yld, bel_agg, bel_tup, bel_ref, bel_only, bel_mpr, bel_fn, bel_sl_nil, bel_sl_nilF, bel_sl_nilO, bel_sl_cons, bel_sl_app, belO_cells, belO_tok, belO_dead, belO_deferred, belO_map, belO_iter, belO_loop, bel_vec, bel_vp, belO_vecM, belO_vec, hS1, -List.map_map, -List.map_take]
  · intro _
    simp (maxSteps := 4000000) only [go_sem, AV.one, drawV, intsOf, keyIdx, over, putO, memAt, List.map_cons, List.length_cons, ↓reduceIte, zdrop, one_i, one_b, one_sl, one_ptr, one_ref, one_nilp, one_mp, one_fn, one_nilf, Int.lt_irrefl, List.take_length]
    all_goals (repeat' (first | with_reducible rfl | with_reducible apply And.intro | ((with_reducible show drawOK _ _ = true); rfl))) <;> (try first | omega | (simp only [InR]; omega) | with_reducible assumption)
instance : DecidableEq Rg := fun a b => if h : a.lo = b.lo ∧ a.hi = b.hi then .isTrue (by cases a; cases b; obtain ⟨h1, h2⟩ := h; simp only at h1 h2; rw [h1, h2]) else .isFalse fun e => h (by rw [e]; exact ⟨rfl, rfl⟩)
instance : DecidableEq Sk := fun a b => if h : a.chairs = b.chairs ∧ a.leak = b.leak then .isTrue (by cases a; cases b; obtain ⟨h1, h2⟩ := h; simp only at h1 h2; rw [h1, h2]) else .isFalse fun e => h (by rw [e]; exact ⟨rfl, rfl⟩)
instance : DecidableEq Sh := fun a b => if h : a.stacks = b.stacks ∧ a.hands = b.hands ∧ a.rain = b.rain then .isTrue (by cases a; cases b; obtain ⟨h1, h2, h3⟩ := h; simp only at h1 h2 h3; rw [h1, h2, h3]) else .isFalse fun e => h (by rw [e]; exact ⟨rfl, rfl, rfl⟩)
instance : DecidableEq Sp := fun a b => if h : a.chairs = b.chairs ∧ a.before = b.before then .isTrue (by cases a; cases b; obtain ⟨h1, h2⟩ := h; simp only at h1 h2; rw [h1, h2]) else .isFalse fun e => h (by rw [e]; exact ⟨rfl, rfl⟩)
instance {α β γ : Type} [DecidableEq α] [DecidableEq β] [DecidableEq γ] : DecidableEq (Tri α β γ) := fun a b => if h : a.a = b.a ∧ a.b = b.b ∧ a.c = b.c then .isTrue (by cases a; cases b; obtain ⟨h1, h2, h3⟩ := h; simp only at h1 h2 h3; rw [h1, h2, h3]) else .isFalse fun e => h (by rw [e]; exact ⟨rfl, rfl, rfl⟩)
theorem sk_eq (x y : Sk) : decide ([x.chairs, x.leak.lo, x.leak.hi] = [y.chairs, y.leak.lo, y.leak.hi]) = decide (x = y) := by
  cases x with | mk a r => cases r; cases y with | mk b q => cases q; simp
def P44 : Specs := addSpec 6 (spec1 (fun _ : Sh => True) (fun s => thinB s && decide (faultS s = 0))) (addSpec 10 (spec1 (fun s : Sh => s.stacks.length ≤ 4096) (fun s => s)) (P43))
theorem P44_app (g : FuncId) : P44 g = (addSpec 6 (spec1 (fun _ : Sh => True) (fun s => thinB s && decide (faultS s = 0))) (addSpec 10 (spec1 (fun s : Sh => s.stacks.length ≤ 4096) (fun s => s)) (P43))) g := rfl
theorem P44_ok : SpecsOk Try.prog P44 := addSpec_ok (spec1_ok fun s _ => ready_call s) (addSpec_ok (spec1_ok Shelter_call) (P43_ok))
attribute [go_sem] P44_app
theorem P44_flag (d : Option Nat) : flagOf P44 d = none := (flagOf_add (by decide) d).trans ((flagOf_add (by decide) d).trans (P43_flag d))
attribute [go_sem] P44_flag
def fourS : Sh := ⟨[⟨10, ⟨0, 1⟩⟩, ⟨8, ⟨0, 0⟩⟩, ⟨6, ⟨1, 2⟩⟩, ⟨5, ⟨0, 0⟩⟩], 1, ⟨2, 4⟩⟩
theorem four_call : CallP Try.prog 15 [] (· = Enc.enc fourS) := by
  unfold fourS
  simp only [enc_fnl, enc_fnb, enc_fnc, enc_refc, enc_arr, enc_int, enc_bool, enc_list, enc_sk, enc_sp, enc_rg, enc_sh, enc_tr, enc_refs, enc_fns, enc_wks]
  refine callP_of_vc (Φ := P44) Try.func15 rfl (by rfl) (by rw [Try.ntmps15]; simp) mixed P44_ok (by simp [AV.strip, AV.strip1, Tk.strip]) ?_
  rw [Try.ntmps15]
  simp only [Try.f15, startSt, tmFrom]
  simp (maxSteps := 4000000) only [go_sem, AV.one, drawV, intsOf, keyIdx, over, putO, memAt, List.map_cons, List.length_cons, ↓reduceIte, zdrop, one_i, one_b, one_sl, one_ptr, one_ref, one_nilp, one_mp, one_fn, one_nilf]
  all_goals (repeat' (first | with_reducible rfl | with_reducible apply And.intro | ((with_reducible show drawOK _ _ = true); rfl))) <;> (try first | omega | (simp only [InR]; omega) | with_reducible assumption)
end Go.Proofs
namespace Go.Proofs
open Go.Fs
set_option linter.unusedSimpArgs false
set_option linter.unusedVariables false
set_option maxHeartbeats 4000000
set_option maxRecDepth 8000
theorem ex1 : playQ fourS [2, 0, 1, 3] ⟨3, [0, 0, 1, 0]⟩ = ([true, true, true, false], 0) := by decide +kernel
theorem ex2 : savedQ fourS [2, 0, 1, 3] = ([3, 1, 1, 3], 0) := by decide +kernel
theorem ex3 : sureQ fourS [2, 0, 1, 3] = (14, 0) := by decide +kernel
theorem ex4 : bestQ fourS = ⟨[0, 1, 2, -1], 24, 0⟩ := by decide +kernel
theorem ex5 : showQ fourS = ⟨[⟨5, 2⟩, ⟨6, 0⟩, ⟨8, 0⟩, ⟨10, 0⟩, ⟨99, 0⟩], 24, 0⟩ := by decide +kernel
theorem ex6 : handsQ fourS = (2, 0) := by decide +kernel
theorem ex7 : worthQ fourS 0 = (5, 0) := by decide +kernel
theorem ex8 : leftQ fourS [0, 1, 2, -1] 2 = ⟨⟨[⟨0, ⟨0, 1⟩⟩, ⟨0, ⟨0, 0⟩⟩, ⟨6, ⟨1, 2⟩⟩, ⟨5, ⟨0, 0⟩⟩], 1, ⟨0, 0⟩⟩, 18, 0⟩ := by decide +kernel
theorem ex9 : proveSureB fourS [0, 1, 2, -1] 24 = true := by decide +kernel
theorem ex10 : proveBoundB fourS [⟨5, 2⟩, ⟨6, 0⟩, ⟨8, 0⟩, ⟨10, 0⟩, ⟨99, 0⟩] 24 = true := by decide +kernel
def PW (T : Sh) : Specs := addSpec 15 (spec0 T) P44
theorem PW_app (T : Sh) (g : FuncId) : PW T g = (addSpec 15 (spec0 T) P44) g := rfl
theorem PW_ok {T : Sh} (h : CallP Try.prog 15 [] (· = Enc.enc T)) : SpecsOk Try.prog (PW T) := addSpec_ok (spec0_ok h) P44_ok
theorem PW_flag (T : Sh) (d : Option Nat) : flagOf (PW T) d = none := (flagOf_add (by decide) d).trans (P44_flag d)
theorem awake_gen (T : Sh) (h : CallP Try.prog 15 [] (· = Enc.enc T)) (hT : T.stacks.length = 4)
    (ex1 : playQ T [2, 0, 1, 3] ⟨3, [0, 0, 1, 0]⟩ = ([true, true, true, false], 0)) (ex2 : savedQ T [2, 0, 1, 3] = ([3, 1, 1, 3], 0)) (ex3 : sureQ T [2, 0, 1, 3] = (14, 0)) (ex4 : bestQ T = ⟨[0, 1, 2, -1], 24, 0⟩)
    (ex5 : showQ T = ⟨[⟨5, 2⟩, ⟨6, 0⟩, ⟨8, 0⟩, ⟨10, 0⟩, ⟨99, 0⟩], 24, 0⟩) (ex6 : handsQ T = (2, 0)) (ex7 : worthQ T 0 = (5, 0))
    (ex8 : leftQ T [0, 1, 2, -1] 2 = ⟨⟨[⟨0, ⟨0, 1⟩⟩, ⟨0, ⟨0, 0⟩⟩, ⟨6, ⟨1, 2⟩⟩, ⟨5, ⟨0, 0⟩⟩], 1, ⟨0, 0⟩⟩, 18, 0⟩) (ex9 : proveSureB T [0, 1, 2, -1] 24 = true) (ex10 : proveBoundB T [⟨5, 2⟩, ⟨6, 0⟩, ⟨8, 0⟩, ⟨10, 0⟩, ⟨99, 0⟩] 24 = true) :
    CallP Try.prog 7 [] (· = Enc.enc true) := by
  simp only [enc_bool]
  refine callP_of_vc (Φ := PW T) Try.func7 rfl (by rfl) (by rw [Try.ntmps7]; simp) mixed (PW_ok h) (by simp [AV.strip, Tk.strip]) ?_
  rw [Try.ntmps7]
  simp only [Try.f7, startSt, tmFrom]
  refine vc_seqK fun Q' hQ => ?_
  simp (maxSteps := 4000000) only [go_sem, AV.one, drawV, intsOf, keyIdx, over, putO, memAt, List.map_cons, List.length_cons, ↓reduceIte, zdrop, one_i, one_b, one_sl, one_ptr, one_ref, one_nilp, one_mp, one_fn, one_nilf, PW_app, PW_flag]
  all_goals (repeat' (first | with_reducible rfl | with_reducible apply And.intro | ((with_reducible show drawOK _ _ = true); rfl))) <;> (try first | omega | (simp only [InR]; omega) | with_reducible assumption)
  rw [hQ]
  clear hQ Q'
  simp only [thenA]
  refine vc_seqK fun Q' hQ => ?_
  simp (maxSteps := 4000000) only [go_sem, AV.one, drawV, intsOf, keyIdx, over, putO, memAt, List.map_cons, List.length_cons, ↓reduceIte, zdrop, one_i, one_b, one_sl, one_ptr, one_ref, one_nilp, one_mp, one_fn, one_nilf, PW_app, PW_flag, ex1]
  all_goals (repeat' (first | with_reducible rfl | with_reducible apply And.intro | ((with_reducible show drawOK _ _ = true); rfl))) <;> (try first | omega | (simp only [InR]; omega) | with_reducible assumption)
  rw [hQ]
  clear hQ Q'
  simp only [thenA]
  refine vc_seqK fun Q' hQ => ?_
  simp (maxSteps := 4000000) only [go_sem, AV.one, drawV, intsOf, keyIdx, over, putO, memAt, List.map_cons, List.length_cons, ↓reduceIte, zdrop, one_i, one_b, one_sl, one_ptr, one_ref, one_nilp, one_mp, one_fn, one_nilf, PW_app, PW_flag, ex2]
  all_goals (repeat' (first | with_reducible rfl | with_reducible apply And.intro | ((with_reducible show drawOK _ _ = true); rfl))) <;> (try first | omega | (simp only [InR]; omega) | with_reducible assumption)
  rw [hQ]
  clear hQ Q'
  simp only [thenA]
  refine vc_seqK fun Q' hQ => ?_
  simp (maxSteps := 4000000) only [go_sem, AV.one, drawV, intsOf, keyIdx, over, putO, memAt, List.map_cons, List.length_cons, ↓reduceIte, zdrop, one_i, one_b, one_sl, one_ptr, one_ref, one_nilp, one_mp, one_fn, one_nilf, PW_app, PW_flag, ex3]
  all_goals (repeat' (first | with_reducible rfl | with_reducible apply And.intro | ((with_reducible show drawOK _ _ = true); rfl))) <;> (try first | omega | (simp only [InR]; omega) | with_reducible assumption)
  rw [hQ]
  clear hQ Q'
  simp only [thenA]
  refine vc_seqK fun Q' hQ => ?_
  simp (maxSteps := 4000000) only [go_sem, AV.one, drawV, intsOf, keyIdx, over, putO, memAt, List.map_cons, List.length_cons, ↓reduceIte, zdrop, one_i, one_b, one_sl, one_ptr, one_ref, one_nilp, one_mp, one_fn, one_nilf, PW_app, PW_flag, ex4]
  all_goals (repeat' (first | with_reducible rfl | with_reducible apply And.intro | ((with_reducible show drawOK _ _ = true); rfl))) <;> (try first | omega | (simp only [InR]; omega) | with_reducible assumption)
  rw [hQ]
  clear hQ Q'
  simp only [thenA]
  refine vc_seqK fun Q' hQ => ?_
  simp (maxSteps := 4000000) only [go_sem, AV.one, drawV, intsOf, keyIdx, over, putO, memAt, List.map_cons, List.length_cons, ↓reduceIte, zdrop, one_i, one_b, one_sl, one_ptr, one_ref, one_nilp, one_mp, one_fn, one_nilf, PW_app, PW_flag, ex5]
  all_goals (repeat' (first | with_reducible rfl | with_reducible apply And.intro | ((with_reducible show drawOK _ _ = true); rfl))) <;> (try first | omega | (simp only [InR]; omega) | with_reducible assumption)
  rw [hQ]
  clear hQ Q'
  simp only [thenA]
  refine vc_seqK fun Q' hQ => ?_
  simp (maxSteps := 4000000) only [go_sem, AV.one, drawV, intsOf, keyIdx, over, putO, memAt, List.map_cons, List.length_cons, ↓reduceIte, zdrop, one_i, one_b, one_sl, one_ptr, one_ref, one_nilp, one_mp, one_fn, one_nilf, PW_app, PW_flag, ex6]
  all_goals (repeat' (first | with_reducible rfl | with_reducible apply And.intro | ((with_reducible show drawOK _ _ = true); rfl))) <;> (try first | omega | (simp only [InR]; omega) | with_reducible assumption)
  rw [hQ]
  clear hQ Q'
  simp only [thenA]
  refine vc_seqK fun Q' hQ => ?_
  simp (maxSteps := 4000000) only [go_sem, AV.one, drawV, intsOf, keyIdx, over, putO, memAt, List.map_cons, List.length_cons, ↓reduceIte, zdrop, one_i, one_b, one_sl, one_ptr, one_ref, one_nilp, one_mp, one_fn, one_nilf, PW_app, PW_flag, ex7]
  all_goals (repeat' (first | with_reducible rfl | with_reducible apply And.intro | ((with_reducible show drawOK _ _ = true); rfl))) <;> (try first | omega | (simp only [InR]; omega) | with_reducible assumption)
  rw [hQ]
  clear hQ Q'
  simp only [thenA]
  refine vc_seqK fun Q' hQ => ?_
  simp (maxSteps := 4000000) only [go_sem, AV.one, drawV, intsOf, keyIdx, over, putO, memAt, List.map_cons, List.length_cons, ↓reduceIte, zdrop, one_i, one_b, one_sl, one_ptr, one_ref, one_nilp, one_mp, one_fn, one_nilf, PW_app, PW_flag, ex8]
  all_goals (repeat' (first | with_reducible rfl | with_reducible apply And.intro | ((with_reducible show drawOK _ _ = true); rfl))) <;> (try first | omega | (simp only [InR]; omega) | with_reducible assumption)
  rw [hQ]
  clear hQ Q'
  simp only [thenA]
  refine vc_seqK fun Q' hQ => ?_
  rw [vc_region]
  refine vcOps_ds fun ds hds => ?_
  refine vcOps_keep [1, 2, 3, 4, 5, 6, 7, 8, 9, 10, 11, 12, 13, 14, 15, 16, 17, 18, 19] fun tm' h => ?_
  simp (maxSteps := 4000000) only [lk, List.mem_cons, List.not_mem_nil, or_false, forall_eq_or_imp, forall_eq, Nat.reduceEqDiff, if_true, if_false, ↓reduceIte] at h
  obtain ⟨l1, l2, l3, l4, l5, l6, l7, l8, l9, l10, l11, l12, l13, l14, l15, l16, l17, l18, l19⟩ := h
  have d2 : ds.getD 2 none = some 71 := by rw [hds]; rfl
  have d7 : ds.getD 7 none = some 76 := by rw [hds]; rfl
  have d12 : ds.getD 12 none = some 81 := by rw [hds]; rfl
  have d17 : ds.getD 17 none = some 86 := by rw [hds]; rfl
  have d22 : ds.getD 22 none = some 91 := by rw [hds]; rfl
  have d28 : ds.getD 28 none = some 97 := by rw [hds]; rfl
  have d32 : ds.getD 32 none = some 101 := by rw [hds]; rfl
  have d37 : ds.getD 37 none = some 106 := by rw [hds]; rfl
  have d41 : ds.getD 41 none = some 110 := by rw [hds]; rfl
  have d45 : ds.getD 45 none = some 114 := by rw [hds]; rfl
  have d49 : ds.getD 49 none = some 118 := by rw [hds]; rfl
  have d53 : ds.getD 53 none = some 122 := by rw [hds]; rfl
  have d58 : ds.getD 58 none = some 127 := by rw [hds]; rfl
  have d62 : ds.getD 62 none = some 131 := by rw [hds]; rfl
  have d66 : ds.getD 66 none = some 135 := by rw [hds]; rfl
  have d71 : ds.getD 71 none = some 140 := by rw [hds]; rfl
  have d75 : ds.getD 75 none = some 144 := by rw [hds]; rfl
  have d79 : ds.getD 79 none = some 148 := by rw [hds]; rfl
  have d83 : ds.getD 83 none = some 152 := by rw [hds]; rfl
  have d87 : ds.getD 87 none = some 156 := by rw [hds]; rfl
  have d91 : ds.getD 91 none = some 160 := by rw [hds]; rfl
  have d95 : ds.getD 95 none = some 164 := by rw [hds]; rfl
  have d101 : ds.getD 101 none = some 170 := by rw [hds]; rfl
  have d109 : ds.getD 109 none = some 178 := by rw [hds]; rfl
  have d117 : ds.getD 117 none = some 186 := by rw [hds]; rfl
  clear hds
  refine vcOps_split 8 fun K' hK => ?_
  simp (maxSteps := 4000000) only [go_sem, AV.one, drawV, intsOf, keyIdx, over, putO, memAt, List.map_cons, List.length_cons, ↓reduceIte, zdrop, one_i, one_b, one_sl, one_ptr, one_ref, one_nilp, one_mp, one_fn, one_nilf, Int.cast_ofNat_Int, List.append_eq, PW_app, PW_flag, ex9, ex10, l1, l2, l3, l4, l5, l6, l7, l8, l9, l10, l11, l12, l13, l14, l15, l16, l17, l18, l19, d2]
  all_goals (repeat' (first | with_reducible rfl | with_reducible apply And.intro | ((with_reducible show drawOK _ _ = true); rfl))) <;> (try first | omega | (simp only [InR]; omega) | with_reducible assumption)
  rw [hK]
  clear hK K'
  refine vcOps_keep [1, 3, 4, 5, 6, 7, 8, 9, 10, 11, 12, 13, 14, 15, 16, 17, 18, 19, 76] fun tm' h => ?_
  simp (maxSteps := 4000000) only [lk, List.mem_cons, List.not_mem_nil, or_false, forall_eq_or_imp, forall_eq, Nat.reduceEqDiff, if_true, if_false, ↓reduceIte, l1, l2, l3, l4, l5, l6, l7, l8, l9, l10, l11, l12, l13, l14, l15, l16, l17, l18, l19, d2] at h
  clear l1 l2 l3 l4 l5 l6 l7 l8 l9 l10 l11 l12 l13 l14 l15 l16 l17 l18 l19
  obtain ⟨l1, l3, l4, l5, l6, l7, l8, l9, l10, l11, l12, l13, l14, l15, l16, l17, l18, l19, l76⟩ := h
  refine vcOps_split 10 fun K' hK => ?_
  simp (maxSteps := 4000000) only [go_sem, AV.one, drawV, intsOf, keyIdx, over, putO, memAt, List.map_cons, List.length_cons, ↓reduceIte, zdrop, one_i, one_b, one_sl, one_ptr, one_ref, one_nilp, one_mp, one_fn, one_nilf, Int.cast_ofNat_Int, List.append_eq, PW_app, PW_flag, ex9, ex10, l1, l3, l4, l5, l6, l7, l8, l9, l10, l11, l12, l13, l14, l15, l16, l17, l18, l19, l76, d7, d12]
  all_goals (repeat' (first | with_reducible rfl | with_reducible apply And.intro | ((with_reducible show drawOK _ _ = true); rfl))) <;> (try first | omega | (simp only [InR]; omega) | with_reducible assumption)
  rw [hK]
  clear hK K'
  refine vcOps_keep [1, 3, 4, 5, 6, 7, 8, 9, 10, 11, 12, 13, 14, 15, 16, 17, 18, 19, 86] fun tm' h => ?_
  simp (maxSteps := 4000000) only [lk, List.mem_cons, List.not_mem_nil, or_false, forall_eq_or_imp, forall_eq, Nat.reduceEqDiff, if_true, if_false, ↓reduceIte, l1, l3, l4, l5, l6, l7, l8, l9, l10, l11, l12, l13, l14, l15, l16, l17, l18, l19, l76, d7, d12] at h
  clear l1 l3 l4 l5 l6 l7 l8 l9 l10 l11 l12 l13 l14 l15 l16 l17 l18 l19 l76
  obtain ⟨l1, l3, l4, l5, l6, l7, l8, l9, l10, l11, l12, l13, l14, l15, l16, l17, l18, l19, l86⟩ := h
  refine vcOps_split 10 fun K' hK => ?_
  simp (maxSteps := 4000000) only [go_sem, AV.one, drawV, intsOf, keyIdx, over, putO, memAt, List.map_cons, List.length_cons, ↓reduceIte, zdrop, one_i, one_b, one_sl, one_ptr, one_ref, one_nilp, one_mp, one_fn, one_nilf, Int.cast_ofNat_Int, List.append_eq, PW_app, PW_flag, ex9, ex10, l1, l3, l4, l5, l6, l7, l8, l9, l10, l11, l12, l13, l14, l15, l16, l17, l18, l19, l86, d17, d22]
  all_goals (repeat' (first | with_reducible rfl | with_reducible apply And.intro | ((with_reducible show drawOK _ _ = true); rfl))) <;> (try first | omega | (simp only [InR]; omega) | with_reducible assumption)
  rw [hK]
  clear hK K'
  refine vcOps_keep [3, 4, 5, 6, 7, 8, 9, 10, 11, 12, 13, 14, 15, 16, 17, 18, 19, 96] fun tm' h => ?_
  simp (maxSteps := 4000000) only [lk, List.mem_cons, List.not_mem_nil, or_false, forall_eq_or_imp, forall_eq, Nat.reduceEqDiff, if_true, if_false, ↓reduceIte, l1, l3, l4, l5, l6, l7, l8, l9, l10, l11, l12, l13, l14, l15, l16, l17, l18, l19, l86, d17, d22] at h
  clear l1 l3 l4 l5 l6 l7 l8 l9 l10 l11 l12 l13 l14 l15 l16 l17 l18 l19 l86
  obtain ⟨l3, l4, l5, l6, l7, l8, l9, l10, l11, l12, l13, l14, l15, l16, l17, l18, l19, l96⟩ := h
  refine vcOps_split 10 fun K' hK => ?_
  simp (maxSteps := 4000000) only [go_sem, AV.one, drawV, intsOf, keyIdx, over, putO, memAt, List.map_cons, List.length_cons, ↓reduceIte, zdrop, one_i, one_b, one_sl, one_ptr, one_ref, one_nilp, one_mp, one_fn, one_nilf, Int.cast_ofNat_Int, List.append_eq, PW_app, PW_flag, ex9, ex10, l3, l4, l5, l6, l7, l8, l9, l10, l11, l12, l13, l14, l15, l16, l17, l18, l19, l96, d28, d32]
  all_goals (repeat' (first | with_reducible rfl | with_reducible apply And.intro | ((with_reducible show drawOK _ _ = true); rfl))) <;> (try first | omega | (simp only [InR]; omega) | with_reducible assumption)
  rw [hK]
  clear hK K'
  refine vcOps_keep [5, 6, 7, 8, 9, 10, 11, 12, 13, 14, 15, 16, 17, 18, 19, 106] fun tm' h => ?_
  simp (maxSteps := 4000000) only [lk, List.mem_cons, List.not_mem_nil, or_false, forall_eq_or_imp, forall_eq, Nat.reduceEqDiff, if_true, if_false, ↓reduceIte, l3, l4, l5, l6, l7, l8, l9, l10, l11, l12, l13, l14, l15, l16, l17, l18, l19, l96, d28, d32] at h
  clear l3 l4 l5 l6 l7 l8 l9 l10 l11 l12 l13 l14 l15 l16 l17 l18 l19 l96
  obtain ⟨l5, l6, l7, l8, l9, l10, l11, l12, l13, l14, l15, l16, l17, l18, l19, l106⟩ := h
  refine vcOps_split 8 fun K' hK => ?_
  simp (maxSteps := 4000000) only [go_sem, AV.one, drawV, intsOf, keyIdx, over, putO, memAt, List.map_cons, List.length_cons, ↓reduceIte, zdrop, one_i, one_b, one_sl, one_ptr, one_ref, one_nilp, one_mp, one_fn, one_nilf, Int.cast_ofNat_Int, List.append_eq, PW_app, PW_flag, ex9, ex10, l5, l6, l7, l8, l9, l10, l11, l12, l13, l14, l15, l16, l17, l18, l19, l106, d37, d41]
  all_goals (repeat' (first | with_reducible rfl | with_reducible apply And.intro | ((with_reducible show drawOK _ _ = true); rfl))) <;> (try first | omega | (simp only [InR]; omega) | with_reducible assumption)
  rw [hK]
  clear hK K'
  refine vcOps_keep [7, 8, 9, 10, 11, 12, 13, 14, 15, 16, 17, 18, 19, 114] fun tm' h => ?_
  simp (maxSteps := 4000000) only [lk, List.mem_cons, List.not_mem_nil, or_false, forall_eq_or_imp, forall_eq, Nat.reduceEqDiff, if_true, if_false, ↓reduceIte, l5, l6, l7, l8, l9, l10, l11, l12, l13, l14, l15, l16, l17, l18, l19, l106, d37, d41] at h
  clear l5 l6 l7 l8 l9 l10 l11 l12 l13 l14 l15 l16 l17 l18 l19 l106
  obtain ⟨l7, l8, l9, l10, l11, l12, l13, l14, l15, l16, l17, l18, l19, l114⟩ := h
  refine vcOps_split 8 fun K' hK => ?_
  simp (maxSteps := 4000000) only [go_sem, AV.one, drawV, intsOf, keyIdx, over, putO, memAt, List.map_cons, List.length_cons, ↓reduceIte, zdrop, one_i, one_b, one_sl, one_ptr, one_ref, one_nilp, one_mp, one_fn, one_nilf, Int.cast_ofNat_Int, List.append_eq, PW_app, PW_flag, ex9, ex10, l7, l8, l9, l10, l11, l12, l13, l14, l15, l16, l17, l18, l19, l114, d45, d49]
  all_goals (repeat' (first | with_reducible rfl | with_reducible apply And.intro | ((with_reducible show drawOK _ _ = true); rfl))) <;> (try first | omega | (simp only [InR]; omega) | with_reducible assumption)
  rw [hK]
  clear hK K'
  refine vcOps_keep [7, 10, 11, 12, 13, 14, 15, 16, 17, 18, 19, 122] fun tm' h => ?_
  simp (maxSteps := 4000000) only [lk, List.mem_cons, List.not_mem_nil, or_false, forall_eq_or_imp, forall_eq, Nat.reduceEqDiff, if_true, if_false, ↓reduceIte, l7, l8, l9, l10, l11, l12, l13, l14, l15, l16, l17, l18, l19, l114, d45, d49] at h
  clear l7 l8 l9 l10 l11 l12 l13 l14 l15 l16 l17 l18 l19 l114
  obtain ⟨l7, l10, l11, l12, l13, l14, l15, l16, l17, l18, l19, l122⟩ := h
  refine vcOps_split 9 fun K' hK => ?_
  simp (maxSteps := 4000000) only [go_sem, AV.one, drawV, intsOf, keyIdx, over, putO, memAt, List.map_cons, List.length_cons, ↓reduceIte, zdrop, one_i, one_b, one_sl, one_ptr, one_ref, one_nilp, one_mp, one_fn, one_nilf, Int.cast_ofNat_Int, List.append_eq, PW_app, PW_flag, ex9, ex10, l7, l10, l11, l12, l13, l14, l15, l16, l17, l18, l19, l122, d53, d58]
  all_goals (repeat' (first | with_reducible rfl | with_reducible apply And.intro | ((with_reducible show drawOK _ _ = true); rfl))) <;> (try first | omega | (simp only [InR]; omega) | with_reducible assumption)
  rw [hK]
  clear hK K'
  refine vcOps_keep [10, 11, 13, 14, 15, 16, 17, 18, 19, 131] fun tm' h => ?_
  simp (maxSteps := 4000000) only [lk, List.mem_cons, List.not_mem_nil, or_false, forall_eq_or_imp, forall_eq, Nat.reduceEqDiff, if_true, if_false, ↓reduceIte, l7, l10, l11, l12, l13, l14, l15, l16, l17, l18, l19, l122, d53, d58] at h
  clear l7 l10 l11 l12 l13 l14 l15 l16 l17 l18 l19 l122
  obtain ⟨l10, l11, l13, l14, l15, l16, l17, l18, l19, l131⟩ := h
  refine vcOps_split 9 fun K' hK => ?_
  simp (maxSteps := 4000000) only [go_sem, AV.one, drawV, intsOf, keyIdx, over, putO, memAt, List.map_cons, List.length_cons, ↓reduceIte, zdrop, one_i, one_b, one_sl, one_ptr, one_ref, one_nilp, one_mp, one_fn, one_nilf, Int.cast_ofNat_Int, List.append_eq, PW_app, PW_flag, ex9, ex10, l10, l11, l13, l14, l15, l16, l17, l18, l19, l131, d62, d66]
  all_goals (repeat' (first | with_reducible rfl | with_reducible apply And.intro | ((with_reducible show drawOK _ _ = true); rfl))) <;> (try first | omega | (simp only [InR]; omega) | with_reducible assumption)
  rw [hK]
  clear hK K'
  refine vcOps_keep [13, 14, 15, 16, 17, 18, 19, 140] fun tm' h => ?_
  simp (maxSteps := 4000000) only [lk, List.mem_cons, List.not_mem_nil, or_false, forall_eq_or_imp, forall_eq, Nat.reduceEqDiff, if_true, if_false, ↓reduceIte, l10, l11, l13, l14, l15, l16, l17, l18, l19, l131, d62, d66] at h
  clear l10 l11 l13 l14 l15 l16 l17 l18 l19 l131
  obtain ⟨l13, l14, l15, l16, l17, l18, l19, l140⟩ := h
  refine vcOps_split 8 fun K' hK => ?_
  simp (maxSteps := 4000000) only [go_sem, AV.one, drawV, intsOf, keyIdx, over, putO, memAt, List.map_cons, List.length_cons, ↓reduceIte, zdrop, one_i, one_b, one_sl, one_ptr, one_ref, one_nilp, one_mp, one_fn, one_nilf, Int.cast_ofNat_Int, List.append_eq, PW_app, PW_flag, ex9, ex10, l13, l14, l15, l16, l17, l18, l19, l140, d71, d75]
  all_goals (repeat' (first | with_reducible rfl | with_reducible apply And.intro | ((with_reducible show drawOK _ _ = true); rfl))) <;> (try first | omega | (simp only [InR]; omega) | with_reducible assumption)
  rw [hK]
  clear hK K'
  refine vcOps_keep [15, 16, 17, 18, 19, 148] fun tm' h => ?_
  simp (maxSteps := 4000000) only [lk, List.mem_cons, List.not_mem_nil, or_false, forall_eq_or_imp, forall_eq, Nat.reduceEqDiff, if_true, if_false, ↓reduceIte, l13, l14, l15, l16, l17, l18, l19, l140, d71, d75] at h
  clear l13 l14 l15 l16 l17 l18 l19 l140
  obtain ⟨l15, l16, l17, l18, l19, l148⟩ := h
  refine vcOps_split 8 fun K' hK => ?_
  simp (maxSteps := 4000000) only [go_sem, AV.one, drawV, intsOf, keyIdx, over, putO, memAt, List.map_cons, List.length_cons, ↓reduceIte, zdrop, one_i, one_b, one_sl, one_ptr, one_ref, one_nilp, one_mp, one_fn, one_nilf, Int.cast_ofNat_Int, List.append_eq, PW_app, PW_flag, ex9, ex10, l15, l16, l17, l18, l19, l148, d79, d83]
  all_goals (repeat' (first | with_reducible rfl | with_reducible apply And.intro | ((with_reducible show drawOK _ _ = true); rfl))) <;> (try first | omega | (simp only [InR]; omega) | with_reducible assumption)
  rw [hK]
  clear hK K'
  refine vcOps_keep [17, 18, 19, 156] fun tm' h => ?_
  simp (maxSteps := 4000000) only [lk, List.mem_cons, List.not_mem_nil, or_false, forall_eq_or_imp, forall_eq, Nat.reduceEqDiff, if_true, if_false, ↓reduceIte, l15, l16, l17, l18, l19, l148, d79, d83] at h
  clear l15 l16 l17 l18 l19 l148
  obtain ⟨l17, l18, l19, l156⟩ := h
  refine vcOps_split 8 fun K' hK => ?_
  simp (maxSteps := 4000000) only [go_sem, AV.one, drawV, intsOf, keyIdx, over, putO, memAt, List.map_cons, List.length_cons, ↓reduceIte, zdrop, one_i, one_b, one_sl, one_ptr, one_ref, one_nilp, one_mp, one_fn, one_nilf, Int.cast_ofNat_Int, List.append_eq, PW_app, PW_flag, ex9, ex10, l17, l18, l19, l156, d87, d91]
  all_goals (repeat' (first | with_reducible rfl | with_reducible apply And.intro | ((with_reducible show drawOK _ _ = true); rfl))) <;> (try first | omega | (simp only [InR]; omega) | with_reducible assumption)
  rw [hK]
  clear hK K'
  refine vcOps_keep [17, 164] fun tm' h => ?_
  simp (maxSteps := 4000000) only [lk, List.mem_cons, List.not_mem_nil, or_false, forall_eq_or_imp, forall_eq, Nat.reduceEqDiff, if_true, if_false, ↓reduceIte, l17, l18, l19, l156, d87, d91] at h
  clear l17 l18 l19 l156
  obtain ⟨l17, l164⟩ := h
  refine vcOps_split 6 fun K' hK => ?_
  simp (maxSteps := 4000000) only [go_sem, AV.one, drawV, intsOf, keyIdx, over, putO, memAt, List.map_cons, List.length_cons, ↓reduceIte, zdrop, one_i, one_b, one_sl, one_ptr, one_ref, one_nilp, one_mp, one_fn, one_nilf, Int.cast_ofNat_Int, List.append_eq, PW_app, PW_flag, ex9, ex10, l17, l164, d95]
  all_goals (repeat' (first | with_reducible rfl | with_reducible apply And.intro | ((with_reducible show drawOK _ _ = true); rfl))) <;> (try first | omega | (simp only [InR]; omega) | with_reducible assumption)
  rw [hK]
  clear hK K'
  refine vcOps_keep [17, 170] fun tm' h => ?_
  simp (maxSteps := 4000000) only [lk, List.mem_cons, List.not_mem_nil, or_false, forall_eq_or_imp, forall_eq, Nat.reduceEqDiff, if_true, if_false, ↓reduceIte, l17, l164, d95] at h
  clear l17 l164
  obtain ⟨l17, l170⟩ := h
  refine vcOps_split 8 fun K' hK => ?_
  simp (maxSteps := 4000000) only [go_sem, AV.one, drawV, intsOf, keyIdx, over, putO, memAt, List.map_cons, List.length_cons, ↓reduceIte, zdrop, one_i, one_b, one_sl, one_ptr, one_ref, one_nilp, one_mp, one_fn, one_nilf, Int.cast_ofNat_Int, List.append_eq, PW_app, PW_flag, ex9, ex10, l17, l170, d101]
  all_goals (repeat' (first | with_reducible rfl | with_reducible apply And.intro | ((with_reducible show drawOK _ _ = true); rfl))) <;> (try first | omega | (simp only [InR]; omega) | with_reducible assumption)
  rw [hK]
  clear hK K'
  refine vcOps_keep [17, 178] fun tm' h => ?_
  simp (maxSteps := 4000000) only [lk, List.mem_cons, List.not_mem_nil, or_false, forall_eq_or_imp, forall_eq, Nat.reduceEqDiff, if_true, if_false, ↓reduceIte, l17, l170, d101] at h
  clear l17 l170
  obtain ⟨l17, l178⟩ := h
  refine vcOps_split 8 fun K' hK => ?_
  simp (maxSteps := 4000000) only [go_sem, AV.one, drawV, intsOf, keyIdx, over, putO, memAt, List.map_cons, List.length_cons, ↓reduceIte, zdrop, one_i, one_b, one_sl, one_ptr, one_ref, one_nilp, one_mp, one_fn, one_nilf, Int.cast_ofNat_Int, List.append_eq, PW_app, PW_flag, ex9, ex10, l17, l178, d109]
  all_goals (repeat' (first | with_reducible rfl | with_reducible apply And.intro | ((with_reducible show drawOK _ _ = true); rfl))) <;> (try first | omega | (simp only [InR]; omega) | with_reducible assumption)
  rw [hK]
  clear hK K'
  refine vcOps_keep [17, 186] fun tm' h => ?_
  simp (maxSteps := 4000000) only [lk, List.mem_cons, List.not_mem_nil, or_false, forall_eq_or_imp, forall_eq, Nat.reduceEqDiff, if_true, if_false, ↓reduceIte, l17, l178, d109] at h
  clear l17 l178
  obtain ⟨l17, l186⟩ := h
  simp (maxSteps := 4000000) only [go_sem, AV.one, drawV, intsOf, keyIdx, over, putO, memAt, List.map_cons, List.length_cons, ↓reduceIte, zdrop, one_i, one_b, one_sl, one_ptr, one_ref, one_nilp, one_mp, one_fn, one_nilf, Int.cast_ofNat_Int, List.append_eq, PW_app, PW_flag, ex9, ex10, l17, l186, d117]
  all_goals (repeat' (first | with_reducible rfl | with_reducible apply And.intro | ((with_reducible show drawOK _ _ = true); rfl))) <;> (try first | omega | (simp only [InR]; omega) | with_reducible assumption)
  rw [hQ]
  clear hQ Q'
  simp only [thenA]
  simp (maxSteps := 4000000) only [go_sem, AV.one, drawV, intsOf, keyIdx, over, putO, memAt, List.map_cons, List.length_cons, ↓reduceIte, zdrop, one_i, one_b, one_sl, one_ptr, one_ref, one_nilp, one_mp, one_fn, one_nilf]
theorem awake_call : CallP Try.prog 7 [] (· = Enc.enc true) :=
  awake_gen fourS four_call rfl ex1 ex2 ex3 ex4 ex5 ex6 ex7 ex8 ex9 ex10
def P45 : Specs := addSpec 15 (spec0 fourS) (addSpec 7 (spec0 true) (P44))
theorem P45_app (g : FuncId) : P45 g = (addSpec 15 (spec0 fourS) (addSpec 7 (spec0 true) (P44))) g := rfl
theorem P45_ok : SpecsOk Try.prog P45 := addSpec_ok (spec0_ok four_call) (addSpec_ok (spec0_ok awake_call) (P44_ok))
attribute [go_sem] P45_app
theorem P45_flag (d : Option Nat) : flagOf P45 d = none := (flagOf_add (by decide) d).trans ((flagOf_add (by decide) d).trans (P44_flag d))
attribute [go_sem] P45_flag
end Go.Proofs
