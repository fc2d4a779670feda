/- The texts S20, S21, S22, S23, joined. -/
import Derived.Test.YtfdnifofpkceiaaG10
set_option linter.all false
namespace Go.Proofs
open Go.Fs
set_option linter.unusedSimpArgs false
set_option linter.unusedVariables false
set_option maxHeartbeats 4000000
set_option maxRecDepth 8000
def laterB (s : Sh) (c b : Int) (i : Nat) : Bool := decide (c ≤ chS s i) && decide (b < spS s i)
def laterS (s : Sh) (c b : Int) : Int := cnt s.stacks.length (laterB s c b)
structure Memo (s : Sh) (ks : List (List Int)) (vs : List Int) : Prop where
  len : vs.length = ks.length
  ok : ∀ i, i < ks.length → ∃ c b, ks.getD i [] = [c, b] ∧ vs.getD i 0 = laterS s c b
theorem Memo.two {s : Sh} {ks : List (List Int)} {vs : List Int} (h : Memo s ks vs) : ∀ k ∈ ks, k.length = 2 := fun k hk => by
  obtain ⟨i, hi, rfl⟩ := List.mem_iff_getElem.1 hk
  obtain ⟨c, b, e, _⟩ := h.ok i hi
  have : ks.getD i [] = ks[i] := by simp [List.getD, hi]
  rw [← this, e]; rfl
theorem memo_nil (s : Sh) : Memo s [] [] := ⟨rfl, fun i hi => by simp at hi⟩
theorem keyIdx_some {ks : List (List Int)} {k : List Int} {i : Nat} (h : keyIdx ks k = some i) : i < ks.length ∧ ks.getD i [] = k := by
  unfold keyIdx at h
  have h1 := (List.findIdx?_eq_some_iff_getElem.1 h)
  obtain ⟨hi, h2, _⟩ := h1
  exact ⟨hi, by simpa [List.getD, hi] using h2⟩
def lookS (ks : List (List Int)) (vs : List Int) (k : List Int) : Int := match keyIdx ks k with | some i => vs.getD i 0 | none => 0
theorem look_ok {s : Sh} {ks : List (List Int)} {vs : List Int} (h : Memo s ks vs) {c b : Int} {i : Nat} (hk : keyIdx ks [c, b] = some i) : vs.getD i 0 = laterS s c b := by
  obtain ⟨hi, h1⟩ := keyIdx_some hk
  obtain ⟨c', b', e, hv⟩ := h.ok i hi
  rw [h1] at e
  cases e
  exact hv
theorem memo_put {s : Sh} {ks : List (List Int)} {vs : List Int} (h : Memo s ks vs) {c b : Int} (hk : keyIdx ks [c, b] = none) : Memo s (ks ++ [[c, b]]) (vs ++ [laterS s c b]) := by
  refine ⟨by simp [h.len], fun i hi => ?_⟩
  simp at hi
  by_cases e : i < ks.length
  · obtain ⟨c', b', e1, e2⟩ := h.ok i e
    refine ⟨c', b', ?_, ?_⟩
    · rw [← e1]; simp [List.getD, List.getElem?_append_left e]
    · rw [← e2]; simp [List.getD, List.getElem?_append_left (show i < vs.length by rw [h.len]; exact e)]
  · have : i = ks.length := by omega
    subst this
    refine ⟨c, b, by simp [List.getD], ?_⟩
    rw [← h.len]; simp [List.getD]
theorem getD_vs (vs : List Int) {i : Nat} (hi : i < vs.length) : (vs.map (AV.int .i64)).getD i .undef = .int .i64 (vs.getD i 0) := by simp [List.getD, hi]
theorem later_bd (s : Sh) (c b : Int) : 0 ≤ laterS s c b ∧ laterS s c b ≤ s.stacks.length := ⟨cnt_nonneg _ _, cnt_le _ _⟩
theorem keyOk2 : KeyOk Try.prog 107 2 := keyOk_of ek_107
theorem belO_mapI (k : Nat) (ks : List (List Int)) (vs : List Int) : belO k (.map ks (vs.map (AV.int .i64))) = True := by
  simp only [belO_map, eq_iff_iff, iff_true]
  intro c hc
  obtain ⟨x, _, rfl⟩ := List.mem_map.1 hc
  trivial
theorem begins_app {r r' : List AObj} (h : Begins r r') : ∀ m : List AObj, Begins (m ++ r) (m ++ r')
  | [] => h
  | a :: m => ⟨rfl, begins_app h m⟩
section
variable {mem : List AObj} {a m : Nat}
theorem later_call (s : Sh) (hs : ShOk s) (ks : List (List Int)) (vs : List Int) (hM : Memo s ks vs) (c b : Int) (hcb : (1 ≤ c ∧ c ≤ 99) ∧ 0 ≤ b ∧ b ≤ 18)
    (ha : memAt mem a = .cells [.sl (s.stacks.map EncE.cs) .no, .int .i64 s.hands, .int .i64 s.rain.lo, .int .i64 s.rain.hi, .mp m]) (hmm : memAt mem m = .map ks (vs.map (AV.int .i64))) (hm : ∀ o ∈ mem, belO mem.length o) :
    CallM Try.prog 73 [.ptr a 0, .agg [.int .i64 c, .int .i64 b]] mem
      (fun r m' => r = .int .i64 (laterS s c b) ∧ ∃ ks' vs', Memo s ks' vs' ∧ m' = mem.set m (.map ks' (vs'.map (AV.int .i64)))) := by
  have hal := memAt_some ha (by simp)
  have hml := memAt_some hmm (by simp)
  have g0 : ∀ r, memAt (mem ++ r) a = .cells [.sl (s.stacks.map EncE.cs) .no, .int .i64 s.hands, .int .i64 s.rain.lo, .int .i64 s.rain.hi, .mp m] := fun r => by rw [memAt_left hal, ha]
  have g1 : ∀ r, memAt (mem ++ r) m = .map ks (vs.map (AV.int .i64)) := fun r => by rw [memAt_left hml, hmm]
  have g2 : ∀ r, memAt (mem ++ r) mem.length = memAt r 0 := fun r => memAt_app _ _ 0
  have g3 : ∀ r k, memAt (mem ++ r) (mem.length + k) = memAt r k := fun r k => memAt_app _ _ k
  have s2 : ∀ r o, (mem ++ r).set mem.length o = mem ++ r.set 0 o := fun r o => set_app _ _ 0 _
  have s3 : ∀ r k o, (mem ++ r).set (mem.length + k) o = mem ++ r.set k o := fun r k o => set_app _ _ k _
  have s1 : ∀ r o, (mem ++ r).set m o = mem.set m o ++ r := fun r o => List.set_append_left _ _ hml
  have hk2 := keyOk2
  have h2 := hM.two
  have h8 := hs.len
  refine callM_of_vc (Φ := P38) Try.func73 rfl (by rfl) (by rw [Try.ntmps73]; simp) mixed P38_ok (by simp [AV.strip, AV.strip1]) ?_
  rw [Try.ntmps73]
  simp only [Try.f73, startSt, tmFrom]
  cases hki : keyIdx ks [c, b] with
  | some i =>
    have hlk := look_ok hM hki
    have hi := (keyIdx_some hki).1
    have hgv := getD_vs vs (i := i) (by rw [hM.len]; exact hi)
    rw [hlk] at hgv
    simp (maxSteps := 4000000) only [go_sem, AV.one, drawV, intsOf, over, putO, List.map_cons, List.length_cons, ↓reduceIte, zdrop, one_i, one_b, one_sl, one_ptr, one_ref, one_nilp, one_mp, one_fn, one_nilf, List.append_assoc, List.length_append, g0, g1, g2, g3, s1, s2, s3, hki, hgv, Option.isSome_some]
    all_goals (repeat' (first | with_reducible rfl | with_reducible apply And.intro | ((with_reducible show drawOK _ _ = true); rfl))) <;> (try first | omega | (simp only [InR]; omega) | with_reducible assumption)
    · rw [List.take_append_of_le_length (Nat.le_refl _), List.take_length]
      exact ⟨ks, vs, hM, (set_self hmm).symm⟩
    · simp [AV.bare, bel_ints, cs_arr, dep_arr, cs_int, cs_bool, cs_list, cs_sk, cs_sp, AtHead, Same, AllO, Begins, LtAll, headSt, tokz_nil, tokz_cons, tokz1, lk, dep_int, dep_bool, dep_list, dep_sk, dep_sp, memAt, bel_map, bel_mapF, bel_mapO, bel_undef, bel_int, bel_boolv, bel_nilp, bel_nilf, bel_ptr, bel_arr, bel_mp, bel_yld, bel_agg, bel_tup, bel_ref, bel_only, bel_mpr, bel_fn, bel_sl_nil, bel_sl_nilF, bel_sl_nilO, bel_sl_cons, bel_sl_app, belO_cells, belO_tok, belO_dead, belO_deferred, belO_map, belO_iter, belO_loop, bel_vec, bel_vp, belO_vecM, belO_vec]
    · rw [List.take_append_of_le_length (Nat.le_refl _), List.take_length]
      exact hm
  | none =>
    simp (maxSteps := 4000000) only [go_sem, AV.one, drawV, intsOf, over, putO, List.map_cons, List.length_cons, ↓reduceIte, zdrop, one_i, one_b, one_sl, one_ptr, one_ref, one_nilp, one_mp, one_fn, one_nilf, List.append_assoc, List.length_append, g0, g1, g2, g3, s1, s2, s3, hki, Option.isSome_none]
    all_goals (repeat' (first | with_reducible rfl | with_reducible apply And.intro | ((with_reducible show drawOK _ _ = true); rfl))) <;> (try first | omega | (simp only [InR]; omega) | with_reducible assumption)
    have hput : putO ks (vs.map (AV.int .i64)) [c, b] (.int .i64 (laterS s c b)) = .map (ks ++ [[c, b]]) ((vs ++ [laterS s c b]).map (AV.int .i64)) := by unfold putO; rw [hki]; simp
    have hok1 : ∀ o ∈ mem ++ [AObj.cells [.int .i64 c, .int .i64 b]], belO (mem.length + 1) o := ok_app hm (by omega) (by simp [AV.bare, bel_ints, cs_arr, dep_arr, cs_int, cs_bool, cs_list, cs_sk, cs_sp, AtHead, Same, AllO, Begins, LtAll, headSt, tokz_nil, tokz_cons, tokz1, lk, dep_int, dep_bool, dep_list, dep_sk, dep_sp, memAt, bel_map, bel_mapF, bel_mapO, bel_undef, bel_int, bel_boolv, bel_nilp, bel_nilf, bel_ptr, bel_arr, bel_mp, bel_yld, bel_agg, bel_tup, bel_ref, bel_only, bel_mpr, bel_fn, bel_sl_nil, bel_sl_nilF, bel_sl_nilO, bel_sl_cons, bel_sl_app, belO_cells, belO_tok, belO_dead, belO_deferred, belO_map, belO_iter, belO_loop, bel_vec, bel_vp, belO_vecM, belO_vec])
    refine loopN (s.stacks.length) [] [0, 3, 4, 24, 25] (fun i => [(26, .int .i64 i), (5, .int .i64 (cnt i (laterB s c b)))]) (fun _ m => m) (fun _ => True) ?_ ?_ ?_ ?_
    · trivial
    · refine ⟨rfl, rfl, rfl, by simp [AV.bare, bel_ints, cs_arr, dep_arr, cs_int, cs_bool, cs_list, cs_sk, cs_sp, AtHead, Same, AllO, Begins, LtAll, headSt, tokz_nil, tokz_cons, tokz1, lk, dep_int, dep_bool, dep_list, dep_sk, dep_sp, memAt, bel_map, bel_mapF, bel_mapO, bel_undef, bel_int, bel_boolv, bel_nilp, bel_nilf, bel_ptr, bel_arr, bel_mp, bel_yld, bel_agg, bel_tup, bel_ref, bel_only, bel_mpr, bel_fn, bel_sl_nil, bel_sl_nilF, bel_sl_nilO, bel_sl_cons, bel_sl_app, belO_cells, belO_tok, belO_dead, belO_deferred, belO_map, belO_iter, belO_loop, bel_vec, bel_vp, belO_vecM, belO_vec], begins_refl _, ?_, allO_of ?_, trivial⟩
      · simp [AV.bare, bel_ints, cs_arr, dep_arr, cs_int, cs_bool, cs_list, cs_sk, cs_sp, AtHead, Same, AllO, Begins, LtAll, headSt, tokz_nil, tokz_cons, tokz1, lk, dep_int, dep_bool, dep_list, dep_sk, dep_sp, memAt, bel_map, bel_mapF, bel_mapO, bel_undef, bel_int, bel_boolv, bel_nilp, bel_nilf, bel_ptr, bel_arr, bel_mp, bel_yld, bel_agg, bel_tup, bel_ref, bel_only, bel_mpr, bel_fn, bel_sl_nil, bel_sl_nilF, bel_sl_nilO, bel_sl_cons, bel_sl_app, belO_cells, belO_tok, belO_dead, belO_deferred, belO_map, belO_iter, belO_loop, bel_vec, bel_vp, belO_vecM, belO_vec, cnt]; omega
      · simpa [headSt, tokz_nil] using hok1
    · intro i hi _
      have hi' := Int.ofNat_lt.2 hi
      have hsp := hs.sp hi
      have hch := ch_at s i
      have hc1 := cnt_nonneg i (laterB s c b)
      have hc2 := cnt_le i (laterB s c b)
      have hok2 := hok1
      cases c1 : decide (c ≤ (at_ s.stacks i).chairs)
      · have hb : laterB s c b i = false := by unfold laterB; rw [hch, c1]; rfl
        simp (maxSteps := 4000000) only [go_sem, AV.one, drawV, intsOf, over, putO, List.map_cons, List.length_cons, ↓reduceIte, zdrop, one_i, one_b, one_sl, one_ptr, one_ref, one_nilp, one_mp, one_fn, one_nilf, List.append_assoc, List.length_append, g0, g1, g2, g3, s1, s2, s3, getD_mapA hi, hi', c1]
        all_goals (repeat' (first | with_reducible rfl | with_reducible apply And.intro | ((with_reducible show drawOK _ _ = true); rfl))) <;> (try first | omega | (simp only [InR]; omega) | with_reducible assumption)
        refine nxt hi trivial ⟨rfl, rfl, rfl, by simp [AV.bare, bel_ints, cs_arr, dep_arr, cs_int, cs_bool, cs_list, cs_sk, cs_sp, AtHead, Same, AllO, Begins, LtAll, headSt, tokz_nil, tokz_cons, tokz1, lk, dep_int, dep_bool, dep_list, dep_sk, dep_sp, memAt, bel_map, bel_mapF, bel_mapO, bel_undef, bel_int, bel_boolv, bel_nilp, bel_nilf, bel_ptr, bel_arr, bel_mp, bel_yld, bel_agg, bel_tup, bel_ref, bel_only, bel_mpr, bel_fn, bel_sl_nil, bel_sl_nilF, bel_sl_nilO, bel_sl_cons, bel_sl_app, belO_cells, belO_tok, belO_dead, belO_deferred, belO_map, belO_iter, belO_loop, bel_vec, bel_vp, belO_vecM, belO_vec], begins_app (r := [_]) (r' := [_, _]) ⟨rfl, trivial⟩ mem, ?_, allO_of ?_, trivial⟩
        · simp [AV.bare, bel_ints, cs_arr, dep_arr, cs_int, cs_bool, cs_list, cs_sk, cs_sp, AtHead, Same, AllO, Begins, LtAll, headSt, tokz_nil, tokz_cons, tokz1, lk, dep_int, dep_bool, dep_list, dep_sk, dep_sp, memAt, bel_map, bel_mapF, bel_mapO, bel_undef, bel_int, bel_boolv, bel_nilp, bel_nilf, bel_ptr, bel_arr, bel_mp, bel_yld, bel_agg, bel_tup, bel_ref, bel_only, bel_mpr, bel_fn, bel_sl_nil, bel_sl_nilF, bel_sl_nilO, bel_sl_cons, bel_sl_app, belO_cells, belO_tok, belO_dead, belO_deferred, belO_map, belO_iter, belO_loop, bel_vec, bel_vp, belO_vecM, belO_vec, cnt, hb]; omega
        · simpa [headSt, tokz_nil] using hok1
      · cases c2 : decide (b < spS s i)
        · have hb : laterB s c b i = false := by unfold laterB; rw [c2, Bool.and_false]
          simp (maxSteps := 4000000) only [go_sem, AV.one, drawV, intsOf, over, putO, List.map_cons, List.length_cons, ↓reduceIte, zdrop, one_i, one_b, one_sl, one_ptr, one_ref, one_nilp, one_mp, one_fn, one_nilf, List.append_assoc, List.length_append, g0, g1, g2, g3, s1, s2, s3, getD_mapA hi, hi', c1, c2]
          all_goals (repeat' (first | with_reducible rfl | with_reducible apply And.intro | ((with_reducible show drawOK _ _ = true); rfl))) <;> (try first | omega | (simp only [InR]; omega) | with_reducible assumption)
          refine nxt hi trivial ⟨rfl, rfl, rfl, by simp [AV.bare, bel_ints, cs_arr, dep_arr, cs_int, cs_bool, cs_list, cs_sk, cs_sp, AtHead, Same, AllO, Begins, LtAll, headSt, tokz_nil, tokz_cons, tokz1, lk, dep_int, dep_bool, dep_list, dep_sk, dep_sp, memAt, bel_map, bel_mapF, bel_mapO, bel_undef, bel_int, bel_boolv, bel_nilp, bel_nilf, bel_ptr, bel_arr, bel_mp, bel_yld, bel_agg, bel_tup, bel_ref, bel_only, bel_mpr, bel_fn, bel_sl_nil, bel_sl_nilF, bel_sl_nilO, bel_sl_cons, bel_sl_app, belO_cells, belO_tok, belO_dead, belO_deferred, belO_map, belO_iter, belO_loop, bel_vec, bel_vp, belO_vecM, belO_vec], begins_app (r := [_]) (r' := [_, _]) ⟨rfl, trivial⟩ mem, ?_, allO_of ?_, trivial⟩
          · simp [AV.bare, bel_ints, cs_arr, dep_arr, cs_int, cs_bool, cs_list, cs_sk, cs_sp, AtHead, Same, AllO, Begins, LtAll, headSt, tokz_nil, tokz_cons, tokz1, lk, dep_int, dep_bool, dep_list, dep_sk, dep_sp, memAt, bel_map, bel_mapF, bel_mapO, bel_undef, bel_int, bel_boolv, bel_nilp, bel_nilf, bel_ptr, bel_arr, bel_mp, bel_yld, bel_agg, bel_tup, bel_ref, bel_only, bel_mpr, bel_fn, bel_sl_nil, bel_sl_nilF, bel_sl_nilO, bel_sl_cons, bel_sl_app, belO_cells, belO_tok, belO_dead, belO_deferred, belO_map, belO_iter, belO_loop, bel_vec, bel_vp, belO_vecM, belO_vec, cnt, hb]; omega
          · simpa [headSt, tokz_nil] using hok1
        · have hb : laterB s c b i = true := by unfold laterB; rw [hch, c1, c2]; rfl
          simp (maxSteps := 4000000) only [go_sem, AV.one, drawV, intsOf, over, putO, List.map_cons, List.length_cons, ↓reduceIte, zdrop, one_i, one_b, one_sl, one_ptr, one_ref, one_nilp, one_mp, one_fn, one_nilf, List.append_assoc, List.length_append, g0, g1, g2, g3, s1, s2, s3, getD_mapA hi, hi', c1, c2]
          all_goals (repeat' (first | with_reducible rfl | with_reducible apply And.intro | ((with_reducible show drawOK _ _ = true); rfl))) <;> (try first | omega | (simp only [InR]; omega) | with_reducible assumption)
          refine nxt hi trivial ⟨rfl, rfl, rfl, by simp [AV.bare, bel_ints, cs_arr, dep_arr, cs_int, cs_bool, cs_list, cs_sk, cs_sp, AtHead, Same, AllO, Begins, LtAll, headSt, tokz_nil, tokz_cons, tokz1, lk, dep_int, dep_bool, dep_list, dep_sk, dep_sp, memAt, bel_map, bel_mapF, bel_mapO, bel_undef, bel_int, bel_boolv, bel_nilp, bel_nilf, bel_ptr, bel_arr, bel_mp, bel_yld, bel_agg, bel_tup, bel_ref, bel_only, bel_mpr, bel_fn, bel_sl_nil, bel_sl_nilF, bel_sl_nilO, bel_sl_cons, bel_sl_app, belO_cells, belO_tok, belO_dead, belO_deferred, belO_map, belO_iter, belO_loop, bel_vec, bel_vp, belO_vecM, belO_vec], begins_app (r := [_]) (r' := [_, _]) ⟨rfl, trivial⟩ mem, ?_, allO_of ?_, trivial⟩
          · simp [AV.bare, bel_ints, cs_arr, dep_arr, cs_int, cs_bool, cs_list, cs_sk, cs_sp, AtHead, Same, AllO, Begins, LtAll, headSt, tokz_nil, tokz_cons, tokz1, lk, dep_int, dep_bool, dep_list, dep_sk, dep_sp, memAt, bel_map, bel_mapF, bel_mapO, bel_undef, bel_int, bel_boolv, bel_nilp, bel_nilf, bel_ptr, bel_arr, bel_mp, bel_yld, bel_agg, bel_tup, bel_ref, bel_only, bel_mpr, bel_fn, bel_sl_nil, bel_sl_nilF, bel_sl_nilO, bel_sl_cons, bel_sl_app, belO_cells, belO_tok, belO_dead, belO_deferred, belO_map, belO_iter, belO_loop, bel_vec, bel_vp, belO_vecM, belO_vec, cnt, hb]; omega
          · simpa [headSt, tokz_nil] using hok1
    · intro _
      have hl : cnt s.stacks.length (laterB s c b) = laterS s c b := rfl
      simp (maxSteps := 4000000) only [go_sem, AV.one, drawV, intsOf, over, List.map_cons, List.length_cons, ↓reduceIte, zdrop, one_i, one_b, one_sl, one_ptr, one_ref, one_nilp, one_mp, one_fn, one_nilf, List.append_assoc, List.length_append, g0, g1, g2, g3, s1, s2, s3, hput, hl, Int.lt_irrefl]
      all_goals (repeat' (first | with_reducible rfl | with_reducible apply And.intro | ((with_reducible show drawOK _ _ = true); rfl))) <;> (try first | omega | (simp only [InR]; omega) | with_reducible assumption)
      · refine ⟨_, _, memo_put hM hki, ?_⟩
        rw [List.take_append_of_le_length (by simp), List.take_of_length_le (by simp)]
      · simp [AV.bare, bel_ints, cs_arr, dep_arr, cs_int, cs_bool, cs_list, cs_sk, cs_sp, AtHead, Same, AllO, Begins, LtAll, headSt, tokz_nil, tokz_cons, tokz1, lk, dep_int, dep_bool, dep_list, dep_sk, dep_sp, memAt, bel_map, bel_mapF, bel_mapO, bel_undef, bel_int, bel_boolv, bel_nilp, bel_nilf, bel_ptr, bel_arr, bel_mp, bel_yld, bel_agg, bel_tup, bel_ref, bel_only, bel_mpr, bel_fn, bel_sl_nil, bel_sl_nilF, bel_sl_nilO, bel_sl_cons, bel_sl_app, belO_cells, belO_tok, belO_dead, belO_deferred, belO_map, belO_iter, belO_loop, bel_vec, bel_vp, belO_vecM, belO_vec]
      · rw [List.take_append_of_le_length (by simp), List.take_of_length_le (by simp)]
        have := ok_set (v := m) hm (.map (ks ++ [[c, b]]) ((vs ++ [laterS s c b]).map (AV.int .i64))) (by rw [belO_mapI]; trivial)
        rw [List.length_set] at this
        exact this
theorem part_bd {s : Sh} (hs : ShOk s) {b : Int} (hb : 0 ≤ b ∧ b ≤ 18) (c : Int) : (0 ≤ s.hands * b ∧ s.hands * b ≤ 3 * 18) ∧ partS s c b = s.hands * b + laterS s c b :=
  ⟨⟨Int.mul_nonneg hs.h0 hb.1, Int.mul_le_mul hs.h3 hb.2 hb.1 (by omega)⟩, rfl⟩
theorem part_call (s : Sh) (hs : ShOk s) (ks : List (List Int)) (vs : List Int) (hM : Memo s ks vs) (c b : Int) (hcb : (1 ≤ c ∧ c ≤ 99) ∧ 0 ≤ b ∧ b ≤ 18)
    (ha : memAt mem a = .cells [.sl (s.stacks.map EncE.cs) .no, .int .i64 s.hands, .int .i64 s.rain.lo, .int .i64 s.rain.hi, .mp m]) (hmm : memAt mem m = .map ks (vs.map (AV.int .i64))) (hm : ∀ o ∈ mem, belO mem.length o) :
    CallM Try.prog 56 [.ptr a 0, .agg [.int .i64 c, .int .i64 b]] mem
      (fun r m' => r = .int .i64 (partS s c b) ∧ ∃ ks' vs', Memo s ks' vs' ∧ m' = mem.set m (.map ks' (vs'.map (AV.int .i64)))) := by
  have hal := memAt_some ha (by simp)
  have hml := memAt_some hmm (by simp)
  have hne : a ≠ m := fun e => by rw [e, hmm] at ha; cases ha
  have g0 : ∀ r, memAt (mem ++ r) a = .cells [.sl (s.stacks.map EncE.cs) .no, .int .i64 s.hands, .int .i64 s.rain.lo, .int .i64 s.rain.hi, .mp m] := fun r => by rw [memAt_left hal, ha]
  have g1 : ∀ r, memAt (mem ++ r) m = .map ks (vs.map (AV.int .i64)) := fun r => by rw [memAt_left hml, hmm]
  have g2 : ∀ r, memAt (mem ++ r) mem.length = memAt r 0 := fun r => memAt_app _ _ 0
  have g4 : ∀ o r, memAt ((mem.set m o) ++ r) a = .cells [.sl (s.stacks.map EncE.cs) .no, .int .i64 s.hands, .int .i64 s.rain.lo, .int .i64 s.rain.hi, .mp m] := fun o r => by
    rw [memAt_left (by simpa using hal), ← ha]; simp [memAt, List.getD, List.getElem?_set, hne.symm]
  have g5 : ∀ o r, memAt ((mem.set m o) ++ r) mem.length = memAt r 0 := fun o r => by
    have := memAt_app (mem.set m o) r 0
    simpa using this
  have s2 : ∀ r o, (mem ++ r).set mem.length o = mem ++ r.set 0 o := fun r o => set_app _ _ 0 _
  have s1 : ∀ r o, (mem ++ r).set m o = mem.set m o ++ r := fun r o => List.set_append_left _ _ hml
  have hok1 : ∀ o ∈ mem ++ [AObj.cells [.int .i64 c, .int .i64 b]], belO (mem ++ [AObj.cells [.int .i64 c, .int .i64 b]]).length o := by
    have := ok_app (r := [AObj.cells [.int .i64 c, .int .i64 b]]) hm (show mem.length ≤ mem.length + 1 by omega) (by simp [AV.bare, bel_ints, cs_arr, dep_arr, cs_int, cs_bool, cs_list, cs_sk, cs_sp, AtHead, Same, AllO, Begins, LtAll, headSt, tokz_nil, tokz_cons, tokz1, lk, dep_int, dep_bool, dep_list, dep_sk, dep_sp, memAt, bel_map, bel_mapF, bel_mapO, bel_undef, bel_int, bel_boolv, bel_nilp, bel_nilf, bel_ptr, bel_arr, bel_mp, bel_yld, bel_agg, bel_tup, bel_ref, bel_only, bel_mpr, bel_fn, bel_sl_nil, bel_sl_nilF, bel_sl_nilO, bel_sl_cons, bel_sl_app, belO_cells, belO_tok, belO_dead, belO_deferred, belO_map, belO_iter, belO_loop, bel_vec, bel_vp, belO_vecM, belO_vec])
    simpa using this
  have hc := later_call (mem := mem ++ [AObj.cells [.int .i64 c, .int .i64 b]]) s hs ks vs hM c b hcb (g0 _) (g1 _) hok1
  obtain ⟨⟨p0, p1⟩, hp⟩ := part_bd hs hcb.2 c
  have hlb := later_bd s c b
  have h8 := hs.len
  rw [hp]
  refine callM_of_vc (Φ := P38) Try.func56 rfl (by rfl) (by rw [Try.ntmps56]; simp) mixed P38_ok (by simp [AV.strip, AV.strip1]) ?_
  rw [Try.ntmps56]
  simp only [Try.f56, startSt, tmFrom]
  simp (maxSteps := 4000000) only [go_sem, AV.one, drawV, intsOf, keyIdx, over, putO, List.map_cons, List.length_cons, ↓reduceIte, zdrop, one_i, one_b, one_sl, one_ptr, one_ref, one_nilp, one_mp, one_fn, one_nilf, List.append_assoc, List.length_append, g0, g1, g2, s1, s2]
  all_goals (repeat' (first | with_reducible rfl | with_reducible apply And.intro | ((with_reducible show drawOK _ _ = true); rfl))) <;> (try first | omega | (simp only [InR]; omega) | with_reducible assumption)
  refine ⟨[0, 1, 2, 3, 4, 5, 6, 7], by rfl, ?_⟩
  all_goals (repeat' (first | with_reducible rfl | with_reducible apply And.intro | ((with_reducible show drawOK _ _ = true); rfl))) <;> (try first | omega | (simp only [InR]; omega) | with_reducible assumption)
  refine ⟨_, callX_of_callM hc, ?_⟩
  rintro r mem' ⟨r0, rfl, ⟨rfl, ks', vs', hM', rfl⟩, hlen⟩ _
  simp (maxSteps := 4000000) only [go_sem, AV.one, drawV, intsOf, keyIdx, over, putO, List.map_cons, List.length_cons, ↓reduceIte, zdrop, one_i, one_b, one_sl, one_ptr, one_ref, one_nilp, one_mp, one_fn, one_nilf, again, List.append_assoc, List.length_append, List.length_set, g0, g1, g2, g4, g5, s1, s2]
  all_goals (repeat' (first | with_reducible rfl | with_reducible apply And.intro | ((with_reducible show drawOK _ _ = true); rfl))) <;> (try first | omega | (simp only [InR]; omega) | with_reducible assumption)
  all_goals first
    | (intro d hd; cases hd; rfl)
    | (refine ⟨_, _, hM', ?_⟩
       rw [List.take_append_of_le_length (by simp), List.take_of_length_le (by simp)])
    | simp [AV.bare, bel_ints, cs_arr, dep_arr, cs_int, cs_bool, cs_list, cs_sk, cs_sp, AtHead, Same, AllO, Begins, LtAll, headSt, tokz_nil, tokz_cons, tokz1, lk, dep_int, dep_bool, dep_list, dep_sk, dep_sp, memAt, bel_map, bel_mapF, bel_mapO, bel_undef, bel_int, bel_boolv, bel_nilp, bel_nilf, bel_ptr, bel_arr, bel_mp, bel_yld, bel_agg, bel_tup, bel_ref, bel_only, bel_mpr, bel_fn, bel_sl_nil, bel_sl_nilF, bel_sl_nilO, bel_sl_cons, bel_sl_app, belO_cells, belO_tok, belO_dead, belO_deferred, belO_map, belO_iter, belO_loop, bel_vec, bel_vp, belO_vecM, belO_vec]; done
    | (rw [List.take_append_of_le_length (by simp), List.take_of_length_le (by simp)]
       have := ok_set (v := m) hm (.map ks' (vs'.map (AV.int .i64))) (by rw [belO_mapI]; trivial)
       rw [List.length_set] at this
       exact this)
end
end Go.Proofs
namespace Go.Proofs
open Go.Fs
set_option linter.unusedSimpArgs false
set_option linter.unusedVariables false
set_option maxHeartbeats 4000000
set_option maxRecDepth 8000
theorem stepL_hit (x : Sp) (r : List Sp) (c : Int) (h : c ≤ x.chairs) : stepL (x :: r) c = x := by
  cases r with
  | nil => rfl
  | cons y r => unfold stepL; rw [if_pos h]
theorem stepL_miss (x : Sp) (r : List Sp) (c : Int) (h : ¬ c ≤ x.chairs) (hr : r ≠ []) : stepL (x :: r) c = stepL r c := by
  cases r with
  | nil => exact absurd rfl hr
  | cons y r => conv => lhs; unfold stepL
                rw [if_neg h]
theorem stepL_last (x : Sp) (c : Int) : stepL [x] c = x := rfl
theorem pstep_call (l : List Sp) (c : Int) (h : l ≠ [] ∧ l.length ≤ 4096) : CallP Try.prog 66 [Enc.enc l, Enc.enc c] (· = Enc.enc (stepL l c)) := by
  obtain ⟨h0, h1⟩ := h
  have hl : 0 < l.length := List.length_pos_iff.2 h0
  obtain ⟨X, hX⟩ : ∃ X, stepL l c = X := ⟨_, rfl⟩
  rw [hX]
  simp only [enc_fnl, enc_fnb, enc_fnc, enc_refc, enc_arr, enc_int, enc_bool, enc_list, enc_sk, enc_sp, enc_rg, enc_sh, enc_tr, enc_refs, enc_fns, enc_wks]
  refine callP_of_vc (Φ := P38) Try.func66 rfl (by rfl) (by rw [Try.ntmps66]; simp) mixed P38_ok (by simp [AV.strip, AV.strip1, Tk.strip]) ?_
  rw [Try.ntmps66]
  simp only [Try.f66, startSt, tmFrom]
  simp (maxSteps := 4000000) only [go_sem, AV.one, drawV, intsOf, keyIdx, over, putO, memAt, List.map_cons, List.length_cons, ↓reduceIte, zdrop, one_i, one_b, one_sl, one_ptr, one_ref, one_nilp, one_mp, one_fn, one_nilf]
  refine loopN (l.length) [] [0, 1, 4, 7, 8] (fun i => [(9, .int .i64 i)]) (fun _ m => m) (fun i => (i < l.length → stepL (l.drop i) c = X) ∧ (i = l.length → at_ l (l.length - 1) = X)) ?_ ?_ ?_ ?_
  · exact ⟨fun _ => hX, fun e => by omega⟩
  · simp [AV.bare, bel_ints, cs_arr, dep_arr, cs_int, cs_bool, cs_list, cs_sk, cs_sp, AtHead, Same, AllO, Begins, LtAll, headSt, tokz_nil, tokz_cons, tokz1, lk, dep_int, dep_bool, dep_list, dep_sk, dep_sp, memAt, bel_map, bel_mapF, bel_mapO, bel_undef, bel_int, bel_boolv, bel_nilp, bel_nilf, bel_ptr, bel_arr, bel_mp, bel_yld, bel_agg, bel_tup, bel_ref, bel_only, bel_mpr, bel_fn, bel_sl_nil, bel_sl_nilF, bel_sl_nilO, bel_sl_cons, bel_sl_app, belO_cells, belO_tok, belO_dead, belO_deferred, belO_map, belO_iter, belO_loop, bel_vec, bel_vp, belO_vecM, belO_vec, -List.map_map]
  · intro i hi hI
    have hi' := Int.ofNat_lt.2 hi
    have hI1 := hI.1 hi
    rw [drop_at hi] at hI1
    cases c1 : decide (c ≤ (at_ l i).chairs)
    · have c1' : ¬ c ≤ (at_ l i).chairs := by simpa using c1
      have c1g : decide ((at_ l i).chairs ≥ c) = false := c1
      simp (maxSteps := 4000000) only [go_sem, AV.one, drawV, intsOf, keyIdx, over, putO, memAt, List.map_cons, List.length_cons, ↓reduceIte, zdrop, one_i, one_b, one_sl, one_ptr, one_ref, one_nilp, one_mp, one_fn, one_nilf, getD_mapA hi, hi', c1]
      all_goals (repeat' (first | with_reducible rfl | with_reducible apply And.intro | ((with_reducible show drawOK _ _ = true); rfl))) <;> (try first | omega | (simp only [InR]; omega) | with_reducible assumption)
      refine nxt hi ⟨fun h2 => ?_, fun h2 => ?_⟩ ?_
      · rw [stepL_miss _ _ _ c1' (fun e => by have := congrArg List.length e; simp at this; omega)] at hI1
        exact hI1
      · have e : l.drop (i + 1) = [] := List.drop_eq_nil_of_le (by omega)
        rw [e, stepL_last] at hI1
        rw [show l.length - 1 = i by omega]; exact hI1
      · simp [AV.bare, bel_ints, cs_arr, dep_arr, cs_int, cs_bool, cs_list, cs_sk, cs_sp, AtHead, Same, AllO, Begins, LtAll, headSt, tokz_nil, tokz_cons, tokz1, lk, dep_int, dep_bool, dep_list, dep_sk, dep_sp, memAt, bel_map, bel_mapF, bel_mapO, bel_undef, bel_int, bel_boolv, bel_nilp, bel_nilf, bel_ptr, bel_arr, bel_mp, bel_yld, bel_agg, bel_tup, bel_ref, bel_only, bel_mpr, bel_fn, bel_sl_nil, bel_sl_nilF, bel_sl_nilO, bel_sl_cons, bel_sl_app, belO_cells, belO_tok, belO_dead, belO_deferred, belO_map, belO_iter, belO_loop, bel_vec, bel_vp, belO_vecM, belO_vec, -List.map_map]
    · have c1' : c ≤ (at_ l i).chairs := by simpa using c1
      rw [stepL_hit _ _ _ c1'] at hI1
      rw [hI1] at c1
      simp (maxSteps := 4000000) only [go_sem, AV.one, drawV, intsOf, keyIdx, over, putO, memAt, List.map_cons, List.length_cons, ↓reduceIte, zdrop, one_i, one_b, one_sl, one_ptr, one_ref, one_nilp, one_mp, one_fn, one_nilf, getD_mapA hi, hi', c1, hI1]
      all_goals (repeat' (first | with_reducible rfl | with_reducible apply And.intro | ((with_reducible show drawOK _ _ = true); rfl))) <;> (try first | omega | (simp only [InR]; omega) | with_reducible assumption)
  · intro hI
    have hn : ((l.length : Int) - 1).toNat = l.length - 1 := by omega
    have hl1 : l.length - 1 < l.length := by omega
    have hX2 := hI.2 rfl
    simp (maxSteps := 4000000) only [go_sem, AV.one, drawV, intsOf, keyIdx, over, putO, memAt, List.map_cons, List.length_cons, ↓reduceIte, zdrop, one_i, one_b, one_sl, one_ptr, one_ref, one_nilp, one_mp, one_fn, one_nilf, Int.lt_irrefl, hn, getD_mapA hl1, hX2]
    all_goals (repeat' (first | with_reducible rfl | with_reducible apply And.intro | ((with_reducible show drawOK _ _ = true); rfl))) <;> (try first | omega | (simp only [InR]; omega) | with_reducible assumption)
def P39 : Specs := addSpec 66 (spec2 (fun (l : List Sp) (_ : Int) => l ≠ [] ∧ l.length ≤ 4096) stepL) (P38)
theorem P39_app (g : FuncId) : P39 g = (addSpec 66 (spec2 (fun (l : List Sp) (_ : Int) => l ≠ [] ∧ l.length ≤ 4096) stepL) (P38)) g := rfl
theorem P39_ok : SpecsOk Try.prog P39 := addSpec_ok (spec2_ok pstep_call) (P38_ok)
attribute [go_sem] P39_app
theorem P39_flag (d : Option Nat) : flagOf P39 d = none := (flagOf_add (by decide) d).trans (P38_flag d)
attribute [go_sem] P39_flag
theorem callX_strip {P : Program} {g : FuncId} {args : List AV} {mem : List AObj} {R : AV → List AObj → Prop} (h : CallX P g (args.map AV.strip) mem R) : CallX P g args mem R :=
  ⟨h.1, fun X κ ρ τ w vs h1 h2 h3 h4 h5 => h.2 X κ ρ τ w vs h1 h2 (by simpa using h3) (fun i hi => by
    rw [strip_getD]
    exact (h4 i (by simpa using hi)).strip) (fun i hi => by rw [strip_getD]; exact TokOK.strip _)⟩
theorem great_take {l : List Sk} {i : Nat} (hi : i < l.length) : greatS (l.take (i + 1)) = max (greatS (l.take i)) (at_ l i).chairs := by rw [take_succ_at hi, great_snoc]
structure SpsOk (p : List Sp) : Prop where
  ne : p ≠ []
  len : p.length ≤ 4096
  ok : ∀ x ∈ p, spOk x = true
theorem SpsOk.step {p : List Sp} (h : SpsOk p) (c : Int) : 0 ≤ (stepL p c).before ∧ (stepL p c).before ≤ 18 := by
  have := h.ok _ (stepL_mem p c h.ne)
  unfold spOk at this
  simp only [Bool.and_eq_true, decide_eq_true_eq] at this
  exact this.2
theorem sumTo_bd {m : Nat} {f : Nat → Int} {k : Int} (h : ∀ i, i < m → 0 ≤ f i ∧ f i ≤ k) : 0 ≤ sumTo m f ∧ sumTo m f ≤ m * k := by
  induction m with
  | zero => simp [sumTo]
  | succ m ih =>
    have h1 := ih (fun i hi => h i (by omega))
    have h2 := h m (by omega)
    unfold sumTo
    have e : ((m + 1 : Nat) : Int) * k = m * k + k := by rw [Int.natCast_add, Int.add_mul]; simp
    omega
section
variable {mem : List AObj} {a m : Nat}
theorem bound_call (s : Sh) (hs : ShOk s) (ks : List (List Int)) (vs : List Int) (hM : Memo s ks vs) (p : List Sp) (hp : SpsOk p)
    (ha : memAt mem a = .cells [.sl (s.stacks.map EncE.cs) .no, .int .i64 s.hands, .int .i64 s.rain.lo, .int .i64 s.rain.hi, .mp m]) (hmm : memAt mem m = .map ks (vs.map (AV.int .i64))) (hm : ∀ o ∈ mem, belO mem.length o) :
    CallM Try.prog 45 [.ptr a 0, .sl (p.map EncE.cs) .no] mem
      (fun r m' => r = .int .i64 (boundL s p) ∧ ∃ ks' vs', Memo s ks' vs' ∧ m' = mem.set m (.map ks' (vs'.map (AV.int .i64)))) := by
  have hal := memAt_some ha (by simp)
  have hml := memAt_some hmm (by simp)
  have hne : a ≠ m := fun e => by rw [e, hmm] at ha; cases ha
  have h8 := hs.len
  have hpl := hp.len
  have hp0 := hp.ne
  have g0 : ∀ r, memAt (mem ++ r) a = .cells [.sl (s.stacks.map EncE.cs) .no, .int .i64 s.hands, .int .i64 s.rain.lo, .int .i64 s.rain.hi, .mp m] := fun r => by rw [memAt_left hal, ha]
  have g2 : ∀ r, memAt (mem ++ r) mem.length = memAt r 0 := fun r => memAt_app _ _ 0
  have s2 : ∀ r o, (mem ++ r).set mem.length o = mem ++ r.set 0 o := fun r o => set_app _ _ 0 _
  obtain ⟨hg0, hg1, hg2⟩ := great_spec s.stacks (fun x hx => (hs.st x hx).1)
  refine callM_of_vc (Φ := P39) Try.func45 rfl (by rfl) (by rw [Try.ntmps45]; simp) mixed P39_ok (by simp [AV.strip, Tk.strip]) ?_
  rw [Try.ntmps45]
  simp only [Try.f45, startSt, tmFrom]
  simp (maxSteps := 4000000) only [go_sem, AV.one, drawV, intsOf, keyIdx, over, putO, List.map_cons, List.length_cons, ↓reduceIte, zdrop, one_i, one_b, one_sl, one_ptr, one_ref, one_nilp, one_mp, one_fn, one_nilf, ha]
  all_goals (repeat' (first | with_reducible rfl | with_reducible apply And.intro | ((with_reducible show drawOK _ _ = true); rfl))) <;> (try first | omega | (simp only [InR]; omega) | with_reducible assumption)
  refine loopN (s.stacks.length) [] [0, 1, 4, 13, 14] (fun i => [(15, .int .i64 i), (5, .int .i64 (greatS (s.stacks.take i)))]) (fun _ m => m) (fun _ => True) ?_ ?_ ?_ ?_
  · trivial
  · refine ⟨rfl, rfl, rfl, Nat.le_refl _, begins_refl _, ?_, allO_of hm, trivial⟩
    show Same _ mem.length _
    simp [AV.bare, bel_ints, cs_arr, dep_arr, cs_int, cs_bool, cs_list, cs_sk, cs_sp, AtHead, Same, AllO, Begins, LtAll, headSt, tokz_nil, tokz_cons, tokz1, lk, dep_int, dep_bool, dep_list, dep_sk, dep_sp, memAt, bel_map, bel_mapF, bel_mapO, bel_undef, bel_int, bel_boolv, bel_nilp, bel_nilf, bel_ptr, bel_arr, bel_mp, bel_yld, bel_agg, bel_tup, bel_ref, bel_only, bel_mpr, bel_fn, bel_sl_nil, bel_sl_nilF, bel_sl_nilO, bel_sl_cons, bel_sl_app, belO_cells, belO_tok, belO_dead, belO_deferred, belO_map, belO_iter, belO_loop, bel_vec, bel_vp, belO_vecM, belO_vec, greatS, hal, -List.map_map]
  · intro i hi _
    have hi' := Int.ofNat_lt.2 hi
    have hgt := great_take hi
    simp (maxSteps := 4000000) only [go_sem, AV.one, drawV, intsOf, keyIdx, over, putO, List.map_cons, List.length_cons, ↓reduceIte, zdrop, one_i, one_b, one_sl, one_ptr, one_ref, one_nilp, one_mp, one_fn, one_nilf, g0, g2, s2, getD_mapA hi, hi']
    all_goals (repeat' (first | with_reducible rfl | with_reducible apply And.intro | ((with_reducible show drawOK _ _ = true); rfl))) <;> (try first | omega | (simp only [InR]; omega) | with_reducible assumption)
    refine nxt hi trivial ⟨rfl, rfl, rfl, Nat.le_refl _, ?_, ?_, allO_of hm, trivial⟩
    · have := begins_app (r := []) (r' := [AObj.cells [.int .i64 (at_ s.stacks i).chairs, .int .i64 (at_ s.stacks i).leak.lo, .int .i64 (at_ s.stacks i).leak.hi]]) trivial mem
      rw [List.append_nil] at this
      exact this
    · show Same _ mem.length _
      simp [AV.bare, bel_ints, cs_arr, dep_arr, cs_int, cs_bool, cs_list, cs_sk, cs_sp, AtHead, Same, AllO, Begins, LtAll, headSt, tokz_nil, tokz_cons, tokz1, lk, dep_int, dep_bool, dep_list, dep_sk, dep_sp, memAt, bel_map, bel_mapF, bel_mapO, bel_undef, bel_int, bel_boolv, bel_nilp, bel_nilf, bel_ptr, bel_arr, bel_mp, bel_yld, bel_agg, bel_tup, bel_ref, bel_only, bel_mpr, bel_fn, bel_sl_nil, bel_sl_nilF, bel_sl_nilO, bel_sl_cons, bel_sl_app, belO_cells, belO_tok, belO_dead, belO_deferred, belO_map, belO_iter, belO_loop, bel_vec, bel_vp, belO_vecM, belO_vec, hgt, hal, -List.map_map]
  · intro _
    rw [List.take_length]
    simp (maxSteps := 4000000) only [go_sem, AV.one, drawV, intsOf, keyIdx, over, putO, List.map_cons, List.length_cons, ↓reduceIte, zdrop, one_i, one_b, one_sl, one_ptr, one_ref, one_nilp, one_mp, one_fn, one_nilf, Int.lt_irrefl]
    all_goals (repeat' (first | with_reducible rfl | with_reducible apply And.intro | ((with_reducible show drawOK _ _ = true); rfl))) <;> (try first | omega | (simp only [InR]; omega) | with_reducible assumption)
    obtain ⟨N, hN⟩ : ∃ N : Nat, greatS s.stacks = N := ⟨(greatS s.stacks).toNat, by omega⟩
    have hms := fun o => memAt_set_same (mem := mem) hml o
    have hss := fun o o' => set_set_same (mem := mem) (v := m) o o'
    have hma : ∀ o, memAt (mem.set m o) a = .cells [.sl (s.stacks.map EncE.cs) .no, .int .i64 s.hands, .int .i64 s.rain.lo, .int .i64 s.rain.hi, .mp m] := fun o => by rw [← ha]; simp [memAt, List.getD, List.getElem?_set, hne.symm]
    have hok : ∀ (ks : List (List Int)) (vs : List Int), ∀ o ∈ mem.set m (.map ks (vs.map (AV.int .i64))), belO (mem.set m (.map ks (vs.map (AV.int .i64)))).length o := fun ks vs => ok_set hm _ (by rw [belO_mapI]; trivial)
    have hbd : boundL s p = sumTo N (fun c => partS s ((c : Int) + 1) (stepL p ((c : Int) + 1)).before) := by unfold boundL; rw [hN, Int.toNat_natCast]
    rw [hbd]
    obtain ⟨f, hf⟩ : ∃ f : Nat → Int, f = fun c : Nat => partS s ((c : Int) + 1) (stepL p ((c : Int) + 1)).before := ⟨_, rfl⟩
    rw [← hf]
    have hfb : ∀ i, i < N → 0 ≤ f i ∧ f i ≤ 62 := fun i hi => by
      rw [hf]
      obtain ⟨⟨p0, p1⟩, hpe⟩ := part_bd hs (hp.step ((i : Int) + 1)) ((i : Int) + 1)
      have := later_bd s ((i : Int) + 1) (stepL p ((i : Int) + 1)).before
      dsimp only
      rw [hpe]
      omega
    rw [hN]
    refine loopB [] [0, 1, 24] (fun b : Nat × List (List Int) × List Int => [(25, .int .i64 b.1), (4, .int .i64 (sumTo b.1 f))]) (fun b _ => mem.set m (.map b.2.1 (b.2.2.map (AV.int .i64)))) (fun b => b.1 ≤ N ∧ Memo s b.2.1 b.2.2) (fun b => N - b.1) (((0, ks, vs) : Nat × List (List Int) × List Int)) ?_ ?_ ?_
    · exact ⟨Nat.zero_le _, hM⟩
    · refine ⟨rfl, rfl, rfl, ?_, ?_, ?_, allO_of ?_, trivial⟩
      · simp [AV.bare, bel_ints, cs_arr, dep_arr, cs_int, cs_bool, cs_list, cs_sk, cs_sp, AtHead, Same, AllO, Begins, LtAll, headSt, tokz_nil, tokz_cons, tokz1, lk, dep_int, dep_bool, dep_list, dep_sk, dep_sp, memAt, bel_map, bel_mapF, bel_mapO, bel_undef, bel_int, bel_boolv, bel_nilp, bel_nilf, bel_ptr, bel_arr, bel_mp, bel_yld, bel_agg, bel_tup, bel_ref, bel_only, bel_mpr, bel_fn, bel_sl_nil, bel_sl_nilF, bel_sl_nilO, bel_sl_cons, bel_sl_app, belO_cells, belO_tok, belO_dead, belO_deferred, belO_map, belO_iter, belO_loop, bel_vec, bel_vp, belO_vecM, belO_vec]
      · simp only [headSt, tokz_nil]; rw [set_self hmm]; exact begins_refl _
      · simp [AV.bare, bel_ints, cs_arr, dep_arr, cs_int, cs_bool, cs_list, cs_sk, cs_sp, AtHead, Same, AllO, Begins, LtAll, headSt, tokz_nil, tokz_cons, tokz1, lk, dep_int, dep_bool, dep_list, dep_sk, dep_sp, memAt, bel_map, bel_mapF, bel_mapO, bel_undef, bel_int, bel_boolv, bel_nilp, bel_nilf, bel_ptr, bel_arr, bel_mp, bel_yld, bel_agg, bel_tup, bel_ref, bel_only, bel_mpr, bel_fn, bel_sl_nil, bel_sl_nilF, bel_sl_nilO, bel_sl_cons, bel_sl_app, belO_cells, belO_tok, belO_dead, belO_deferred, belO_map, belO_iter, belO_loop, bel_vec, bel_vp, belO_vecM, belO_vec, sumTo, hal, -List.map_map]
      · exact hok ks vs
    · rintro ⟨i, ks1, vs1⟩ ⟨hi0, hM1⟩
      simp only at hi0 hM1
      by_cases hi : i < N
      · have hi' := Int.ofNat_lt.2 hi
        have hsb := hp.step ((i : Int) + 1)
        have hfi := hfb i hi
        have hsum := sumTo_bd (m := i) (f := f) (k := 62) (fun j hj => hfb j (by omega))
        have hfe : f i = partS s ((i : Int) + 1) (stepL p ((i : Int) + 1)).before := by rw [hf]
        have hc := part_call (mem := mem.set m (.map ks1 (vs1.map (AV.int .i64)))) s hs ks1 vs1 hM1 ((i : Int) + 1) (stepL p ((i : Int) + 1)).before ⟨by omega, hsb⟩ (hma _) (hms _) (hok ks1 vs1)
        rw [← hfe] at hc
        simp (maxSteps := 4000000) only [go_sem, AV.one, drawV, intsOf, keyIdx, over, putO, List.map_cons, List.length_cons, ↓reduceIte, zdrop, one_i, one_b, one_sl, one_ptr, one_ref, one_nilp, one_mp, one_fn, one_nilf, hi']
        all_goals (repeat' (first | with_reducible rfl | with_reducible apply And.intro | ((with_reducible show drawOK _ _ = true); rfl))) <;> (try first | omega | (simp only [InR]; omega) | with_reducible assumption)
        refine ⟨_, callX_of_callM hc, ?_⟩
        rintro r mem' ⟨r0, rfl, ⟨rfl, ks', vs', hM', rfl⟩, hlen⟩ _
        simp (maxSteps := 4000000) only [go_sem, AV.one, drawV, intsOf, keyIdx, over, putO, List.map_cons, List.length_cons, ↓reduceIte, zdrop, one_i, one_b, one_sl, one_ptr, one_ref, one_nilp, one_mp, one_fn, one_nilf, hss]
        all_goals (repeat' (first | with_reducible rfl | with_reducible apply And.intro | ((with_reducible show drawOK _ _ = true); rfl))) <;> (try first | omega | (simp only [InR]; omega) | with_reducible assumption)
        refine ⟨(i + 1, ks', vs'), ⟨by dsimp only; omega, hM'⟩, by dsimp only; omega, atHead_weak ⟨rfl, rfl, rfl, ?_, begins_refl _, ?_, allO_of (hok ks' vs'), trivial⟩⟩
        · simp [AV.bare, bel_ints, cs_arr, dep_arr, cs_int, cs_bool, cs_list, cs_sk, cs_sp, AtHead, Same, AllO, Begins, LtAll, headSt, tokz_nil, tokz_cons, tokz1, lk, dep_int, dep_bool, dep_list, dep_sk, dep_sp, memAt, bel_map, bel_mapF, bel_mapO, bel_undef, bel_int, bel_boolv, bel_nilp, bel_nilf, bel_ptr, bel_arr, bel_mp, bel_yld, bel_agg, bel_tup, bel_ref, bel_only, bel_mpr, bel_fn, bel_sl_nil, bel_sl_nilF, bel_sl_nilO, bel_sl_cons, bel_sl_app, belO_cells, belO_tok, belO_dead, belO_deferred, belO_map, belO_iter, belO_loop, bel_vec, bel_vp, belO_vecM, belO_vec]
        · simp [AV.bare, bel_ints, cs_arr, dep_arr, cs_int, cs_bool, cs_list, cs_sk, cs_sp, AtHead, Same, AllO, Begins, LtAll, headSt, tokz_nil, tokz_cons, tokz1, lk, dep_int, dep_bool, dep_list, dep_sk, dep_sp, memAt, bel_map, bel_mapF, bel_mapO, bel_undef, bel_int, bel_boolv, bel_nilp, bel_nilf, bel_ptr, bel_arr, bel_mp, bel_yld, bel_agg, bel_tup, bel_ref, bel_only, bel_mpr, bel_fn, bel_sl_nil, bel_sl_nilF, bel_sl_nilO, bel_sl_cons, bel_sl_app, belO_cells, belO_tok, belO_dead, belO_deferred, belO_map, belO_iter, belO_loop, bel_vec, bel_vp, belO_vecM, belO_vec, sumTo, hal, -List.map_map]
      · have hie : i = N := by omega
        subst hie
        simp (maxSteps := 4000000) only [go_sem, AV.one, drawV, intsOf, keyIdx, over, putO, List.map_cons, List.length_cons, ↓reduceIte, zdrop, one_i, one_b, one_sl, one_ptr, one_ref, one_nilp, one_mp, one_fn, one_nilf, Int.lt_irrefl]
        all_goals (repeat' (first | with_reducible rfl | with_reducible apply And.intro | ((with_reducible show drawOK _ _ = true); rfl))) <;> (try first | omega | (simp only [InR]; omega) | with_reducible assumption)
        · exact ⟨ks1, vs1, hM1, by rw [List.take_of_length_le (by simp)]⟩
        · simp [AV.bare, bel_ints, cs_arr, dep_arr, cs_int, cs_bool, cs_list, cs_sk, cs_sp, AtHead, Same, AllO, Begins, LtAll, headSt, tokz_nil, tokz_cons, tokz1, lk, dep_int, dep_bool, dep_list, dep_sk, dep_sp, memAt, bel_map, bel_mapF, bel_mapO, bel_undef, bel_int, bel_boolv, bel_nilp, bel_nilf, bel_ptr, bel_arr, bel_mp, bel_yld, bel_agg, bel_tup, bel_ref, bel_only, bel_mpr, bel_fn, bel_sl_nil, bel_sl_nilF, bel_sl_nilO, bel_sl_cons, bel_sl_app, belO_cells, belO_tok, belO_dead, belO_deferred, belO_map, belO_iter, belO_loop, bel_vec, bel_vp, belO_vecM, belO_vec]
        · have := hok ks1 vs1
          rw [List.length_set] at this
          rw [List.take_of_length_le (by simp)]
          exact this
end
end Go.Proofs
namespace Go.Proofs
open Go.Fs
set_option linter.unusedSimpArgs false
set_option linter.unusedVariables false
set_option maxHeartbeats 4000000
set_option maxRecDepth 8000
def P40 : Specs := dropSpec 33 P39
theorem P40_app (g : FuncId) : P40 g = if g = 33 then none else P39 g := rfl
theorem P40_ok : SpecsOk Try.prog P40 := dropSpec_ok P39_ok
theorem P40_flag (d : Option Nat) : flagOf P40 d = none := (flagOf_drop (by decide) d).trans (P39_flag d)
attribute [go_sem] P40_app P40_flag
theorem workX_call (s : Sh) (mem : List AObj) (hm : ∀ o ∈ mem, belO mem.length o) : CallX Try.prog 33 [.agg [.sl (s.stacks.map EncE.cs) .no, .int .i64 s.hands, .int .i64 s.rain.lo, .int .i64 s.rain.hi]] mem
    (fun r m => r = .ptr (mem.length + 2) 0 ∧ m = mem ++ [.cells [.sl (s.stacks.map EncE.cs) .no, .int .i64 s.hands, .int .i64 s.rain.lo, .int .i64 s.rain.hi], .map [] [], .cells [.sl (s.stacks.map EncE.cs) .no, .int .i64 s.hands, .int .i64 s.rain.lo, .int .i64 s.rain.hi, .mp (mem.length + 1)]]) := by
  have g2 : ∀ r, memAt (mem ++ r) mem.length = memAt r 0 := fun r => memAt_app _ _ 0
  refine callX_of_vc (Φ := P40) Try.func33 rfl (by rfl) (by rw [Try.ntmps33]; simp) mixed P40_ok ?_
  rw [Try.ntmps33]
  simp only [Try.f33, startSt, tmFrom]
  simp (maxSteps := 4000000) only [go_sem, AV.one, drawV, intsOf, keyIdx, over, putO, List.map_cons, List.length_cons, ↓reduceIte, zdrop, one_i, one_b, one_sl, one_ptr, one_ref, one_nilp, one_mp, one_fn, one_nilf, List.append_assoc, List.length_append, g2]
  all_goals (repeat' (first | with_reducible rfl | with_reducible apply And.intro | ((with_reducible show drawOK _ _ = true); rfl))) <;> (try first | omega | (simp only [InR]; omega) | with_reducible assumption)
  refine ⟨mem.length + 3, by omega, by simp, ?_, by simp [AV.bare, bel_ints, cs_arr, dep_arr, cs_int, cs_bool, cs_list, cs_sk, cs_sp, AtHead, Same, AllO, Begins, LtAll, headSt, tokz_nil, tokz_cons, tokz1, lk, dep_int, dep_bool, dep_list, dep_sk, dep_sp, memAt, bel_map, bel_mapF, bel_mapO, bel_undef, bel_int, bel_boolv, bel_nilp, bel_nilf, bel_ptr, bel_arr, bel_mp, bel_yld, bel_agg, bel_tup, bel_ref, bel_only, bel_mpr, bel_fn, bel_sl_nil, bel_sl_nilF, bel_sl_nilO, bel_sl_cons, bel_sl_app, belO_cells, belO_tok, belO_dead, belO_deferred, belO_map, belO_iter, belO_loop, bel_vec, bel_vp, belO_vecM, belO_vec], ?_⟩
  · rw [List.take_of_length_le (by simp)]
  · rw [List.take_of_length_le (by simp)]
    refine ok_app hm (by omega) ?_
    simp [AV.bare, bel_ints, cs_arr, dep_arr, cs_int, cs_bool, cs_list, cs_sk, cs_sp, AtHead, Same, AllO, Begins, LtAll, headSt, tokz_nil, tokz_cons, tokz1, lk, dep_int, dep_bool, dep_list, dep_sk, dep_sp, memAt, bel_map, bel_mapF, bel_mapO, bel_undef, bel_int, bel_boolv, bel_nilp, bel_nilf, bel_ptr, bel_arr, bel_mp, bel_yld, bel_agg, bel_tup, bel_ref, bel_only, bel_mpr, bel_fn, bel_sl_nil, bel_sl_nilF, bel_sl_nilO, bel_sl_cons, bel_sl_app, belO_cells, belO_tok, belO_dead, belO_deferred, belO_map, belO_iter, belO_loop, bel_vec, bel_vp, belO_vecM, belO_vec, -List.map_map]
def proveBoundB (s : Sh) (p : List Sp) (m : Int) : Bool := (decide (faultS s = 0) && proofB p) && decide (boundL s p ≤ m)
theorem rising_false {p : List Sp} : ∀ {i : Nat}, i + 1 < p.length → ¬ (at_ p i).chairs < (at_ p (i + 1)).chairs → risingB p = false := by
  induction p with
  | nil => intro i hi; simp at hi
  | cons x r ih =>
    intro i hi h
    cases r with
    | nil => simp at hi
    | cons y r =>
      unfold risingB
      cases i with
      | zero =>
        have : decide (x.chairs < y.chairs) = false := by simpa [at_] using h
        rw [this]; rfl
      | succ i =>
        have := ih (i := i) (by simpa using hi) (by simpa [at_] using h)
        rw [this, Bool.and_false]
theorem rising_true {p : List Sp} : (∀ i, i + 1 < p.length → (at_ p i).chairs < (at_ p (i + 1)).chairs) → risingB p = true := by
  induction p with
  | nil => intro _; rfl
  | cons x r ih =>
    intro h
    cases r with
    | nil => rfl
    | cons y r =>
      unfold risingB
      have h0 := h 0 (by simp)
      have : decide (x.chairs < y.chairs) = true := by simpa [at_] using h0
      rw [this, Bool.true_and]
      refine ih fun i hi => ?_
      have := h (i + 1) (by simpa using hi)
      simpa [at_] using this
theorem ProveBound_call (s : Sh) (p : List Sp) (m : Int) (h : s.stacks.length ≤ 4096 ∧ p.length ≤ 4096) : CallP Try.prog 21 [Enc.enc s, Enc.enc p, Enc.enc m] (· = Enc.enc (proveBoundB s p m)) := by
  obtain ⟨h1, h2⟩ := h
  unfold proveBoundB
  cases c0 : decide (faultS s = 0)
  · simp only [enc_fnl, enc_fnb, enc_fnc, enc_refc, enc_arr, enc_int, enc_bool, enc_list, enc_sk, enc_sp, enc_rg, enc_sh, enc_tr, enc_refs, enc_fns, enc_wks]
    refine callP_of_vc (Φ := P40) Try.func21 rfl (by rfl) (by rw [Try.ntmps21]; simp) mixed P40_ok (by simp [AV.strip, AV.strip1, Tk.strip]) ?_
    rw [Try.ntmps21]
    simp only [Try.f21, startSt, tmFrom]
    simp (maxSteps := 4000000) only [go_sem, AV.one, drawV, intsOf, keyIdx, over, putO, memAt, List.map_cons, List.length_cons, ↓reduceIte, zdrop, one_i, one_b, one_sl, one_ptr, one_ref, one_nilp, one_mp, one_fn, one_nilf, c0]
    all_goals (repeat' (first | with_reducible rfl | with_reducible apply And.intro | ((with_reducible show drawOK _ _ = true); rfl))) <;> (try first | omega | (simp only [InR]; omega) | with_reducible assumption)
  have hf : faultS s = 0 := by simpa using c0
  have hs := fault_ok hf
  by_cases cl : p.length = 0
  · have hpb : proofB p = false := by unfold proofB; simp [cl]
    rw [hpb]
    have c1 : decide ((p.length : Int) = 0) = true := by simp; simpa using cl
    simp only [enc_fnl, enc_fnb, enc_fnc, enc_refc, enc_arr, enc_int, enc_bool, enc_list, enc_sk, enc_sp, enc_rg, enc_sh, enc_tr, enc_refs, enc_fns, enc_wks]
    refine callP_of_vc (Φ := P40) Try.func21 rfl (by rfl) (by rw [Try.ntmps21]; simp) mixed P40_ok (by simp [AV.strip, AV.strip1, Tk.strip]) ?_
    rw [Try.ntmps21]
    simp only [Try.f21, startSt, tmFrom]
    simp (maxSteps := 4000000) only [go_sem, AV.one, drawV, intsOf, keyIdx, over, putO, memAt, List.map_cons, List.length_cons, ↓reduceIte, zdrop, one_i, one_b, one_sl, one_ptr, one_ref, one_nilp, one_mp, one_fn, one_nilf, c0, c1]
    all_goals (repeat' (first | with_reducible rfl | with_reducible apply And.intro | ((with_reducible show drawOK _ _ = true); rfl))) <;> (try first | omega | (simp only [InR]; omega) | with_reducible assumption)
  have c1 : decide ((p.length : Int) = 0) = false := by simp; simpa using cl
  cases c2 : p.all (fun x => spOk x)
  · have hpb : proofB p = false := by unfold proofB; rw [show p.all spOk = false from c2]; simp
    rw [hpb]
    simp only [enc_fnl, enc_fnb, enc_fnc, enc_refc, enc_arr, enc_int, enc_bool, enc_list, enc_sk, enc_sp, enc_rg, enc_sh, enc_tr, enc_refs, enc_fns, enc_wks]
    refine callP_of_vc (Φ := P40) Try.func21 rfl (by rfl) (by rw [Try.ntmps21]; simp) mixed P40_ok (by simp [AV.strip, AV.strip1, Tk.strip]) ?_
    rw [Try.ntmps21]
    simp only [Try.f21, startSt, tmFrom]
    simp (maxSteps := 4000000) only [go_sem, AV.one, drawV, intsOf, keyIdx, over, putO, memAt, List.map_cons, List.length_cons, ↓reduceIte, zdrop, one_i, one_b, one_sl, one_ptr, one_ref, one_nilp, one_mp, one_fn, one_nilf, c0, c1, c2]
    all_goals (repeat' (first | with_reducible rfl | with_reducible apply And.intro | ((with_reducible show drawOK _ _ = true); rfl))) <;> (try first | omega | (simp only [InR]; omega) | with_reducible assumption)
  have hok : SpsOk p := ⟨fun e => cl (by rw [e]; rfl), h2, fun x hx => List.all_eq_true.1 c2 x hx⟩
  have hpb : proofB p = risingB p := by unfold proofB; rw [show p.all spOk = true from c2]; simp; intro _; omega
  rw [hpb]
  have hn : ((p.length : Int) - 1).toNat = p.length - 1 := by omega
  have hsl : (List.take (p.length - 1) (List.drop 1 (p.map EncE.cs))).length = p.length - 1 := by simp
  simp only [enc_fnl, enc_fnb, enc_fnc, enc_refc, enc_arr, enc_int, enc_bool, enc_list, enc_sk, enc_sp, enc_rg, enc_sh, enc_tr, enc_refs, enc_fns, enc_wks]
  refine callP_of_vc (Φ := P40) Try.func21 rfl (by rfl) (by rw [Try.ntmps21]; simp) mixed P40_ok (by simp [AV.strip, AV.strip1, Tk.strip]) ?_
  rw [Try.ntmps21]
  simp only [Try.f21, startSt, tmFrom]
  simp (maxSteps := 4000000) only [go_sem, AV.one, drawV, intsOf, keyIdx, over, putO, memAt, List.map_cons, List.length_cons, ↓reduceIte, zdrop, one_i, one_b, one_sl, one_ptr, one_ref, one_nilp, one_mp, one_fn, one_nilf, c0, c1, c2]
  all_goals (repeat' (first | with_reducible rfl | with_reducible apply And.intro | ((with_reducible show drawOK _ _ = true); rfl))) <;> (try first | omega | (simp only [InR]; omega) | with_reducible assumption)
  refine loopN (p.length - 1) [] [1, 2, 3, 6, 27] (fun i => [(28, .int .i64 i)]) (fun _ m => m) (fun i => ∀ k, k < i → (at_ p k).chairs < (at_ p (k + 1)).chairs) ?_ ?_ ?_ ?_
  · intro k hk; omega
  · simp [AV.bare, bel_ints, cs_arr, dep_arr, cs_int, cs_bool, cs_list, cs_sk, cs_sp, AtHead, Same, AllO, Begins, LtAll, headSt, tokz_nil, tokz_cons, tokz1, lk, dep_int, dep_bool, dep_list, dep_sk, dep_sp, memAt, bel_map, bel_mapF, bel_mapO, bel_undef, bel_int, bel_boolv, bel_nilp, bel_nilf, bel_ptr, bel_arr, bel_mp, bel_yld, bel_agg, bel_tup, bel_ref, bel_only, bel_mpr, bel_fn, bel_sl_nil, bel_sl_nilF, bel_sl_nilO, bel_sl_cons, bel_sl_app, belO_cells, belO_tok, belO_dead, belO_deferred, belO_map, belO_iter, belO_loop, bel_vec, bel_vp, belO_vecM, belO_vec, -List.map_map, -List.map_take, -List.map_drop]
  · intro i hi hI
    have hi1 : i + 1 < p.length := by omega
    have hi0 : i < p.length := by omega
    have hn1 : ((i : Int) + 1).toNat = i + 1 := by omega
    have hlt : (i : Int) < ((p.length - 1 : Nat) : Int) := by omega
    cases c3 : decide ((at_ p i).chairs ≥ (at_ p (i + 1)).chairs)
    · have c3' : (at_ p i).chairs < (at_ p (i + 1)).chairs := by simp at c3; omega
      simp (maxSteps := 4000000) only [go_sem, AV.one, drawV, intsOf, keyIdx, over, putO, memAt, List.map_cons, List.length_cons, ↓reduceIte, zdrop, one_i, one_b, one_sl, one_ptr, one_ref, one_nilp, one_mp, one_fn, one_nilf, getD_mapA hi1, getD_mapA hi0, hn, hn1, hlt, hsl, c3]
      all_goals (repeat' (first | with_reducible rfl | with_reducible apply And.intro | ((with_reducible show drawOK _ _ = true); rfl))) <;> (try first | omega | (simp only [InR]; omega) | with_reducible assumption)
      refine nxt hi (fun k hk => ?_) ?_
      · by_cases e : k = i
        · rw [e]; exact c3'
        · exact hI k (by omega)
      · simp [AV.bare, bel_ints, cs_arr, dep_arr, cs_int, cs_bool, cs_list, cs_sk, cs_sp, AtHead, Same, AllO, Begins, LtAll, headSt, tokz_nil, tokz_cons, tokz1, lk, dep_int, dep_bool, dep_list, dep_sk, dep_sp, memAt, bel_map, bel_mapF, bel_mapO, bel_undef, bel_int, bel_boolv, bel_nilp, bel_nilf, bel_ptr, bel_arr, bel_mp, bel_yld, bel_agg, bel_tup, bel_ref, bel_only, bel_mpr, bel_fn, bel_sl_nil, bel_sl_nilF, bel_sl_nilO, bel_sl_cons, bel_sl_app, belO_cells, belO_tok, belO_dead, belO_deferred, belO_map, belO_iter, belO_loop, bel_vec, bel_vp, belO_vecM, belO_vec, -List.map_map, -List.map_take, -List.map_drop]
    · have c3' : ¬ (at_ p i).chairs < (at_ p (i + 1)).chairs := by simp at c3; omega
      rw [rising_false hi1 c3']
      simp (maxSteps := 4000000) only [go_sem, AV.one, drawV, intsOf, keyIdx, over, putO, memAt, List.map_cons, List.length_cons, ↓reduceIte, zdrop, one_i, one_b, one_sl, one_ptr, one_ref, one_nilp, one_mp, one_fn, one_nilf, getD_mapA hi1, getD_mapA hi0, hn, hn1, hlt, hsl, c3]
      all_goals (repeat' (first | with_reducible rfl | with_reducible apply And.intro | ((with_reducible show drawOK _ _ = true); rfl))) <;> (try first | omega | (simp only [InR]; omega) | with_reducible assumption)
  · intro hI
    rw [rising_true fun i hi => hI i (by omega)]
    have hlt : ¬ (((p.length - 1 : Nat) : Int) < ((p.length - 1 : Nat) : Int)) := by omega
    have hw := workX_call s [.cells [.sl (s.stacks.map EncE.cs) .no, .int .i64 s.hands, .int .i64 s.rain.lo, .int .i64 s.rain.hi]] (by simp [AV.bare, bel_ints, cs_arr, dep_arr, cs_int, cs_bool, cs_list, cs_sk, cs_sp, AtHead, Same, AllO, Begins, LtAll, headSt, tokz_nil, tokz_cons, tokz1, lk, dep_int, dep_bool, dep_list, dep_sk, dep_sp, memAt, bel_map, bel_mapF, bel_mapO, bel_undef, bel_int, bel_boolv, bel_nilp, bel_nilf, bel_ptr, bel_arr, bel_mp, bel_yld, bel_agg, bel_tup, bel_ref, bel_only, bel_mpr, bel_fn, bel_sl_nil, bel_sl_nilF, bel_sl_nilO, bel_sl_cons, bel_sl_app, belO_cells, belO_tok, belO_dead, belO_deferred, belO_map, belO_iter, belO_loop, bel_vec, bel_vp, belO_vecM, belO_vec, -List.map_map])
    simp (maxSteps := 4000000) only [go_sem, AV.one, drawV, intsOf, keyIdx, over, putO, memAt, List.map_cons, List.length_cons, ↓reduceIte, zdrop, one_i, one_b, one_sl, one_ptr, one_ref, one_nilp, one_mp, one_fn, one_nilf, hn, hlt, hsl]
    all_goals (repeat' (first | with_reducible rfl | with_reducible apply And.intro | ((with_reducible show drawOK _ _ = true); rfl))) <;> (try first | omega | (simp only [InR]; omega) | with_reducible assumption)
    refine ⟨_, hw, ?_⟩
    rintro r mem' ⟨rfl, rfl⟩ _
    have hb := bound_call (mem := [.cells [.sl (s.stacks.map EncE.cs) .no, .int .i64 s.hands, .int .i64 s.rain.lo, .int .i64 s.rain.hi], .cells [.sl (s.stacks.map EncE.cs) .no, .int .i64 s.hands, .int .i64 s.rain.lo, .int .i64 s.rain.hi], .map [] [], .cells [.sl (s.stacks.map EncE.cs) .no, .int .i64 s.hands, .int .i64 s.rain.lo, .int .i64 s.rain.hi, .mp 2]])
      (a := 3) (m := 2) s hs [] [] (memo_nil s) p hok rfl rfl (by simp [AV.bare, bel_ints, cs_arr, dep_arr, cs_int, cs_bool, cs_list, cs_sk, cs_sp, AtHead, Same, AllO, Begins, LtAll, headSt, tokz_nil, tokz_cons, tokz1, lk, dep_int, dep_bool, dep_list, dep_sk, dep_sp, memAt, bel_map, bel_mapF, bel_mapO, bel_undef, bel_int, bel_boolv, bel_nilp, bel_nilf, bel_ptr, bel_arr, bel_mp, bel_yld, bel_agg, bel_tup, bel_ref, bel_only, bel_mpr, bel_fn, bel_sl_nil, bel_sl_nilF, bel_sl_nilO, bel_sl_cons, bel_sl_app, belO_cells, belO_tok, belO_dead, belO_deferred, belO_map, belO_iter, belO_loop, bel_vec, bel_vp, belO_vecM, belO_vec, -List.map_map])
    simp (maxSteps := 4000000) only [go_sem, AV.one, drawV, intsOf, keyIdx, over, putO, memAt, List.map_cons, List.length_cons, ↓reduceIte, zdrop, one_i, one_b, one_sl, one_ptr, one_ref, one_nilp, one_mp, one_fn, one_nilf]
    all_goals (repeat' (first | with_reducible rfl | with_reducible apply And.intro | ((with_reducible show drawOK _ _ = true); rfl))) <;> (try first | omega | (simp only [InR]; omega) | with_reducible assumption)
    refine ⟨_, callX_of_callM hb, ?_⟩
    rintro r mem' ⟨r0, rfl, ⟨rfl, ks', vs', hM', rfl⟩, hlen⟩ _
    simp (maxSteps := 4000000) only [go_sem, AV.one, drawV, intsOf, keyIdx, over, putO, memAt, List.map_cons, List.length_cons, ↓reduceIte, zdrop, one_i, one_b, one_sl, one_ptr, one_ref, one_nilp, one_mp, one_fn, one_nilf]
    all_goals (repeat' (first | with_reducible rfl | with_reducible apply And.intro | ((with_reducible show drawOK _ _ = true); rfl))) <;> (try first | omega | (simp only [InR]; omega) | with_reducible assumption)
end Go.Proofs
namespace Go.Proofs
open Go.Fs
set_option linter.unusedSimpArgs false
set_option linter.unusedVariables false
set_option maxHeartbeats 4000000
set_option maxRecDepth 8000
def numsS (s : Sh) : List Int := s.stacks.map fun x => max 1 x.chairs
def numS (s : Sh) : List Int := compactL (sortS (fun i => i) (numsS s) ++ [99])
def leastS (s : Sh) (n : Int) (k : Nat) : Int := (List.range k).foldl (fun (b : Int) (x : Nat) => if partS s n (x : Int) < partS s n b then (x : Int) else b) 0
def stepS (s : Sh) (n : Int) : Sp := ⟨n, leastS s n 19⟩
def showS (s : Sh) : List Sp := (numS s).map (stepS s)
def showQ (s : Sh) : Tri (List Sp) Int Int := if faultS s ≠ 0 then ⟨[], 0, faultS s⟩ else ⟨showS s, mostS s, 0⟩
theorem compN_mem (l : List Int) : ∀ k, k ≤ l.length → ∀ x, x ∈ compN l k ↔ x ∈ l.take k
  | 0, _, x => by simp [compN]
  | k + 1, hk, x => by
    have ih := compN_mem l k (by omega) x
    unfold compN
    rw [take_succ_at (by omega)]
    split
    · rename_i h
      rw [ih, List.mem_append, List.mem_singleton]
      refine ⟨.inl, fun q => q.elim id fun e => ?_⟩
      rw [e, h.2]
      have : at_ l (k - 1) = at_ (l.take k) (k - 1) := (at_take (by omega)).symm
      rw [this]
      exact at_mem (by rw [List.length_take]; omega)
    · rw [List.mem_append, List.mem_append, ih]
theorem compactL_mem (l : List Int) (x : Int) : x ∈ compactL l ↔ x ∈ l := by unfold compactL; rw [compN_mem l _ (Nat.le_refl _), List.take_length]
theorem compN_rise {l : List Int} (h : l.Pairwise (· ≤ ·)) : ∀ k, k ≤ l.length → (compN l k).Pairwise (· < ·) ∧ (1 ≤ k → ∃ r, compN l k = r ++ [at_ l (k - 1)])
  | 0, _ => ⟨by simp [compN], fun q => by omega⟩
  | k + 1, hk => by
    obtain ⟨h1, h2⟩ := compN_rise h k (by omega)
    unfold compN
    split
    · rename_i c
      refine ⟨h1, fun _ => ?_⟩
      obtain ⟨r, hr⟩ := h2 c.1
      exact ⟨r, by rw [show k + 1 - 1 = k from rfl, c.2]; exact hr⟩
    · rename_i c
      refine ⟨?_, fun _ => ⟨compN l k, by rw [Nat.add_sub_cancel]⟩⟩
      rw [List.pairwise_append]
      refine ⟨h1, by simp, fun x hx y hy => ?_⟩
      simp only [List.mem_singleton] at hy
      subst hy
      have hk0 : 1 ≤ k := by
        cases k with
        | zero => simp [compN] at hx
        | succ k => omega
      obtain ⟨r, hr⟩ := h2 hk0
      have hle : at_ l (k - 1) ≤ at_ l k := by
        rw [at_get (show k - 1 < l.length by omega), at_get (show k < l.length by omega)]
        exact List.pairwise_iff_getElem.1 h _ _ _ _ (by omega)
      have hne : at_ l (k - 1) ≠ at_ l k := fun e => c ⟨hk0, e.symm⟩
      rw [hr] at h1 hx
      rcases List.mem_append.1 hx with q | q
      · have := (List.pairwise_append.1 h1).2.2 x q (at_ l (k - 1)) (by simp)
        omega
      · simp only [List.mem_singleton] at q; omega
theorem sort_id (l : List Int) : (sortS (fun i => i) l).Pairwise (· ≤ ·) := sortS_sorted (fun i => i) l
theorem nums_mem {s : Sh} (hs : ShOk s) {x : Int} (hx : x ∈ numsS s) : 1 ≤ x ∧ x ≤ 99 := by
  obtain ⟨y, hy, rfl⟩ := List.mem_map.1 hx
  have := (hs.st y hy).1
  omega
theorem num_spec {s : Sh} (hs : ShOk s) : (numS s).Pairwise (· < ·) ∧ (∀ x, x ∈ numS s ↔ x ∈ numsS s ∨ x = 99) := by
  unfold numS
  refine ⟨?_, fun x => by rw [compactL_mem, List.mem_append, sortS_mem, List.mem_singleton]⟩
  refine (compN_rise ?_ _ (Nat.le_refl _)).1
  rw [List.pairwise_append]
  refine ⟨sort_id _, by simp, fun x hx y hy => ?_⟩
  simp only [List.mem_singleton] at hy
  have := nums_mem hs ((sortS_mem _ _ _).1 hx)
  omega
theorem num_bd {s : Sh} (hs : ShOk s) {x : Int} (hx : x ∈ numS s) : 1 ≤ x ∧ x ≤ 99 := by
  rcases ((num_spec hs).2 x).1 hx with q | q
  · exact nums_mem hs q
  · omega
theorem num_len {s : Sh} (hs : ShOk s) : (numS s).length ≤ 9 := by
  have h8 := hs.len
  have e : (sortS (fun i => i) (numsS s) ++ [99]).length = s.stacks.length + 1 := by rw [List.length_append, sortS_len]; simp [numsS]
  exact Nat.le_trans (compN_le _ _) (by omega)
theorem least_succ (s : Sh) (n : Int) (k : Nat) : leastS s n (k + 1) = if partS s n (k : Int) < partS s n (leastS s n k) then (k : Int) else leastS s n k := by
  unfold leastS; rw [List.range_succ, List.foldl_append]; rfl
theorem least_spec (s : Sh) (n : Int) : ∀ k : Nat, (0 ≤ leastS s n k ∧ leastS s n k ≤ ((k - 1 : Nat) : Int)) ∧ ∀ x : Nat, x < k → partS s n (leastS s n k) ≤ partS s n (x : Int)
  | 0 => ⟨by simp [leastS], fun x hx => by omega⟩
  | k + 1 => by
    obtain ⟨h1, h2⟩ := least_spec s n k
    rw [least_succ]
    split
    · refine ⟨by omega, fun x hx => ?_⟩
      by_cases e : x = k
      · subst e; omega
      · have := h2 x (by omega); omega
    · refine ⟨by omega, fun x hx => ?_⟩
      by_cases e : x = k
      · subst e; omega
      · exact h2 x (by omega)
theorem show_proof {s : Sh} (hs : ShOk s) : proofB (showS s) = true := by
  obtain ⟨h1, h2⟩ := num_spec hs
  unfold proofB
  have hlen : 0 < (showS s).length := by
    have : (99 : Int) ∈ numS s := (h2 99).2 (.inr rfl)
    have := List.length_pos_of_mem this
    simpa [showS] using this
  simp only [Bool.and_eq_true, decide_eq_true_eq, List.all_eq_true]
  refine ⟨⟨hlen, fun x hx => ?_⟩, rising_true fun i hi => ?_⟩
  · obtain ⟨n, hn, rfl⟩ := List.mem_map.1 hx
    have hb := num_bd hs hn
    have hl := (least_spec s n 19).1
    show ((decide (1 ≤ n) && decide (n ≤ 99)) && (decide (0 ≤ leastS s n 19) && decide (leastS s n 19 ≤ 18))) = true
    simp only [Bool.and_eq_true, decide_eq_true_eq]
    have : ((19 - 1 : Nat) : Int) = 18 := rfl
    omega
  · unfold showS at hi ⊢
    simp only [List.length_map] at hi
    have e : ∀ k, k < (numS s).length → at_ ((numS s).map (stepS s)) k = stepS s (at_ (numS s) k) := fun k hk => by simp [at_, List.getD, hk]
    rw [e _ (by omega), e _ hi]
    show at_ (numS s) i < at_ (numS s) (i + 1)
    rw [at_get (show i < (numS s).length by omega), at_get hi]
    exact List.pairwise_iff_getElem.1 h1 _ _ _ _ (by omega)
theorem stepL_map {s : Sh} : ∀ {l : List Int} {c : Int}, l.Pairwise (· < ·) → (∃ x ∈ l, c ≤ x) → ∃ n ∈ l, stepL (l.map (stepS s)) c = stepS s n ∧ c ≤ n ∧ ∀ x ∈ l, c ≤ x → n ≤ x
  | [], _, _, h => by obtain ⟨x, hx, _⟩ := h; cases hx
  | x :: r, c, hp, h => by
    by_cases e : c ≤ x
    · refine ⟨x, by simp, ?_, e, fun y hy _ => ?_⟩
      · rw [List.map_cons, stepL_hit _ _ _ e]
      · rcases List.mem_cons.1 hy with q | q
        · omega
        · have := (List.pairwise_cons.1 hp).1 y q; omega
    · have hr : ∃ y ∈ r, c ≤ y := by
        obtain ⟨y, hy, hc⟩ := h
        rcases List.mem_cons.1 hy with q | q
        · subst q; exact absurd hc e
        · exact ⟨y, q, hc⟩
      obtain ⟨n, hn, h1, h2, h3⟩ := stepL_map (s := s) (List.pairwise_cons.1 hp).2 hr
      refine ⟨n, by simp [hn], ?_, h2, fun y hy hc => ?_⟩
      · rw [List.map_cons, stepL_miss _ _ _ e, h1]
        intro q
        obtain ⟨y, hy, _⟩ := hr
        have : r = [] := List.map_eq_nil_iff.1 q
        rw [this] at hy; cases hy
      · rcases List.mem_cons.1 hy with q | q
        · subst q; exact absurd hc e
        · exact h3 y q hc
theorem show_bound {s : Sh} (hs : ShOk s) : boundL s (showS s) = mostS s := by
  obtain ⟨h1, h2⟩ := num_spec hs
  refine bound_eq hs (show_proof hs) fun c hc1 hc2 b hb0 hb1 => ?_
  obtain ⟨_, hg1, hg2⟩ := great_spec s.stacks (fun x hx => (hs.st x hx).1)
  obtain ⟨n, hn, e, hcn, hmin⟩ := stepL_map (s := s) (c := c) h1 ⟨99, (h2 99).2 (.inr rfl), by omega⟩
  unfold showS
  rw [e]
  have hpe : ∀ b, partS s c b = partS s n b := fun b => by
    unfold partS partN
    rw [cnt_congr (q := fun i => decide (n ≤ chS s i) && decide (b < spS s i)) (fun i hi => ?_)]
    congr 1
    have hmem : max 1 (at_ s.stacks i).chairs ∈ numS s := (h2 _).2 (.inl (List.mem_map.2 ⟨_, at_mem hi, rfl⟩))
    have := hmin _ hmem
    simp only [ch_at, decide_eq_decide]
    omega
  rw [hpe, hpe]
  obtain ⟨k, rfl⟩ := Int.eq_ofNat_of_zero_le hb0
  exact (least_spec s n 19).2 k (by omega)
theorem Show_call (s : Sh) (h : s.stacks.length ≤ 4096) : CallP Try.prog 27 [Enc.enc s] (· = Enc.enc (showQ s)) := by
  unfold showQ
  cases c0 : decide (faultS s = 0)
  · rw [if_pos (by simpa using c0)]
    simp only [enc_fnl, enc_fnb, enc_fnc, enc_refc, enc_arr, enc_int, enc_bool, enc_list, enc_sk, enc_sp, enc_rg, enc_sh, enc_tr, enc_refs, enc_fns, enc_wks]
    refine callP_of_vc (Φ := P40) Try.func27 rfl (by rfl) (by rw [Try.ntmps27]; simp) mixed P40_ok (by simp [AV.strip, AV.strip1, Tk.strip]) ?_
    rw [Try.ntmps27]
    simp only [Try.f27, startSt, tmFrom]
    simp (maxSteps := 4000000) only [go_sem, AV.one, drawV, intsOf, keyIdx, over, putO, memAt, List.map_cons, List.length_cons, ↓reduceIte, zdrop, one_i, one_b, one_sl, one_ptr, one_ref, one_nilp, one_mp, one_fn, one_nilf, c0]
    all_goals (repeat' (first | with_reducible rfl | with_reducible apply And.intro | ((with_reducible show drawOK _ _ = true); rfl))) <;> (try first | omega | (simp only [InR]; omega) | with_reducible assumption)
  have hf : faultS s = 0 := by simpa using c0
  have hs := fault_ok hf
  have h8 := hs.len
  rw [if_neg (by simpa using c0)]
  have hw := workX_call s [.cells [.sl (s.stacks.map EncE.cs) .no, .int .i64 s.hands, .int .i64 s.rain.lo, .int .i64 s.rain.hi]] (by simp [AV.bare, bel_ints, cs_arr, dep_arr, cs_int, cs_bool, cs_list, cs_sk, cs_sp, AtHead, Same, AllO, Begins, LtAll, headSt, tokz_nil, tokz_cons, tokz1, lk, dep_int, dep_bool, dep_list, dep_sk, dep_sp, memAt, bel_map, bel_mapF, bel_mapO, bel_undef, bel_int, bel_boolv, bel_nilp, bel_nilf, bel_ptr, bel_arr, bel_mp, bel_yld, bel_agg, bel_tup, bel_ref, bel_only, bel_mpr, bel_fn, bel_sl_nil, bel_sl_nilF, bel_sl_nilO, bel_sl_cons, bel_sl_app, belO_cells, belO_tok, belO_dead, belO_deferred, belO_map, belO_iter, belO_loop, bel_vec, bel_vp, belO_vecM, belO_vec, -List.map_map])
  obtain ⟨W, hW⟩ : ∃ W : Nat → List AObj, W = fun _ => [.cells [.sl (s.stacks.map EncE.cs) .no, .int .i64 s.hands, .int .i64 s.rain.lo, .int .i64 s.rain.hi], .cells [.sl (s.stacks.map EncE.cs) .no, .int .i64 s.hands, .int .i64 s.rain.lo, .int .i64 s.rain.hi]] := ⟨_, rfl⟩
  simp only [enc_fnl, enc_fnb, enc_fnc, enc_refc, enc_arr, enc_int, enc_bool, enc_list, enc_sk, enc_sp, enc_rg, enc_sh, enc_tr, enc_refs, enc_fns, enc_wks]
  refine callP_of_vc (Φ := P40) Try.func27 rfl (by rfl) (by rw [Try.ntmps27]; simp) mixed P40_ok (by simp [AV.strip, AV.strip1, Tk.strip]) ?_
  rw [Try.ntmps27]
  simp only [Try.f27, startSt, tmFrom]
  simp (maxSteps := 4000000) only [go_sem, AV.one, drawV, intsOf, keyIdx, over, putO, memAt, List.map_cons, List.length_cons, ↓reduceIte, zdrop, one_i, one_b, one_sl, one_ptr, one_ref, one_nilp, one_mp, one_fn, one_nilf, c0]
  all_goals (repeat' (first | with_reducible rfl | with_reducible apply And.intro | ((with_reducible show drawOK _ _ = true); rfl))) <;> (try first | omega | (simp only [InR]; omega) | with_reducible assumption)
  refine ⟨_, hw, ?_⟩
  rintro r mem' ⟨rfl, rfl⟩ _
  simp (maxSteps := 4000000) only [go_sem, AV.one, drawV, intsOf, keyIdx, over, putO, memAt, List.map_cons, List.length_cons, ↓reduceIte, zdrop, one_i, one_b, one_sl, one_ptr, one_ref, one_nilp, one_mp, one_fn, one_nilf]
  all_goals (repeat' (first | with_reducible rfl | with_reducible apply And.intro | ((with_reducible show drawOK _ _ = true); rfl))) <;> (try first | omega | (simp only [InR]; omega) | with_reducible assumption)
  obtain ⟨L, hL⟩ : ∃ L : Nat → List Int, L = fun i => (s.stacks.take i).map fun x => max 1 x.chairs := ⟨_, rfl⟩
  have hLl : ∀ i, i ≤ s.stacks.length → (L i).length = i := fun i hi => by rw [hL]; simp; omega
  have hLs : ∀ i, i < s.stacks.length → L (i + 1) = L i ++ [max 1 (at_ s.stacks i).chairs] := fun i hi => by rw [hL]; dsimp only; rw [take_succ_at hi, List.map_append]; rfl
  have hLn : L s.stacks.length = numsS s := by rw [hL]; dsimp only; rw [List.take_length]; rfl
  have hL0 : L 0 = [] := by rw [hL]; rfl
  refine loopN (s.stacks.length) [.vslot 7 1] [2, 3, 4, 6, 22, 23] (fun i => [(24, .int .i64 i), (7, .vec 4 i 0 i 1)]) (fun i m => m.set 4 (.vec ((L i).map EncE.cs) 1 i)) (fun _ => True) ?_ ?_ ?_ ?_
  · trivial
  · simp [AV.bare, bel_ints, cs_arr, dep_arr, cs_int, cs_bool, cs_list, cs_sk, cs_sp, AtHead, Same, AllO, Begins, LtAll, headSt, tokz_nil, tokz_cons, tokz1, lk, dep_int, dep_bool, dep_list, dep_sk, dep_sp, memAt, bel_map, bel_mapF, bel_mapO, bel_undef, bel_int, bel_boolv, bel_nilp, bel_nilf, bel_ptr, bel_arr, bel_mp, bel_yld, bel_agg, bel_tup, bel_ref, bel_only, bel_mpr, bel_fn, bel_sl_nil, bel_sl_nilF, bel_sl_nilO, bel_sl_cons, bel_sl_app, belO_cells, belO_tok, belO_dead, belO_deferred, belO_map, belO_iter, belO_loop, bel_vec, bel_vp, belO_vecM, belO_vec, hL0, -List.map_map]
  · intro i hi _
    have hi' := Int.ofNat_lt.2 hi
    have hll := hLl i (by omega)
    have htk : List.take i ((L i).map EncE.cs) = (L i).map EncE.cs := List.take_of_length_le (by simp [hll])
    have hch := (hs.st _ (at_mem hi)).1
    simp (maxSteps := 4000000) only [go_sem, AV.one, drawV, intsOf, keyIdx, over, putO, memAt, List.map_cons, List.length_cons, ↓reduceIte, zdrop, one_i, one_b, one_sl, one_ptr, one_ref, one_nilp, one_mp, one_fn, one_nilf, getD_mapA hi, hi', htk]
    all_goals (repeat' (first | with_reducible rfl | with_reducible apply And.intro | ((with_reducible show drawOK _ _ = true); rfl))) <;> (try first | omega | (simp only [InR]; omega) | with_reducible assumption)
    refine nxt hi trivial ?_
    obtain ⟨L2, hL2⟩ : ∃ L2, L (i + 1) = L2 := ⟨_, rfl⟩
    have e : (L i).map EncE.cs ++ [[AV.int .i64 (max 1 (at_ s.stacks i).chairs)]] = L2.map EncE.cs := by rw [← hL2, hLs i hi, List.map_append]; rfl
    simp only [e]
    simp [AV.bare, bel_ints, cs_arr, dep_arr, cs_int, cs_bool, cs_list, cs_sk, cs_sp, AtHead, Same, AllO, Begins, LtAll, headSt, tokz_nil, tokz_cons, tokz1, lk, dep_int, dep_bool, dep_list, dep_sk, dep_sp, memAt, bel_map, bel_mapF, bel_mapO, bel_undef, bel_int, bel_boolv, bel_nilp, bel_nilf, bel_ptr, bel_arr, bel_mp, bel_yld, bel_agg, bel_tup, bel_ref, bel_only, bel_mpr, bel_fn, bel_sl_nil, bel_sl_nilF, bel_sl_nilO, bel_sl_cons, bel_sl_app, belO_cells, belO_tok, belO_dead, belO_deferred, belO_map, belO_iter, belO_loop, bel_vec, bel_vp, belO_vecM, belO_vec, hL2, -List.map_map]
  · intro _
    rw [hLn]
    have hnl : (numsS s).length = s.stacks.length := by simp [numsS]
    obtain ⟨n, hn⟩ : ∃ n, s.stacks.length = n := ⟨_, rfl⟩
    have hsort := Sort_call (v := 4) (s := n) (mem := [.cells [.sl (s.stacks.map EncE.cs) .no, .int .i64 s.hands, .int .i64 s.rain.lo, .int .i64 s.rain.hi], .cells [.sl (s.stacks.map EncE.cs) .no, .int .i64 s.hands, .int .i64 s.rain.lo, .int .i64 s.rain.hi], .map [] [], .cells [.sl (s.stacks.map EncE.cs) .no, .int .i64 s.hands, .int .i64 s.rain.lo, .int .i64 s.rain.hi, .mp 2], .vec ((numsS s).map EncE.cs) 1 n])
      (numsS s) rfl (by simp [AV.bare, bel_ints, cs_arr, dep_arr, cs_int, cs_bool, cs_list, cs_sk, cs_sp, AtHead, Same, AllO, Begins, LtAll, headSt, tokz_nil, tokz_cons, tokz1, lk, dep_int, dep_bool, dep_list, dep_sk, dep_sp, memAt, bel_map, bel_mapF, bel_mapO, bel_undef, bel_int, bel_boolv, bel_nilp, bel_nilf, bel_ptr, bel_arr, bel_mp, bel_yld, bel_agg, bel_tup, bel_ref, bel_only, bel_mpr, bel_fn, bel_sl_nil, bel_sl_nilF, bel_sl_nilO, bel_sl_cons, bel_sl_app, belO_cells, belO_tok, belO_dead, belO_deferred, belO_map, belO_iter, belO_loop, bel_vec, bel_vp, belO_vecM, belO_vec, -List.map_map]) (by omega)
    rw [hnl, hn] at hsort
    simp (maxSteps := 4000000) only [go_sem, AV.one, drawV, intsOf, keyIdx, over, putO, memAt, List.map_cons, List.length_cons, ↓reduceIte, zdrop, one_i, one_b, one_sl, one_ptr, one_ref, one_nilp, one_mp, one_fn, one_nilf, Int.lt_irrefl, hn]
    all_goals (repeat' (first | with_reducible rfl | with_reducible apply And.intro | ((with_reducible show drawOK _ _ = true); rfl))) <;> (try first | omega | (simp only [InR]; omega) | with_reducible assumption)
    refine ⟨_, hsort, ?_⟩
    rintro r mem' ⟨rfl, rfl⟩ _
    have hSl : (sortS (fun i => i) (numsS s)).length = n := by rw [sortS_len, hnl, hn]
    have hCd : numS s = compactL (sortS (fun i => i) (numsS s) ++ [99]) := rfl
    obtain ⟨S, hS⟩ : ∃ S, sortS (fun i => i) (numsS s) = S := ⟨_, rfl⟩
    rw [hS] at hSl hCd
    rw [hS]
    have htk : List.take n (S.map EncE.cs) = S.map EncE.cs := List.take_of_length_le (by simp [hSl])
    have hl1 : (S ++ [99]).length = n + 1 := by simp [hSl]
    have hmap : S.map EncE.cs ++ [[AV.int .i64 99]] = (S ++ [99]).map EncE.cs := by rw [List.map_append]; rfl
    obtain ⟨S9, hS9⟩ : ∃ S9, S ++ [99] = S9 := ⟨_, rfl⟩
    rw [hS9] at hl1 hmap hCd
    have hcomp := Compact_call (v := 4) (s := n + 1) (mem := [.cells [.sl (s.stacks.map EncE.cs) .no, .int .i64 s.hands, .int .i64 s.rain.lo, .int .i64 s.rain.hi], .cells [.sl (s.stacks.map EncE.cs) .no, .int .i64 s.hands, .int .i64 s.rain.lo, .int .i64 s.rain.hi], .map [] [], .cells [.sl (s.stacks.map EncE.cs) .no, .int .i64 s.hands, .int .i64 s.rain.lo, .int .i64 s.rain.hi, .mp 2], .vec (S9.map EncE.cs) 1 (n + 1)])
      S9 rfl (by simp [AV.bare, bel_ints, cs_arr, dep_arr, cs_int, cs_bool, cs_list, cs_sk, cs_sp, AtHead, Same, AllO, Begins, LtAll, headSt, tokz_nil, tokz_cons, tokz1, lk, dep_int, dep_bool, dep_list, dep_sk, dep_sp, memAt, bel_map, bel_mapF, bel_mapO, bel_undef, bel_int, bel_boolv, bel_nilp, bel_nilf, bel_ptr, bel_arr, bel_mp, bel_yld, bel_agg, bel_tup, bel_ref, bel_only, bel_mpr, bel_fn, bel_sl_nil, bel_sl_nilF, bel_sl_nilO, bel_sl_cons, bel_sl_app, belO_cells, belO_tok, belO_dead, belO_deferred, belO_map, belO_iter, belO_loop, bel_vec, bel_vp, belO_vecM, belO_vec, -List.map_map]) (by rw [hl1]; omega)
    rw [hl1, ← hCd] at hcomp
    simp (maxSteps := 4000000) only [go_sem, AV.one, drawV, intsOf, keyIdx, over, putO, memAt, List.map_cons, List.length_cons, ↓reduceIte, zdrop, one_i, one_b, one_sl, one_ptr, one_ref, one_nilp, one_mp, one_fn, one_nilf, htk, hmap]
    all_goals (repeat' (first | with_reducible rfl | with_reducible apply And.intro | ((with_reducible show drawOK _ _ = true); rfl))) <;> (try first | omega | (simp only [InR]; omega) | with_reducible assumption)
    refine ⟨_, hcomp, ?_⟩
    rintro r mem' ⟨rfl, R, rfl⟩ _
    have hCl := num_len hs
    have hCb : ∀ x ∈ numS s, 1 ≤ x ∧ x ≤ 99 := fun x hx => num_bd hs hx
    have hP : ∀ j, j < (numS s).length → ((numS s).map (stepS s)).take (j + 1) = ((numS s).map (stepS s)).take j ++ [stepS s (at_ (numS s) j)] := fun j hj => by
      rw [take_succ_at (by simpa using hj)]
      simp [at_, List.getD, hj]
    have hshow : showS s = (numS s).map (stepS s) := rfl
    have hsp := show_proof hs
    have hsb := show_bound hs
    obtain ⟨C, hC⟩ : ∃ C, numS s = C := ⟨_, rfl⟩
    rw [hC] at hCl hCb hP hshow
    rw [hC]
    obtain ⟨P, hPe⟩ : ∃ P, C.map (stepS s) = P := ⟨_, rfl⟩
    rw [hPe] at hP hshow
    have hPl : P.length = C.length := by rw [← hPe]; simp
    rw [hshow] at hsp hsb
    rw [hshow]
    simp (maxSteps := 4000000) only [go_sem, AV.one, drawV, intsOf, keyIdx, over, putO, memAt, List.map_cons, List.length_cons, ↓reduceIte, zdrop, one_i, one_b, one_sl, one_ptr, one_ref, one_nilp, one_mp, one_fn, one_nilf]
    all_goals (repeat' (first | with_reducible rfl | with_reducible apply And.intro | ((with_reducible show drawOK _ _ = true); rfl))) <;> (try first | omega | (simp only [InR]; omega) | with_reducible assumption)
    refine loopB [.slot 2 2] [3, 4, 6, 40, 41] (fun b : Nat × List (List Int) × List Int => [(42, .int .i64 b.1), (2, .sl ((P.take b.1).map EncE.cs) (.own 5))]) (fun b m => (m.set 2 (.map b.2.1 (b.2.2.map (AV.int .i64)))).set 5 (.tok b.1 2)) (fun b => b.1 ≤ C.length ∧ Memo s b.2.1 b.2.2) (fun b => C.length - b.1) (((0, [], []) : Nat × List (List Int) × List Int)) ?_ ?_ ?_
    · exact ⟨Nat.zero_le _, memo_nil s⟩
    · simp [AV.bare, bel_ints, cs_arr, dep_arr, cs_int, cs_bool, cs_list, cs_sk, cs_sp, AtHead, Same, AllO, Begins, LtAll, headSt, tokz_nil, tokz_cons, tokz1, lk, dep_int, dep_bool, dep_list, dep_sk, dep_sp, memAt, bel_map, bel_mapF, bel_mapO, bel_undef, bel_int, bel_boolv, bel_nilp, bel_nilf, bel_ptr, bel_arr, bel_mp, bel_yld, bel_agg, bel_tup, bel_ref, bel_only, bel_mpr, bel_fn, bel_sl_nil, bel_sl_nilF, bel_sl_nilO, bel_sl_cons, bel_sl_app, belO_cells, belO_tok, belO_dead, belO_deferred, belO_map, belO_iter, belO_loop, bel_vec, bel_vp, belO_vecM, belO_vec, -List.map_map, -List.map_append]
    · rintro ⟨j, ks, vs⟩ ⟨hj0, hM⟩
      simp only at hj0 hM
      by_cases hj : j < C.length
      · have hj' := Int.ofNat_lt.2 hj
        have hgC : ((C ++ R).map EncE.cs).getD j [] = [AV.int .i64 (at_ C j)] := by rw [getD_mapA (by simp; omega), at_append_left hj]; rfl
        have hx := hCb _ (at_mem hj)
        have hPj := hP j hj
        obtain ⟨x, hxe⟩ : ∃ x, at_ C j = x := ⟨_, rfl⟩
        rw [hxe] at hgC hx hPj
        have htl : (P.take j).length = j := by rw [List.length_take]; omega
        obtain ⟨Pj, hPje⟩ : ∃ Pj, P.take j = Pj := ⟨_, rfl⟩
        obtain ⟨Pj1, hPj1⟩ : ∃ Pj1, P.take (j + 1) = Pj1 := ⟨_, rfl⟩
        rw [hPje] at htl
        rw [hPje, hPj1] at hPj
        rw [hPje]
        obtain ⟨CR, hCR⟩ : ∃ CR, C ++ R = CR := ⟨_, rfl⟩
        rw [hCR] at hgC
        rw [hCR]
        simp (maxSteps := 4000000) only [go_sem, AV.one, drawV, intsOf, keyIdx, over, putO, memAt, List.map_cons, List.length_cons, ↓reduceIte, zdrop, one_i, one_b, one_sl, one_ptr, one_ref, one_nilp, one_mp, one_fn, one_nilf, hj', hgC]
        all_goals (repeat' (first | with_reducible rfl | with_reducible apply And.intro | ((with_reducible show drawOK _ _ = true); rfl))) <;> (try first | omega | (simp only [InR]; omega) | with_reducible assumption)
        refine loopB [] [2, 3, 4, 6, 11, 40, 41, 42, 44, 45] (fun b : Nat × List (List Int) × List Int => [(46, .int .i64 b.1), (12, .int .i64 (leastS s x b.1))]) (fun b m => m.set 2 (.map b.2.1 (b.2.2.map (AV.int .i64)))) (fun b => b.1 ≤ 19 ∧ Memo s b.2.1 b.2.2) (fun b => 19 - b.1) (((0, ks, vs) : Nat × List (List Int) × List Int)) ?_ ?_ ?_
        · exact ⟨Nat.zero_le _, hM⟩
        · simp [AV.bare, bel_ints, cs_arr, dep_arr, cs_int, cs_bool, cs_list, cs_sk, cs_sp, AtHead, Same, AllO, Begins, LtAll, headSt, tokz_nil, tokz_cons, tokz1, lk, dep_int, dep_bool, dep_list, dep_sk, dep_sp, memAt, bel_map, bel_mapF, bel_mapO, bel_undef, bel_int, bel_boolv, bel_nilp, bel_nilf, bel_ptr, bel_arr, bel_mp, bel_yld, bel_agg, bel_tup, bel_ref, bel_only, bel_mpr, bel_fn, bel_sl_nil, bel_sl_nilF, bel_sl_nilO, bel_sl_cons, bel_sl_app, belO_cells, belO_tok, belO_dead, belO_deferred, belO_map, belO_iter, belO_loop, bel_vec, bel_vp, belO_vecM, belO_vec, leastS, -List.map_map]
        · rintro ⟨i, ks1, vs1⟩ ⟨hi0, hM1⟩
          simp only at hi0 hM1
          by_cases hi : i < 19
          · have hi' : (i : Int) < 19 := by omega
            have hls := least_succ s x i
            have hlb := (least_spec s x i).1
            have hc1 := part_call (mem := [.cells [.sl (s.stacks.map EncE.cs) .no, .int .i64 s.hands, .int .i64 s.rain.lo, .int .i64 s.rain.hi], .cells [.sl (s.stacks.map EncE.cs) .no, .int .i64 s.hands, .int .i64 s.rain.lo, .int .i64 s.rain.hi], .map ks1 (vs1.map (AV.int .i64)), .cells [.sl (s.stacks.map EncE.cs) .no, .int .i64 s.hands, .int .i64 s.rain.lo, .int .i64 s.rain.hi, .mp 2], .vec ((CR).map EncE.cs) 1 (n + 1), .tok j 2]) (a := 3) (m := 2) s hs ks1 vs1 hM1 x (i : Int) ⟨hx, by omega, by omega⟩ rfl rfl (by simp [AV.bare, bel_ints, cs_arr, dep_arr, cs_int, cs_bool, cs_list, cs_sk, cs_sp, AtHead, Same, AllO, Begins, LtAll, headSt, tokz_nil, tokz_cons, tokz1, lk, dep_int, dep_bool, dep_list, dep_sk, dep_sp, memAt, bel_map, bel_mapF, bel_mapO, bel_undef, bel_int, bel_boolv, bel_nilp, bel_nilf, bel_ptr, bel_arr, bel_mp, bel_yld, bel_agg, bel_tup, bel_ref, bel_only, bel_mpr, bel_fn, bel_sl_nil, bel_sl_nilF, bel_sl_nilO, bel_sl_cons, bel_sl_app, belO_cells, belO_tok, belO_dead, belO_deferred, belO_map, belO_iter, belO_loop, bel_vec, bel_vp, belO_vecM, belO_vec, belO_mapI, -List.map_map])
            simp (maxSteps := 4000000) only [go_sem, AV.one, drawV, intsOf, keyIdx, over, putO, memAt, List.map_cons, List.length_cons, ↓reduceIte, zdrop, one_i, one_b, one_sl, one_ptr, one_ref, one_nilp, one_mp, one_fn, one_nilf, hi']
            all_goals (repeat' (first | with_reducible rfl | with_reducible apply And.intro | ((with_reducible show drawOK _ _ = true); rfl))) <;> (try first | omega | (simp only [InR]; omega) | with_reducible assumption)
            refine ⟨_, callX_of_callM hc1, ?_⟩
            rintro r mem' ⟨r0, rfl, ⟨rfl, ks2, vs2, hM2, rfl⟩, hlen⟩ _
            have hc2 := part_call (mem := [.cells [.sl (s.stacks.map EncE.cs) .no, .int .i64 s.hands, .int .i64 s.rain.lo, .int .i64 s.rain.hi], .cells [.sl (s.stacks.map EncE.cs) .no, .int .i64 s.hands, .int .i64 s.rain.lo, .int .i64 s.rain.hi], .map ks2 (vs2.map (AV.int .i64)), .cells [.sl (s.stacks.map EncE.cs) .no, .int .i64 s.hands, .int .i64 s.rain.lo, .int .i64 s.rain.hi, .mp 2], .vec (CR.map EncE.cs) 1 (n + 1), .tok j 2]) (a := 3) (m := 2) s hs ks2 vs2 hM2 x (leastS s x i) ⟨hx, by omega, by omega⟩ rfl rfl (by simp [AV.bare, bel_ints, cs_arr, dep_arr, cs_int, cs_bool, cs_list, cs_sk, cs_sp, AtHead, Same, AllO, Begins, LtAll, headSt, tokz_nil, tokz_cons, tokz1, lk, dep_int, dep_bool, dep_list, dep_sk, dep_sp, memAt, bel_map, bel_mapF, bel_mapO, bel_undef, bel_int, bel_boolv, bel_nilp, bel_nilf, bel_ptr, bel_arr, bel_mp, bel_yld, bel_agg, bel_tup, bel_ref, bel_only, bel_mpr, bel_fn, bel_sl_nil, bel_sl_nilF, bel_sl_nilO, bel_sl_cons, bel_sl_app, belO_cells, belO_tok, belO_dead, belO_deferred, belO_map, belO_iter, belO_loop, bel_vec, bel_vp, belO_vecM, belO_vec, belO_mapI, -List.map_map])
            simp (maxSteps := 4000000) only [go_sem, AV.one, drawV, intsOf, keyIdx, over, putO, memAt, List.map_cons, List.length_cons, ↓reduceIte, zdrop, one_i, one_b, one_sl, one_ptr, one_ref, one_nilp, one_mp, one_fn, one_nilf]
            all_goals (repeat' (first | with_reducible rfl | with_reducible apply And.intro | ((with_reducible show drawOK _ _ = true); rfl))) <;> (try first | omega | (simp only [InR]; omega) | with_reducible assumption)
            refine ⟨_, callX_of_callM hc2, ?_⟩
            rintro r mem' ⟨r0, rfl, ⟨rfl, ks3, vs3, hM3, rfl⟩, hlen⟩ _
            cases c1 : decide (partS s x (i : Int) < partS s x (leastS s x i))
            · rw [if_neg (by simpa using c1)] at hls
              simp (maxSteps := 4000000) only [go_sem, AV.one, drawV, intsOf, keyIdx, over, putO, memAt, List.map_cons, List.length_cons, ↓reduceIte, zdrop, one_i, one_b, one_sl, one_ptr, one_ref, one_nilp, one_mp, one_fn, one_nilf, c1]
              all_goals (repeat' (first | with_reducible rfl | with_reducible apply And.intro | ((with_reducible show drawOK _ _ = true); rfl))) <;> (try first | omega | (simp only [InR]; omega) | with_reducible assumption)
              refine ⟨(i + 1, ks3, vs3), ⟨by dsimp only; omega, hM3⟩, by dsimp only; omega, atHead_weak ?_⟩
              simp [AV.bare, bel_ints, cs_arr, dep_arr, cs_int, cs_bool, cs_list, cs_sk, cs_sp, AtHead, Same, AllO, Begins, LtAll, headSt, tokz_nil, tokz_cons, tokz1, lk, dep_int, dep_bool, dep_list, dep_sk, dep_sp, memAt, bel_map, bel_mapF, bel_mapO, bel_undef, bel_int, bel_boolv, bel_nilp, bel_nilf, bel_ptr, bel_arr, bel_mp, bel_yld, bel_agg, bel_tup, bel_ref, bel_only, bel_mpr, bel_fn, bel_sl_nil, bel_sl_nilF, bel_sl_nilO, bel_sl_cons, bel_sl_app, belO_cells, belO_tok, belO_dead, belO_deferred, belO_map, belO_iter, belO_loop, bel_vec, bel_vp, belO_vecM, belO_vec, hls, belO_mapI, -List.map_map]
            · rw [if_pos (by simpa using c1)] at hls
              simp (maxSteps := 4000000) only [go_sem, AV.one, drawV, intsOf, keyIdx, over, putO, memAt, List.map_cons, List.length_cons, ↓reduceIte, zdrop, one_i, one_b, one_sl, one_ptr, one_ref, one_nilp, one_mp, one_fn, one_nilf, c1]
              all_goals (repeat' (first | with_reducible rfl | with_reducible apply And.intro | ((with_reducible show drawOK _ _ = true); rfl))) <;> (try first | omega | (simp only [InR]; omega) | with_reducible assumption)
              refine ⟨(i + 1, ks3, vs3), ⟨by dsimp only; omega, hM3⟩, by dsimp only; omega, atHead_weak ?_⟩
              simp [AV.bare, bel_ints, cs_arr, dep_arr, cs_int, cs_bool, cs_list, cs_sk, cs_sp, AtHead, Same, AllO, Begins, LtAll, headSt, tokz_nil, tokz_cons, tokz1, lk, dep_int, dep_bool, dep_list, dep_sk, dep_sp, memAt, bel_map, bel_mapF, bel_mapO, bel_undef, bel_int, bel_boolv, bel_nilp, bel_nilf, bel_ptr, bel_arr, bel_mp, bel_yld, bel_agg, bel_tup, bel_ref, bel_only, bel_mpr, bel_fn, bel_sl_nil, bel_sl_nilF, bel_sl_nilO, bel_sl_cons, bel_sl_app, belO_cells, belO_tok, belO_dead, belO_deferred, belO_map, belO_iter, belO_loop, bel_vec, bel_vp, belO_vecM, belO_vec, hls, belO_mapI, -List.map_map]
          · have hie : i = 19 := by omega
            subst hie
            have hst : stepS s x = ⟨x, leastS s x 19⟩ := rfl
            simp (maxSteps := 4000000) only [go_sem, AV.one, drawV, intsOf, keyIdx, over, putO, memAt, List.map_cons, List.length_cons, ↓reduceIte, zdrop, one_i, one_b, one_sl, one_ptr, one_ref, one_nilp, one_mp, one_fn, one_nilf, show ¬ (((19 : Nat) : Int) < 19) by decide, htl]
            all_goals (repeat' (first | with_reducible rfl | with_reducible apply And.intro | ((with_reducible show drawOK _ _ = true); rfl))) <;> (try first | omega | (simp only [InR]; omega) | with_reducible assumption)
            refine ⟨(j + 1, ks1, vs1), ⟨by dsimp only; omega, hM1⟩, by dsimp only; omega, atHead_weak ?_⟩
            have e : Pj.map EncE.cs ++ [[AV.int .i64 x, AV.int .i64 (leastS s x 19)]] = Pj1.map EncE.cs := by rw [hPj, List.map_append]; rfl
            simp only [e]
            simp [AV.bare, bel_ints, cs_arr, dep_arr, cs_int, cs_bool, cs_list, cs_sk, cs_sp, AtHead, Same, AllO, Begins, LtAll, headSt, tokz_nil, tokz_cons, tokz1, lk, dep_int, dep_bool, dep_list, dep_sk, dep_sp, memAt, bel_map, bel_mapF, bel_mapO, bel_undef, bel_int, bel_boolv, bel_nilp, bel_nilf, bel_ptr, bel_arr, bel_mp, bel_yld, bel_agg, bel_tup, bel_ref, bel_only, bel_mpr, bel_fn, bel_sl_nil, bel_sl_nilF, bel_sl_nilO, bel_sl_cons, bel_sl_app, belO_cells, belO_tok, belO_dead, belO_deferred, belO_map, belO_iter, belO_loop, bel_vec, bel_vp, belO_vecM, belO_vec, hPj1, hCR, belO_mapI, -List.map_map, -List.map_append]
      · have hje : j = C.length := by omega
        subst hje
        rw [show P.take C.length = P by rw [← hPl, List.take_length]]
        have hspo : SpsOk P := by
          unfold proofB at hsp
          simp only [Bool.and_eq_true, decide_eq_true_eq, List.all_eq_true] at hsp
          exact ⟨fun e => by rw [e] at hsp; simp at hsp, by omega, hsp.1.2⟩
        obtain ⟨CR, hCR⟩ : ∃ CR, C ++ R = CR := ⟨_, rfl⟩
        rw [hCR]
        have hb := bound_call (mem := [.cells [.sl (s.stacks.map EncE.cs) .no, .int .i64 s.hands, .int .i64 s.rain.lo, .int .i64 s.rain.hi], .cells [.sl (s.stacks.map EncE.cs) .no, .int .i64 s.hands, .int .i64 s.rain.lo, .int .i64 s.rain.hi], .map ks (vs.map (AV.int .i64)), .cells [.sl (s.stacks.map EncE.cs) .no, .int .i64 s.hands, .int .i64 s.rain.lo, .int .i64 s.rain.hi, .mp 2], .vec (CR.map EncE.cs) 1 (n + 1), .tok C.length 2]) (a := 3) (m := 2) s hs ks vs hM P hspo rfl rfl (by simp [AV.bare, bel_ints, cs_arr, dep_arr, cs_int, cs_bool, cs_list, cs_sk, cs_sp, AtHead, Same, AllO, Begins, LtAll, headSt, tokz_nil, tokz_cons, tokz1, lk, dep_int, dep_bool, dep_list, dep_sk, dep_sp, memAt, bel_map, bel_mapF, bel_mapO, bel_undef, bel_int, bel_boolv, bel_nilp, bel_nilf, bel_ptr, bel_arr, bel_mp, bel_yld, bel_agg, bel_tup, bel_ref, bel_only, bel_mpr, bel_fn, bel_sl_nil, bel_sl_nilF, bel_sl_nilO, bel_sl_cons, bel_sl_app, belO_cells, belO_tok, belO_dead, belO_deferred, belO_map, belO_iter, belO_loop, bel_vec, bel_vp, belO_vecM, belO_vec, belO_mapI, -List.map_map])
        simp (maxSteps := 4000000) only [go_sem, AV.one, drawV, intsOf, keyIdx, over, putO, memAt, List.map_cons, List.length_cons, ↓reduceIte, zdrop, one_i, one_b, one_sl, one_ptr, one_ref, one_nilp, one_mp, one_fn, one_nilf, Int.lt_irrefl]
        all_goals (repeat' (first | with_reducible rfl | with_reducible apply And.intro | ((with_reducible show drawOK _ _ = true); rfl))) <;> (try first | omega | (simp only [InR]; omega) | with_reducible assumption)
        refine ⟨_, callX_strip (callX_of_callM hb), ?_⟩
        rintro r mem' ⟨r0, rfl, ⟨rfl, ks3, vs3, hM3, rfl⟩, hlen⟩ _
        rw [hsb]
        simp (maxSteps := 4000000) only [go_sem, AV.one, drawV, intsOf, keyIdx, over, putO, memAt, List.map_cons, List.length_cons, ↓reduceIte, zdrop, one_i, one_b, one_sl, one_ptr, one_ref, one_nilp, one_mp, one_fn, one_nilf]
        all_goals (repeat' (first | with_reducible rfl | with_reducible apply And.intro | ((with_reducible show drawOK _ _ = true); rfl))) <;> (try first | omega | (simp only [InR]; omega) | with_reducible assumption)
end Go.Proofs
