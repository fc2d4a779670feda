/- The texts S27, S28, S29, joined. -/
import Derived.Test.YtcbicheohgdlmaaGreatG12
set_option linter.all false
namespace Go.Proofs
open Go.Fs
set_option linter.unusedSimpArgs false
set_option linter.unusedVariables false
set_option maxHeartbeats 4000000
set_option maxRecDepth 8000
def savP (c w : Int) : Bool := decide (0 ≤ c) && decide (c < w)
def verdictR (s : Sh) (plan : List Int) (i : Int) : Int :=
  if (waterL s i.toNat).countP (savP (at_ plan i.toNat)) = (waterL s i.toNat).length then 1 else if (waterL s i.toNat).countP (savP (at_ plan i.toNat)) = 0 then 2 else 3
theorem leakL_len (r : Rg) (rain : Int) (n : Nat) : (leakL r rain n).length = n := by simp [leakL]
theorem waterN_len (r : Rg) (lo : Int) : ∀ m, (waterN r lo m).length = m * szR r
  | 0 => by simp [waterN]
  | m + 1 => by rw [waterN_succ, List.length_append, leakL_len, waterN_len r lo m, Nat.add_mul, Nat.one_mul]
theorem Total_call (s : Sh) (hs : ShOk s) : CallP Tryz.prog 66 [Enc.enc s] (· = Enc.enc (totalS s)) := by
  have h8 := hs.len
  unfold totalS
  simp only [enc_fnl, enc_fnb, enc_fnc, enc_refc, enc_arr, enc_int, enc_bool, enc_list, enc_sk, enc_sp, enc_rg, enc_sh, enc_tr, enc_refs, enc_fns, enc_wks]
  refine callP_of_vc (Φ := P45) Tryz.func66 rfl (by rfl) (by rw [Tryz.ntmps66]; simp) mixed P45_ok (by simp [AV.strip, AV.strip1, Tk.strip]) ?_
  rw [Tryz.ntmps66]
  simp only [Tryz.f66, startSt, tmFrom]
  simp (maxSteps := 4000000) only [go_sem, AV.one, drawV, intsOf, keyIdx, over, putO, memAt, List.map_cons, List.length_cons, ↓reduceIte, zdrop, one_i, one_b, one_sl, one_ptr, one_ref, one_nilp, one_mp, one_fn, one_nilf]
  refine loopN (s.stacks.length) [] [1, 2] (fun i => [(4, .int .i64 i), (3, .int .i64 (wsum i (fun i => chS s i) (fun _ => true)))]) (fun _ m => m) (fun _ => True) ?_ ?_ ?_ ?_
  · trivial
  · simp [AV.bare, bel_ints, cs_arr, dep_arr, cs_int, cs_bool, cs_list, cs_sk, cs_sp, AtHead, Same, AllO, Begins, LtAll, headSt, tokz_nil, tokz_cons, tokz1, lk, dep_int, dep_bool, dep_list, dep_sk, dep_sp, memAt, bel_map, bel_mapF, bel_mapO, bel_undef, bel_int, bel_boolv, bel_nilp, bel_nilf, bel_ptr, bel_arr, bel_mp, bel_yld, bel_agg, bel_tup, bel_ref, bel_only, bel_mpr, bel_fn, bel_sl_nil, bel_sl_nilF, bel_sl_nilO, bel_sl_cons, bel_sl_app, belO_cells, belO_tok, belO_dead, belO_deferred, belO_map, belO_iter, belO_loop, bel_vec, bel_vp, belO_vecM, belO_vec, wsum, -List.map_map]
  · intro i hi _
    have hi' := Int.ofNat_lt.2 hi
    have hch := hs.ch hi
    rw [ch_at] at hch
    have hb := wsum_bd (n := i) (f := fun i => chS s i) (m := 99) (fun _ => true) (by omega) (fun j hj => hs.ch (by omega))
    simp (maxSteps := 4000000) only [go_sem, AV.one, drawV, intsOf, keyIdx, over, putO, memAt, List.map_cons, List.length_cons, ↓reduceIte, zdrop, one_i, one_b, one_sl, one_ptr, one_ref, one_nilp, one_mp, one_fn, one_nilf, getD_mapA hi, hi']
    all_goals (repeat' (first | with_reducible rfl | with_reducible apply And.intro | ((with_reducible show drawOK _ _ = true); rfl))) <;> (try first | omega | (simp only [InR]; omega) | with_reducible assumption)
    refine nxt hi trivial ?_
    simp [AV.bare, bel_ints, cs_arr, dep_arr, cs_int, cs_bool, cs_list, cs_sk, cs_sp, AtHead, Same, AllO, Begins, LtAll, headSt, tokz_nil, tokz_cons, tokz1, lk, dep_int, dep_bool, dep_list, dep_sk, dep_sp, memAt, bel_map, bel_mapF, bel_mapO, bel_undef, bel_int, bel_boolv, bel_nilp, bel_nilf, bel_ptr, bel_arr, bel_mp, bel_yld, bel_agg, bel_tup, bel_ref, bel_only, bel_mpr, bel_fn, bel_sl_nil, bel_sl_nilF, bel_sl_nilO, bel_sl_cons, bel_sl_app, belO_cells, belO_tok, belO_dead, belO_deferred, belO_map, belO_iter, belO_loop, bel_vec, bel_vp, belO_vecM, belO_vec, wsum, ch_at, -List.map_map]
  · intro _
    simp (maxSteps := 4000000) only [go_sem, AV.one, drawV, intsOf, keyIdx, over, putO, memAt, List.map_cons, List.length_cons, ↓reduceIte, zdrop, one_i, one_b, one_sl, one_ptr, one_ref, one_nilp, one_mp, one_fn, one_nilf, Int.lt_irrefl]
def sumAt (s : Sh) (plan : List Int) (rain : Int) : Int := wsum plan.length (fun i => chS s i) (fun i => savP (at_ plan i) (rain + (at_ s.stacks i).leak.lo))
def leastR (s : Sh) (plan : List Int) : Nat → Int
  | 0 => 1099511627776
  | j + 1 => min (leastR s plan j) (sumAt s plan (s.rain.lo + j))
def P46 : Specs := addSpec 66 (spec1 (fun s : Sh => ShOk s) totalS) (P45)
theorem P46_app (g : FuncId) : P46 g = (addSpec 66 (spec1 (fun s : Sh => ShOk s) totalS) (P45)) g := rfl
theorem P46_ok : SpecsOk Tryz.prog P46 := addSpec_ok (spec1_ok Total_call) (P45_ok)
attribute [go_sem] P46_app
theorem P46_flag (d : Option Nat) : flagOf P46 d = none := (flagOf_add (by decide) d).trans (P45_flag d)
attribute [go_sem] P46_flag
end Go.Proofs
namespace Go.Proofs
open Go.Fs
set_option linter.unusedSimpArgs false
set_option linter.unusedVariables false
set_option maxHeartbeats 4000000
set_option maxRecDepth 8000
def bitF (b : Nat) (i : Nat) : Bool := decide (b / 2 ^ i % 2 = 1)
theorem bitF_ex (p : Nat → Bool) : ∀ n, ∃ b, b < 2 ^ n ∧ ∀ i, i < n → bitF b i = p i
  | 0 => ⟨0, by simp, fun i hi => by omega⟩
  | n + 1 => by
    obtain ⟨b, hb, h⟩ := bitF_ex p n
    have h2 : 2 ^ (n + 1) = 2 ^ n + 2 ^ n := by rw [Nat.pow_succ]; omega
    cases hp : p n
    · refine ⟨b, by omega, fun i hi => ?_⟩
      by_cases e : i = n
      · subst e
        rw [hp]
        simp [bitF, Nat.div_eq_of_lt hb]
      · exact h i (by omega)
    · refine ⟨b + 2 ^ n, by omega, fun i hi => ?_⟩
      by_cases e : i = n
      · subst e
        rw [hp]
        have : (b + 2 ^ i) / 2 ^ i = 1 := by rw [Nat.add_div_right _ (Nat.two_pow_pos i), Nat.div_eq_of_lt hb]
        simp [bitF, this]
      · rw [← h i (by omega)]
        have hin : i < n := by omega
        have e1 : 2 ^ n = 2 ^ i * (2 * 2 ^ (n - i - 1)) := by
          rw [← Nat.pow_succ', ← Nat.pow_add]
          congr 1; omega
        unfold bitF
        rw [e1, Nat.add_mul_div_left _ _ (Nat.two_pow_pos i)]
        simp only [decide_eq_decide]
        omega
def manyB (s : Sh) (b : Nat) (h : Nat) : Int := cnt s.stacks.length (fun i => bitF b i && decide (spS s i ≤ (h : Int)))
def fitsR (s : Sh) (b : Nat) : Nat → Bool
  | 0 => true
  | h + 1 => fitsR s b h && decide (manyB s b h ≤ s.hands * h)
def sumB (s : Sh) (b : Nat) : Int := wsum s.stacks.length (fun i => chS s i) (bitF b)
def mostR (s : Sh) : Nat → Int
  | 0 => 0
  | b + 1 => if fitsR s b 19 = true then max (mostR s b) (sumB s b) else mostR s b
theorem fitsR_iff (s : Sh) (b : Nat) : ∀ h, fitsR s b h = true ↔ ∀ k, k < h → manyB s b k ≤ s.hands * k
  | 0 => by simp [fitsR]
  | h + 1 => by
    unfold fitsR
    rw [Bool.and_eq_true, fitsR_iff s b h, decide_eq_true_eq]
    constructor
    · rintro ⟨h1, h2⟩ k hk
      by_cases e : k = h
      · subst e; exact h2
      · exact h1 k (by omega)
    · intro h1
      exact ⟨fun k hk => h1 k (by omega), h1 h (by omega)⟩
theorem mostR_most {s : Sh} (hs : ShOk s) : mostR s (2 ^ s.stacks.length) = mostS s := by
  have hfe : ∀ b, fitsR s b 19 = true ↔ FeasS s (bitF b) := fun b => by
    rw [fitsR_iff]
    unfold FeasS Feas manyB
    constructor
    · intro h k hk; exact h k (by omega)
    · intro h k hk; exact h k (by omega)
  have hup : ∀ N, mostR s N ≤ mostS s := by
    intro N
    induction N with
    | zero => exact most_nonneg hs
    | succ b ih =>
      unfold mostR
      split
      · rename_i hf
        have := feas_le hs ((hfe b).1 hf)
        have e : weightS s (bitF b) = sumB s b := rfl
        omega
      · exact ih
  have hmono : ∀ N k, mostR s N ≤ mostR s (N + k) := by
    intro N k
    induction k with
    | zero => exact Int.le_refl _
    | succ k ih =>
      have e : mostR s (N + (k + 1)) = if fitsR s (N + k) 19 = true then max (mostR s (N + k)) (sumB s (N + k)) else mostR s (N + k) := rfl
      rw [e]
      split <;> omega
  refine Int.le_antisymm (hup _) ?_
  obtain ⟨_, _, hF, _⟩ := kept_spec hs
  obtain ⟨b, hb, hbi⟩ := bitF_ex (memB (keptS s)) s.stacks.length
  have hFb : FeasS s (bitF b) := Feas.sub hF fun i hi hq => by rw [← hbi i hi]; exact hq
  have hw : sumB s b = mostS s := by
    unfold sumB mostS weightS
    exact wsum_congr (fun i hi => hbi i hi) fun _ _ _ => rfl
  have h1 : mostS s ≤ mostR s (b + 1) := by
    unfold mostR
    rw [if_pos ((hfe b).2 hFb)]
    omega
  have h2 := hmono (b + 1) (2 ^ s.stacks.length - (b + 1))
  rw [show b + 1 + (2 ^ s.stacks.length - (b + 1)) = 2 ^ s.stacks.length by omega] at h2
  omega
theorem mostR_bd {s : Sh} (hs : ShOk s) : ∀ N, 0 ≤ mostR s N ∧ mostR s N ≤ 8 * 99
  | 0 => by simp [mostR]
  | b + 1 => by
    have h1 := mostR_bd hs b
    have h2 := wsum_bd (n := s.stacks.length) (f := fun i => chS s i) (m := 99) (bitF b) (by omega) (fun i hi => hs.ch hi)
    have h8 := hs.len
    have e : sumB s b = wsum s.stacks.length (fun i => chS s i) (bitF b) := rfl
    unfold mostR
    split <;> omega
theorem bit_int (b i : Nat) : decide (((b : Int) / 2 ^ ((i : Int)).toNat) % 2 = 1) = bitF b i := by
  unfold bitF
  rw [Int.toNat_natCast, decide_eq_decide]
  have e : (b : Int) / 2 ^ i % 2 = ((b / 2 ^ i % 2 : Nat) : Int) := by simp
  rw [e]
  omega
theorem Most_call (s : Sh) (hs : ShOk s) : CallP Tryz.prog 16 [Enc.enc s] (· = Enc.enc (mostS s)) := by
  rw [← mostR_most hs]
  have h8 := hs.len
  have hh0 := hs.h0
  have hh3 := hs.h3
  obtain ⟨n, hn⟩ : ∃ n, s.stacks.length = n := ⟨_, rfl⟩
  rw [hn] at h8
  rw [hn]
  have hp8 : 2 ^ n ≤ 2 ^ 8 := Nat.pow_le_pow_right (by omega) h8
  have hpw : (1 : Int) * 2 ^ n = ((2 ^ n : Nat) : Int) := by simp
  have hpb : ((2 ^ n : Nat) : Int) ≤ 256 := by have : 2 ^ n ≤ 256 := hp8; omega
  obtain ⟨N, hN⟩ : ∃ N, 2 ^ n = N := ⟨_, rfl⟩
  rw [hN] at hpw hpb
  rw [hN]
  simp only [enc_fnl, enc_fnb, enc_fnc, enc_refc, enc_arr, enc_int, enc_bool, enc_list, enc_sk, enc_sp, enc_rg, enc_sh, enc_tr, enc_refs, enc_fns, enc_wks]
  refine callP_of_vc (Φ := P46) Tryz.func16 rfl (by rfl) (by rw [Tryz.ntmps16]; simp) mixed P46_ok (by simp [AV.strip, AV.strip1, Tk.strip]) ?_
  rw [Tryz.ntmps16]
  simp only [Tryz.f16, startSt, tmFrom]
  simp (maxSteps := 4000000) only [go_sem, AV.one, drawV, intsOf, keyIdx, over, putO, memAt, List.map_cons, List.length_cons, ↓reduceIte, zdrop, one_i, one_b, one_sl, one_ptr, one_ref, one_nilp, one_mp, one_fn, one_nilf, hn]
  all_goals (repeat' (first | with_reducible rfl | with_reducible apply And.intro | ((with_reducible show drawOK _ _ = true); rfl))) <;> (try first | omega | (simp only [InR]; omega) | with_reducible assumption)
  refine loopN (N) [] [1, 2] (fun b => [(4, .int .i64 b), (3, .int .i64 (mostR s b))]) (fun _ m => m) (fun _ => True) ?_ ?_ ?_ ?_
  · trivial
  · simp [AV.bare, bel_ints, cs_arr, dep_arr, cs_int, cs_bool, cs_list, cs_sk, cs_sp, AtHead, Same, AllO, Begins, LtAll, headSt, tokz_nil, tokz_cons, tokz1, lk, dep_int, dep_bool, dep_list, dep_sk, dep_sp, memAt, bel_map, bel_mapF, bel_mapO, bel_undef, bel_int, bel_boolv, bel_nilp, bel_nilf, bel_ptr, bel_arr, bel_mp, bel_yld, bel_agg, bel_tup, bel_ref, bel_only, bel_mpr, bel_fn, bel_sl_nil, bel_sl_nilF, bel_sl_nilO, bel_sl_cons, bel_sl_app, belO_cells, belO_tok, belO_dead, belO_deferred, belO_map, belO_iter, belO_loop, bel_vec, bel_vp, belO_vecM, belO_vec, mostR, -List.map_map]
  · intro b hb _
    have hb' := Int.ofNat_lt.2 hb
    have hmb := mostR_bd hs b
    simp (maxSteps := 4000000) only [go_sem, AV.one, drawV, intsOf, keyIdx, over, putO, memAt, List.map_cons, List.length_cons, ↓reduceIte, zdrop, one_i, one_b, one_sl, one_ptr, one_ref, one_nilp, one_mp, one_fn, one_nilf, hn, hpw, hb']
    all_goals (repeat' (first | with_reducible rfl | with_reducible apply And.intro | ((with_reducible show drawOK _ _ = true); rfl))) <;> (try first | omega | (simp only [InR]; omega) | with_reducible assumption)
    refine loopN (19) [] [1, 2, 3, 4, 6, 11, 12, 13, 14, 15, 16] (fun h => [(7, .int .i64 h), (5, .bool (fitsR s b h))]) (fun _ m => m) (fun _ => True) ?_ ?_ ?_ ?_
    · trivial
    · simp [AV.bare, bel_ints, cs_arr, dep_arr, cs_int, cs_bool, cs_list, cs_sk, cs_sp, AtHead, Same, AllO, Begins, LtAll, headSt, tokz_nil, tokz_cons, tokz1, lk, dep_int, dep_bool, dep_list, dep_sk, dep_sp, memAt, bel_map, bel_mapF, bel_mapO, bel_undef, bel_int, bel_boolv, bel_nilp, bel_nilf, bel_ptr, bel_arr, bel_mp, bel_yld, bel_agg, bel_tup, bel_ref, bel_only, bel_mpr, bel_fn, bel_sl_nil, bel_sl_nilF, bel_sl_nilO, bel_sl_cons, bel_sl_app, belO_cells, belO_tok, belO_dead, belO_deferred, belO_map, belO_iter, belO_loop, bel_vec, bel_vp, belO_vecM, belO_vec, fitsR, -List.map_map]
    · intro h hh _
      have hh' : (h : Int) ≤ 18 := by omega
      have hmul : 0 ≤ s.hands * (h : Int) ∧ s.hands * (h : Int) ≤ 3 * 18 := ⟨Int.mul_nonneg hh0 (by omega), Int.mul_le_mul hh3 hh' (by omega) (by omega)⟩
      simp (maxSteps := 4000000) only [go_sem, AV.one, drawV, intsOf, keyIdx, over, putO, memAt, List.map_cons, List.length_cons, ↓reduceIte, zdrop, one_i, one_b, one_sl, one_ptr, one_ref, one_nilp, one_mp, one_fn, one_nilf, hn, hh']
      all_goals (repeat' (first | with_reducible rfl | with_reducible apply And.intro | ((with_reducible show drawOK _ _ = true); rfl))) <;> (try first | omega | (simp only [InR]; omega) | with_reducible assumption)
      refine loopN (n) [] [1, 2, 3, 4, 5, 6, 7, 11, 12, 13, 14, 15, 16, 20] (fun i => [(9, .int .i64 i), (8, .int .i64 (cnt i (fun i => bitF b i && decide (spS s i ≤ (h : Int)))))]) (fun _ m => m) (fun _ => True) ?_ ?_ ?_ ?_
      · trivial
      · simp [AV.bare, bel_ints, cs_arr, dep_arr, cs_int, cs_bool, cs_list, cs_sk, cs_sp, AtHead, Same, AllO, Begins, LtAll, headSt, tokz_nil, tokz_cons, tokz1, lk, dep_int, dep_bool, dep_list, dep_sk, dep_sp, memAt, bel_map, bel_mapF, bel_mapO, bel_undef, bel_int, bel_boolv, bel_nilp, bel_nilf, bel_ptr, bel_arr, bel_mp, bel_yld, bel_agg, bel_tup, bel_ref, bel_only, bel_mpr, bel_fn, bel_sl_nil, bel_sl_nilF, bel_sl_nilO, bel_sl_cons, bel_sl_app, belO_cells, belO_tok, belO_dead, belO_deferred, belO_map, belO_iter, belO_loop, bel_vec, bel_vp, belO_vecM, belO_vec, cnt, -List.map_map]
      · intro i hi _
        have hi' := Int.ofNat_lt.2 hi
        have hi2 : i < s.stacks.length := by omega
        have hsp := hs.sp hi2
        have hbi := bit_int b i
        rw [Int.toNat_natCast] at hbi
        have hb0 : 0 ≤ (b : Int) / 2 ^ i := Int.ediv_nonneg (by omega) (by simp [Int.pow_nonneg])
        have hb1 : (b : Int) / 2 ^ i ≤ b := Int.ediv_le_self _ (by omega)
        have hc0 := cnt_nonneg i (fun i => bitF b i && decide (spS s i ≤ (h : Int)))
        have hc1 := cnt_le i (fun i => bitF b i && decide (spS s i ≤ (h : Int)))
        have hcs : cnt (i + 1) (fun i => bitF b i && decide (spS s i ≤ (h : Int))) = cnt i (fun i => bitF b i && decide (spS s i ≤ (h : Int))) + if (bitF b i && decide (spS s i ≤ (h : Int))) = true then 1 else 0 := rfl
        cases c1 : bitF b i
        · rw [c1] at hbi
          rw [c1, Bool.false_and, if_neg (by simp), Int.add_zero] at hcs
          simp (maxSteps := 4000000) only [go_sem, AV.one, drawV, intsOf, keyIdx, over, putO, memAt, List.map_cons, List.length_cons, ↓reduceIte, zdrop, one_i, one_b, one_sl, one_ptr, one_ref, one_nilp, one_mp, one_fn, one_nilf, hn, hi', hbi]
          all_goals (repeat' (first | with_reducible rfl | with_reducible apply And.intro | ((with_reducible show drawOK _ _ = true); rfl))) <;> (try first | omega | (simp only [InR]; omega) | with_reducible assumption)
          refine nxt hi trivial ?_
          simp [AV.bare, bel_ints, cs_arr, dep_arr, cs_int, cs_bool, cs_list, cs_sk, cs_sp, AtHead, Same, AllO, Begins, LtAll, headSt, tokz_nil, tokz_cons, tokz1, lk, dep_int, dep_bool, dep_list, dep_sk, dep_sp, memAt, bel_map, bel_mapF, bel_mapO, bel_undef, bel_int, bel_boolv, bel_nilp, bel_nilf, bel_ptr, bel_arr, bel_mp, bel_yld, bel_agg, bel_tup, bel_ref, bel_only, bel_mpr, bel_fn, bel_sl_nil, bel_sl_nilF, bel_sl_nilO, bel_sl_cons, bel_sl_app, belO_cells, belO_tok, belO_dead, belO_deferred, belO_map, belO_iter, belO_loop, bel_vec, bel_vp, belO_vecM, belO_vec, hcs, -List.map_map]
        · rw [c1] at hbi
          cases c2 : decide (spS s i ≤ (h : Int))
          · rw [c1, c2, if_neg (by simp), Int.add_zero] at hcs
            simp (maxSteps := 4000000) only [go_sem, AV.one, drawV, intsOf, keyIdx, over, putO, memAt, List.map_cons, List.length_cons, ↓reduceIte, zdrop, one_i, one_b, one_sl, one_ptr, one_ref, one_nilp, one_mp, one_fn, one_nilf, hn, hi', hbi, c2]
            all_goals (repeat' (first | with_reducible rfl | with_reducible apply And.intro | ((with_reducible show drawOK _ _ = true); rfl))) <;> (try first | omega | (simp only [InR]; omega) | with_reducible assumption)
            refine nxt hi trivial ?_
            simp [AV.bare, bel_ints, cs_arr, dep_arr, cs_int, cs_bool, cs_list, cs_sk, cs_sp, AtHead, Same, AllO, Begins, LtAll, headSt, tokz_nil, tokz_cons, tokz1, lk, dep_int, dep_bool, dep_list, dep_sk, dep_sp, memAt, bel_map, bel_mapF, bel_mapO, bel_undef, bel_int, bel_boolv, bel_nilp, bel_nilf, bel_ptr, bel_arr, bel_mp, bel_yld, bel_agg, bel_tup, bel_ref, bel_only, bel_mpr, bel_fn, bel_sl_nil, bel_sl_nilF, bel_sl_nilO, bel_sl_cons, bel_sl_app, belO_cells, belO_tok, belO_dead, belO_deferred, belO_map, belO_iter, belO_loop, bel_vec, bel_vp, belO_vecM, belO_vec, hcs, -List.map_map]
          · rw [c1, c2, Bool.true_and, if_pos rfl] at hcs
            simp (maxSteps := 4000000) only [go_sem, AV.one, drawV, intsOf, keyIdx, over, putO, memAt, List.map_cons, List.length_cons, ↓reduceIte, zdrop, one_i, one_b, one_sl, one_ptr, one_ref, one_nilp, one_mp, one_fn, one_nilf, hn, hi', hbi, c2]
            all_goals (repeat' (first | with_reducible rfl | with_reducible apply And.intro | ((with_reducible show drawOK _ _ = true); rfl))) <;> (try first | omega | (simp only [InR]; omega) | with_reducible assumption)
            refine nxt hi trivial ?_
            simp [AV.bare, bel_ints, cs_arr, dep_arr, cs_int, cs_bool, cs_list, cs_sk, cs_sp, AtHead, Same, AllO, Begins, LtAll, headSt, tokz_nil, tokz_cons, tokz1, lk, dep_int, dep_bool, dep_list, dep_sk, dep_sp, memAt, bel_map, bel_mapF, bel_mapO, bel_undef, bel_int, bel_boolv, bel_nilp, bel_nilf, bel_ptr, bel_arr, bel_mp, bel_yld, bel_agg, bel_tup, bel_ref, bel_only, bel_mpr, bel_fn, bel_sl_nil, bel_sl_nilF, bel_sl_nilO, bel_sl_cons, bel_sl_app, belO_cells, belO_tok, belO_dead, belO_deferred, belO_map, belO_iter, belO_loop, bel_vec, bel_vp, belO_vecM, belO_vec, hcs, -List.map_map]
      · intro _
        have hme : cnt n (fun i => bitF b i && decide (spS s i ≤ (h : Int))) = manyB s b h := by unfold manyB; rw [hn]
        have hmb0 := cnt_nonneg s.stacks.length (fun i => bitF b i && decide (spS s i ≤ (h : Int)))
        have hfs : fitsR s b (h + 1) = (fitsR s b h && decide (manyB s b h ≤ s.hands * h)) := rfl
        rw [hme]
        cases c1 : fitsR s b h
        all_goals
          rw [c1] at hfs
          simp (maxSteps := 4000000) only [go_sem, AV.one, drawV, intsOf, keyIdx, over, putO, memAt, List.map_cons, List.length_cons, ↓reduceIte, zdrop, one_i, one_b, one_sl, one_ptr, one_ref, one_nilp, one_mp, one_fn, one_nilf, hn, Int.lt_irrefl]
          all_goals (repeat' (first | with_reducible rfl | with_reducible apply And.intro | ((with_reducible show drawOK _ _ = true); rfl))) <;> (try first | omega | (simp only [InR]; omega) | with_reducible assumption)
          refine nxt hh trivial ?_
          simp [AV.bare, bel_ints, cs_arr, dep_arr, cs_int, cs_bool, cs_list, cs_sk, cs_sp, AtHead, Same, AllO, Begins, LtAll, headSt, tokz_nil, tokz_cons, tokz1, lk, dep_int, dep_bool, dep_list, dep_sk, dep_sp, memAt, bel_map, bel_mapF, bel_mapO, bel_undef, bel_int, bel_boolv, bel_nilp, bel_nilf, bel_ptr, bel_arr, bel_mp, bel_yld, bel_agg, bel_tup, bel_ref, bel_only, bel_mpr, bel_fn, bel_sl_nil, bel_sl_nilF, bel_sl_nilO, bel_sl_cons, bel_sl_app, belO_cells, belO_tok, belO_dead, belO_deferred, belO_map, belO_iter, belO_loop, bel_vec, bel_vp, belO_vecM, belO_vec, hfs, -List.map_map]
    · intro _
      have hh' : ¬ (((19 : Nat) : Int) ≤ 18) := by decide
      simp (maxSteps := 4000000) only [go_sem, AV.one, drawV, intsOf, keyIdx, over, putO, memAt, List.map_cons, List.length_cons, ↓reduceIte, zdrop, one_i, one_b, one_sl, one_ptr, one_ref, one_nilp, one_mp, one_fn, one_nilf, hn, hh']
      all_goals (repeat' (first | with_reducible rfl | with_reducible apply And.intro | ((with_reducible show drawOK _ _ = true); rfl))) <;> (try first | omega | (simp only [InR]; omega) | with_reducible assumption)
      refine loopN (n) [] [1, 2, 3, 4, 5, 7, 8, 9, 11, 12, 13, 14, 15, 16, 20, 22, 23, 24, 25, 26, 27, 29, 30, 31, 32, 33, 34, 35, 36, 37, 38, 39, 40, 41, 42, 44, 45, 46, 47, 48, 49, 50, 51, 52, 53, 54] (fun i => [(10, .int .i64 i), (6, .int .i64 (wsum i (fun i => chS s i) (bitF b)))]) (fun _ m => m) (fun _ => True) ?_ ?_ ?_ ?_
      · trivial
      · simp [AV.bare, bel_ints, cs_arr, dep_arr, cs_int, cs_bool, cs_list, cs_sk, cs_sp, AtHead, Same, AllO, Begins, LtAll, headSt, tokz_nil, tokz_cons, tokz1, lk, dep_int, dep_bool, dep_list, dep_sk, dep_sp, memAt, bel_map, bel_mapF, bel_mapO, bel_undef, bel_int, bel_boolv, bel_nilp, bel_nilf, bel_ptr, bel_arr, bel_mp, bel_yld, bel_agg, bel_tup, bel_ref, bel_only, bel_mpr, bel_fn, bel_sl_nil, bel_sl_nilF, bel_sl_nilO, bel_sl_cons, bel_sl_app, belO_cells, belO_tok, belO_dead, belO_deferred, belO_map, belO_iter, belO_loop, bel_vec, bel_vp, belO_vecM, belO_vec, wsum, -List.map_map]
      · intro i hi _
        have hi' := Int.ofNat_lt.2 hi
        have hi2 : i < s.stacks.length := by omega
        have hch := hs.ch hi2
        have hche := ch_at s i
        rw [hche] at hch
        have hbi := bit_int b i
        rw [Int.toNat_natCast] at hbi
        have hb0 : 0 ≤ (b : Int) / 2 ^ i := Int.ediv_nonneg (by omega) (by simp [Int.pow_nonneg])
        have hb1 : (b : Int) / 2 ^ i ≤ b := Int.ediv_le_self _ (by omega)
        have hwb := wsum_bd (n := i) (f := fun i => chS s i) (m := 99) (bitF b) (by omega) (fun j hj => hs.ch (by omega))
        have hws : wsum (i + 1) (fun i => chS s i) (bitF b) = wsum i (fun i => chS s i) (bitF b) + if bitF b i = true then chS s i else 0 := rfl
        cases c1 : bitF b i
        · rw [c1] at hbi
          rw [c1, if_neg (by simp), Int.add_zero] at hws
          simp (maxSteps := 4000000) only [go_sem, AV.one, drawV, intsOf, keyIdx, over, putO, memAt, List.map_cons, List.length_cons, ↓reduceIte, zdrop, one_i, one_b, one_sl, one_ptr, one_ref, one_nilp, one_mp, one_fn, one_nilf, hn, hi', hbi]
          all_goals (repeat' (first | with_reducible rfl | with_reducible apply And.intro | ((with_reducible show drawOK _ _ = true); rfl))) <;> (try first | omega | (simp only [InR]; omega) | with_reducible assumption)
          refine nxt hi trivial ?_
          simp [AV.bare, bel_ints, cs_arr, dep_arr, cs_int, cs_bool, cs_list, cs_sk, cs_sp, AtHead, Same, AllO, Begins, LtAll, headSt, tokz_nil, tokz_cons, tokz1, lk, dep_int, dep_bool, dep_list, dep_sk, dep_sp, memAt, bel_map, bel_mapF, bel_mapO, bel_undef, bel_int, bel_boolv, bel_nilp, bel_nilf, bel_ptr, bel_arr, bel_mp, bel_yld, bel_agg, bel_tup, bel_ref, bel_only, bel_mpr, bel_fn, bel_sl_nil, bel_sl_nilF, bel_sl_nilO, bel_sl_cons, bel_sl_app, belO_cells, belO_tok, belO_dead, belO_deferred, belO_map, belO_iter, belO_loop, bel_vec, bel_vp, belO_vecM, belO_vec, hws, -List.map_map]
        · rw [c1] at hbi
          rw [c1, if_pos rfl, hche] at hws
          simp (maxSteps := 4000000) only [go_sem, AV.one, drawV, intsOf, keyIdx, over, putO, memAt, List.map_cons, List.length_cons, ↓reduceIte, zdrop, one_i, one_b, one_sl, one_ptr, one_ref, one_nilp, one_mp, one_fn, one_nilf, hn, hi', hbi, getD_mapA hi2]
          all_goals (repeat' (first | with_reducible rfl | with_reducible apply And.intro | ((with_reducible show drawOK _ _ = true); rfl))) <;> (try first | omega | (simp only [InR]; omega) | with_reducible assumption)
          refine nxt hi trivial ?_
          simp [AV.bare, bel_ints, cs_arr, dep_arr, cs_int, cs_bool, cs_list, cs_sk, cs_sp, AtHead, Same, AllO, Begins, LtAll, headSt, tokz_nil, tokz_cons, tokz1, lk, dep_int, dep_bool, dep_list, dep_sk, dep_sp, memAt, bel_map, bel_mapF, bel_mapO, bel_undef, bel_int, bel_boolv, bel_nilp, bel_nilf, bel_ptr, bel_arr, bel_mp, bel_yld, bel_agg, bel_tup, bel_ref, bel_only, bel_mpr, bel_fn, bel_sl_nil, bel_sl_nilF, bel_sl_nilO, bel_sl_cons, bel_sl_app, belO_cells, belO_tok, belO_dead, belO_deferred, belO_map, belO_iter, belO_loop, bel_vec, bel_vp, belO_vecM, belO_vec, hws, -List.map_map]
      · intro _
        have hse : wsum n (fun i => chS s i) (bitF b) = sumB s b := by unfold sumB; rw [hn]
        have hsb := wsum_bd (n := s.stacks.length) (f := fun i => chS s i) (m := 99) (bitF b) (by omega) (fun i hi => hs.ch hi)
        have hse2 : sumB s b = wsum s.stacks.length (fun i => chS s i) (bitF b) := rfl
        have hms : mostR s (b + 1) = if fitsR s b 19 = true then max (mostR s b) (sumB s b) else mostR s b := rfl
        rw [hse]
        cases c1 : fitsR s b 19
        · rw [c1, if_neg (by simp)] at hms
          simp (maxSteps := 4000000) only [go_sem, AV.one, drawV, intsOf, keyIdx, over, putO, memAt, List.map_cons, List.length_cons, ↓reduceIte, zdrop, one_i, one_b, one_sl, one_ptr, one_ref, one_nilp, one_mp, one_fn, one_nilf, hn, Int.lt_irrefl, c1]
          all_goals (repeat' (first | with_reducible rfl | with_reducible apply And.intro | ((with_reducible show drawOK _ _ = true); rfl))) <;> (try first | omega | (simp only [InR]; omega) | with_reducible assumption)
          refine nxt hb trivial ?_
          simp [AV.bare, bel_ints, cs_arr, dep_arr, cs_int, cs_bool, cs_list, cs_sk, cs_sp, AtHead, Same, AllO, Begins, LtAll, headSt, tokz_nil, tokz_cons, tokz1, lk, dep_int, dep_bool, dep_list, dep_sk, dep_sp, memAt, bel_map, bel_mapF, bel_mapO, bel_undef, bel_int, bel_boolv, bel_nilp, bel_nilf, bel_ptr, bel_arr, bel_mp, bel_yld, bel_agg, bel_tup, bel_ref, bel_only, bel_mpr, bel_fn, bel_sl_nil, bel_sl_nilF, bel_sl_nilO, bel_sl_cons, bel_sl_app, belO_cells, belO_tok, belO_dead, belO_deferred, belO_map, belO_iter, belO_loop, bel_vec, bel_vp, belO_vecM, belO_vec, hms, -List.map_map]
        · rw [c1, if_pos rfl] at hms
          simp (maxSteps := 4000000) only [go_sem, AV.one, drawV, intsOf, keyIdx, over, putO, memAt, List.map_cons, List.length_cons, ↓reduceIte, zdrop, one_i, one_b, one_sl, one_ptr, one_ref, one_nilp, one_mp, one_fn, one_nilf, hn, Int.lt_irrefl, c1]
          all_goals (repeat' (first | with_reducible rfl | with_reducible apply And.intro | ((with_reducible show drawOK _ _ = true); rfl))) <;> (try first | omega | (simp only [InR]; omega) | with_reducible assumption)
          refine nxt hb trivial ?_
          simp [AV.bare, bel_ints, cs_arr, dep_arr, cs_int, cs_bool, cs_list, cs_sk, cs_sp, AtHead, Same, AllO, Begins, LtAll, headSt, tokz_nil, tokz_cons, tokz1, lk, dep_int, dep_bool, dep_list, dep_sk, dep_sp, memAt, bel_map, bel_mapF, bel_mapO, bel_undef, bel_int, bel_boolv, bel_nilp, bel_nilf, bel_ptr, bel_arr, bel_mp, bel_yld, bel_agg, bel_tup, bel_ref, bel_only, bel_mpr, bel_fn, bel_sl_nil, bel_sl_nilF, bel_sl_nilO, bel_sl_cons, bel_sl_app, belO_cells, belO_tok, belO_dead, belO_deferred, belO_map, belO_iter, belO_loop, bel_vec, bel_vp, belO_vecM, belO_vec, hms, -List.map_map]
  · intro _
    simp (maxSteps := 4000000) only [go_sem, AV.one, drawV, intsOf, keyIdx, over, putO, memAt, List.map_cons, List.length_cons, ↓reduceIte, zdrop, one_i, one_b, one_sl, one_ptr, one_ref, one_nilp, one_mp, one_fn, one_nilf, hn, hpw, Int.lt_irrefl]
    all_goals (repeat' (first | with_reducible rfl | with_reducible apply And.intro | ((with_reducible show drawOK _ _ = true); rfl))) <;> (try first | omega | (simp only [InR]; omega) | with_reducible assumption)
end Go.Proofs
namespace Go.Proofs
open Go.Fs
set_option linter.unusedSimpArgs false
set_option linter.unusedVariables false
set_option maxHeartbeats 4000000
set_option maxRecDepth 8000
def P4601 : Specs := vecT [17] P46
theorem P4601_app (g : FuncId) (h : ¬ (g = 4000000000)) : P4601 g = P46 g := by unfold P4601 vecT; rw [if_neg h]
theorem P4601_flag (d : Nat) : flagOf P4601 (some d) = if d ∈ ([17] : List Nat) then some d else none := flagOf_vecT _ _ d
attribute [go_sem] P4601_app P4601_flag
def leftR (s : Sh) (plan : List Int) (hour : Int) : Sh × Int := (withoutS (dryS s) (closedL plan hour plan.length), wsum plan.length (fun i => chS s i) (fun i => savesB (at_ plan i) hour))
end Go.Proofs
