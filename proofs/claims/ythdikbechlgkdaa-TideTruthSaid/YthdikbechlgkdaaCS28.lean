/- Marks that are right in a list, by words. -/
import Derived.Test.YthdikbechlgkdaaCS27
import Derived.Test.YthdikbechlgkdaaG6
set_option linter.all false
namespace Go.Proofs
open Go.Fs
set_option linter.unusedSimpArgs false
set_option linter.unusedVariables false
set_option maxHeartbeats 4000000
set_option maxRecDepth 8000
def wordL (ws : List (Uk .u16)) (n : Int) : Int := if ws = [] then 0 else (at_ ws (n % (ws.length : Int)).toNat).n
def WsOk (ws : List (Uk .u16)) : Prop := ∀ u ∈ ws, InR .u16 u.n
theorem wordL_bd {ws : List (Uk .u16)} (h : WsOk ws) (n : Int) : 0 ≤ wordL ws n ∧ wordL ws n ≤ 65535 := by
  unfold wordL
  split
  · omega
  · rename_i hne
    have hl : 0 < ws.length := by
      cases ws with
      | nil => exact absurd rfl hne
      | cons _ _ => simp
    have h1 := Int.emod_nonneg n (show (ws.length : Int) ≠ 0 by omega)
    have h2 := Int.emod_lt_of_pos n (show (0 : Int) < ws.length by omega)
    exact h _ (at_mem (by omega))
theorem dec_uk {k : IntKind} (n : Int) : (Enc.dec (AV.int k n) : Option (Uk k)) = some ⟨n⟩ := by simp [Enc.dec]
theorem word_call (ws : List (Uk .u16)) (n : Int) (h : WsOk ws ∧ 0 ≤ n) : CallP Try.prog 45 [Enc.enc ws, Enc.enc n] (· = Enc.enc (wordL ws n)) := by
  have hb := wordL_bd h.1 n
  have hn := h.2
  unfold wordL at hb ⊢
  by_cases c : ws = []
  · rw [if_pos c]
    have c' : decide ((ws.length : Int) = 0) = true := by rw [c]; rfl
    simp only [enc_fnl, enc_fnb, enc_fnc, enc_refc, enc_arr, enc_int, enc_bool, enc_list, enc_rg, enc_mk, enc_tb]
    refine callP_of_vc (Φ := P52) Try.func45 rfl (by rfl) (by rw [Try.ntmps45]; simp) mixed P52_ok (by simp [AV.strip, AV.strip1, Tk.strip]) ?_
    rw [Try.ntmps45]
    simp only [Try.f45, startSt, tmFrom]
    simp (maxSteps := 4000000) only [go_sem, AV.one, drawV, intsOf, keyIdx, over, putO, memAt, List.map_cons, List.length_cons, ↓reduceIte, snap_trues, imm_trues, enc_pair, enc_iterv, zdrop, one_i, one_b, one_sl, one_ptr, one_ref, one_nilp, one_mp, one_fn, one_nilf, dep_uk, c']
  · have hl : 0 < ws.length := by
      cases ws with
      | nil => exact absurd rfl c
      | cons _ _ => simp
    rw [if_neg c] at hb ⊢
    have c' : decide ((ws.length : Int) = 0) = false := by rw [decide_eq_false_iff_not]; omega
    have h1 := Int.emod_nonneg n (show (ws.length : Int) ≠ 0 by omega)
    have h2 := Int.emod_lt_of_pos n (show (0 : Int) < ws.length by omega)
    obtain ⟨k, ek⟩ := Int.eq_ofNat_of_zero_le h1
    rw [ek] at h2 hb ⊢
    have hg : (ws.map EncE.cs).getD k [] = [AV.int .u16 (at_ ws k).n] := by rw [getD_mapA (by omega)]; rfl
    rw [Int.toNat_natCast] at hb ⊢
    simp only [enc_fnl, enc_fnb, enc_fnc, enc_refc, enc_arr, enc_int, enc_bool, enc_list, enc_rg, enc_mk, enc_tb]
    refine callP_of_vc (Φ := P52) Try.func45 rfl (by rfl) (by rw [Try.ntmps45]; simp) mixed P52_ok (by simp [AV.strip, AV.strip1, Tk.strip]) ?_
    rw [Try.ntmps45]
    simp only [Try.f45, startSt, tmFrom]
    simp (maxSteps := 4000000) only [go_sem, AV.one, drawV, intsOf, keyIdx, over, putO, memAt, List.map_cons, List.length_cons, ↓reduceIte, snap_trues, imm_trues, enc_pair, enc_iterv, zdrop, one_i, one_b, one_sl, one_ptr, one_ref, one_nilp, one_mp, one_fn, one_nilf, dep_uk, c', ek, hg]
    all_goals (repeat' (first | with_reducible rfl | with_reducible apply And.intro | ((with_reducible show drawOK _ _ = true); rfl))) <;> (try first | omega | (simp only [InR]; omega) | with_reducible assumption)
def P53 : Specs := addSpec 45 (spec2 (fun (ws : List (Uk .u16)) (n : Int) => WsOk ws ∧ 0 ≤ n) wordL) (P52)
theorem P53_app (g : FuncId) : P53 g = (addSpec 45 (spec2 (fun (ws : List (Uk .u16)) (n : Int) => WsOk ws ∧ 0 ≤ n) wordL) (P52)) g := rfl
theorem P53_ok : SpecsOk Try.prog P53 := addSpec_ok (spec2_ok word_call) (P52_ok)
attribute [go_sem] P53_app
theorem P53_flag (d : Option Nat) : flagOf P53 d = none := (flagOf_add (by decide) d).trans (P52_flag d)
attribute [go_sem] P53_flag
def mkW (t : Tb) (s : List Int) (w : Int) : Mk :=
  ⟨w % (t.last + 1), min t.last (w % (t.last + 1) + w / 16 % 4),
    ⟨max 0 (topL s (w % (t.last + 1)) (min t.last (w % (t.last + 1) + w / 16 % 4)) - w / 64 % 3), min 99 (topL s (w % (t.last + 1)) (min t.last (w % (t.last + 1) + w / 16 % 4)) + w / 256 % 3)⟩⟩
def marksW (t : Tb) (s : List Int) (ws : List (Uk .u16)) (n : Nat) : List Mk := (List.range n).map fun i : Nat => mkW t s (wordL ws ((i : Int) + 1))
theorem marksW_succ (t : Tb) (s : List Int) (ws : List (Uk .u16)) (n : Nat) : marksW t s ws (n + 1) = marksW t s ws n ++ [mkW t s (wordL ws ((n : Int) + 1))] := by
  simp [marksW, List.range_succ]
theorem marksW_len (t : Tb) (s : List Int) (ws : List (Uk .u16)) (n : Nat) : (marksW t s ws n).length = n := by simp [marksW]
def markedS (t : Tb) (which : Uk .u16) : List Int := at_ (listsL t) (which.n % ((listsL t).length : Int)).toNat
def markedT (t : Tb) (which : Uk .u16) (ws : List (Uk .u16)) : Tb := ⟨t.last, t.heights, t.step, t.levels, marksW t (markedS t which) ws (wordL ws 0 % 6).toNat⟩
theorem markedS_mem {t : Tb} (hf : FOk t) {which : Uk .u16} (h0 : 0 ≤ which.n) : markedS t which ∈ listsL t := by
  have hpos : 0 < (listsL t).length := by
    rcases Nat.eq_zero_or_pos (listsL t).length with h | h
    · exact absurd (List.eq_nil_of_length_eq_zero h) hf.some
    · exact h
  have h1 := Int.emod_nonneg which.n (show ((listsL t).length : Int) ≠ 0 by omega)
  have h2 := Int.emod_lt_of_pos which.n (show (0 : Int) < (listsL t).length by omega)
  exact at_mem (by omega)
theorem word_parts {t : Tb} (hl0 : 0 ≤ t.last) {w : Int} (h : 0 ≤ w) : (0 ≤ w % (t.last + 1) ∧ w % (t.last + 1) ≤ t.last) ∧ (w % (t.last + 1) ≤ min t.last (w % (t.last + 1) + w / 16 % 4) ∧ min t.last (w % (t.last + 1) + w / 16 % 4) ≤ t.last) := by
  have h1 := Int.emod_nonneg w (show t.last + 1 ≠ 0 by omega)
  have h2 := Int.emod_lt_of_pos w (show (0 : Int) < t.last + 1 by omega)
  omega
theorem mkW_ok {t : Tb} (hf : FOk t) {s : List Int} (hs : LsOk t s) (hb : LOk s) {w : Int} (h : 0 ≤ w) :
    ((0 ≤ (mkW t s w).frm ∧ (mkW t s w).frm ≤ (mkW t s w).til ∧ (mkW t s w).til ≤ t.last) ∧ 0 ≤ (mkW t s w).top.lo ∧ (mkW t s w).top.lo ≤ (mkW t s w).top.hi ∧ (mkW t s w).top.hi ≤ 99) ∧
    (mkW t s w).top.lo ≤ topL s (mkW t s w).frm (mkW t s w).til ∧ topL s (mkW t s w).frm (mkW t s w).til ≤ (mkW t s w).top.hi := by
  have hp := word_parts hf.l0 h
  have hl := hs.len
  have hl2 := hf.len
  have ht := topL_bd (l := s) hb (a := w % (t.last + 1)) (b := min t.last (w % (t.last + 1) + w / 16 % 4)) hp.1.1 hp.2.1 (by omega)
  unfold mkW
  simp only
  generalize topL s (w % (t.last + 1)) (min t.last (w % (t.last + 1) + w / 16 % 4)) = n at ht
  omega
theorem Marked_call (t : Tb) (which : Uk .u16) (ws : List (Uk .u16)) (h : (faultT t = 0 ∧ InR .u16 which.n) ∧ WsOk ws) :
    CallP Try.prog 19 [Enc.enc t, Enc.enc which, Enc.enc ws] (· = Enc.enc (markedT t which ws, markedS t which)) := by
  obtain ⟨⟨hft, hw⟩, hws⟩ := h
  have hf := fok_of hft
  have hv := hf.vok
  have hok := hv.hok
  have hl0 := hf.l0
  have hl9 := hf.l9
  have hlen := hf.len
  have hsm := markedS_mem hf (which := which) hw.1
  have hw0 : 0 ≤ which.n := hw.1
  have hw1 : which.n ≤ 65535 := hw.2
  have hpos : 0 < (listsL t).length := List.length_pos_of_mem hsm
  obtain ⟨wn, ewn⟩ := Int.eq_ofNat_of_zero_le (Int.emod_nonneg which.n (show ((listsL t).length : Int) ≠ 0 by omega))
  have hwn := Int.emod_lt_of_pos which.n (show (0 : Int) < (listsL t).length by omega)
  rw [ewn] at hwn
  have hgs := getD_mapA (f := EncE.cs) (l := listsL t) (i := wn) (by omega)
  have hse : markedS t which = at_ (listsL t) wn := by unfold markedS; rw [ewn, Int.toNat_natCast]
  rw [← hse] at hgs
  have hso := (mem_lists hf _).1 hsm
  have hsl := hso.len
  have hsb := (listsL_at hok _ hsm).2
  unfold markedT
  generalize markedS t which = s at hsm hgs hso hsl hsb
  have hb0 := wordL_bd hws 0
  obtain ⟨N, hN⟩ := Int.eq_ofNat_of_zero_le (Int.emod_nonneg (wordL ws 0) (show (6 : Int) ≠ 0 by omega))
  have hN6 := Int.emod_lt_of_pos (wordL ws 0) (show (0 : Int) < 6 by omega)
  rw [hN] at hN6 ⊢
  rw [Int.toNat_natCast]
  simp only [enc_pair, enc_uk]
  simp only [enc_fnl, enc_fnb, enc_fnc, enc_refc, enc_arr, enc_int, enc_bool, enc_list, enc_rg, enc_mk, enc_tb]
  refine callP_of_vc (Φ := P53) Try.func19 rfl (by rfl) (by rw [Try.ntmps19]; simp) mixed P53_ok (by simp [AV.strip, AV.strip1, Tk.strip]) ?_
  rw [Try.ntmps19]
  simp only [Try.f19, startSt, tmFrom]
  simp (maxSteps := 4000000) only [go_sem, drawV, intsOf, keyIdx, over, putO, memAt, List.map_cons, List.length_cons, ↓reduceIte, snap_trues, imm_trues, enc_pair, enc_iterv, zdrop, one_i, one_b, one_sl, one_ptr, one_ref, one_nilp, one_mp, one_fn, one_nilf, dep_uk, ewn, hgs]
  all_goals (repeat' (first | with_reducible rfl | with_reducible apply And.intro | ((with_reducible show drawOK _ _ = true); rfl))) <;> (try first | omega | (simp only [InR]; omega) | with_reducible assumption)
  refine loopN (N) [.cell 2 4 4] [2, 3, 6, 7, 9, 10] (fun i => [(11, .int .i64 i)]) (fun i m => (m.set 2 (.cells [.int .i64 t.last, .sl (t.heights.map EncE.cs) .no, .int .i64 t.step, .sl (t.levels.map EncE.cs) .no, .sl ((marksW t s ws i).map EncE.cs) (.own 3)])).set 3 (.tok (marksW t s ws i).length 4)) (fun _ => True) ?_ ?_ ?_ ?_
  · trivial
  · simp [AV.bare, bel_ints, cs_arr, dep_arr, cs_int, cs_bool, cs_list, cs_rg, cs_mk, AtHead, Same, AllO, Begins, LtAll, headSt, tokz_nil, tokz_cons, tokz1, lk, dep_int, dep_bool, dep_list, dep_rg, dep_mk, memAt, bel_map, bel_mapF, bel_mapO, bel_undef, bel_int, bel_boolv, bel_nilp, bel_nilf, bel_ptr, bel_arr, bel_mp, bel_yld, bel_agg, bel_tup, bel_ref, bel_only, bel_mpr, bel_fn, bel_sl_nil, bel_sl_nilF, bel_sl_nilO, bel_sl_cons, bel_sl_app, belO_cells, belO_tok, belO_dead, belO_deferred, belO_map, belO_iter, belO_loop, bel_vec, bel_vp, belO_vecM, belO_vec, marksW, dep_uk]
  · intro i hi _
    have hi' : decide ((i : Int) < (N : Int)) = true := by simp; exact hi
    have hb1 := wordL_bd hws ((i : Int) + 1)
    have hml := marksW_len t s ws i
    have hp := word_parts hl0 hb1.1
    have hm := mkW_ok hf hso hsb hb1.1
    have hms := marksW_succ t s ws i
    obtain ⟨w, hwe⟩ : ∃ w, wordL ws ((i : Int) + 1) = w := ⟨_, rfl⟩
    rw [hwe] at hb1 hp hm hms
    have ht := topL_bd (l := s) hsb (a := w % (t.last + 1)) (b := min t.last (w % (t.last + 1) + w / 16 % 4)) hp.1.1 hp.2.1 (by omega)
    have hmk : EncE.cs (mkW t s w) = [AV.int .i64 (w % (t.last + 1)), AV.int .i64 (min t.last (w % (t.last + 1) + w / 16 % 4)),
      AV.int .i64 (max 0 (topL s (w % (t.last + 1)) (min t.last (w % (t.last + 1) + w / 16 % 4)) - w / 64 % 3)), AV.int .i64 (min 99 (topL s (w % (t.last + 1)) (min t.last (w % (t.last + 1) + w / 16 % 4)) + w / 256 % 3))] := rfl
    obtain ⟨f, hfe⟩ : ∃ f, w % (t.last + 1) = f := ⟨_, rfl⟩
    rw [hfe] at hp ht hmk
    obtain ⟨g, hge⟩ : ∃ g, min t.last (f + w / 16 % 4) = g := ⟨_, rfl⟩
    rw [hge] at hp ht hmk
    obtain ⟨n, hne⟩ : ∃ n, topL s f g = n := ⟨_, rfl⟩
    rw [hne] at ht hmk
    simp (maxSteps := 4000000) only [go_sem, drawV, intsOf, keyIdx, over, putO, memAt, List.map_cons, List.length_cons, ↓reduceIte, snap_trues, imm_trues, enc_pair, enc_iterv, zdrop, one_i, one_b, one_sl, one_ptr, one_ref, one_nilp, one_mp, one_fn, one_nilf, dep_uk, hN, hi', hwe, hfe, hge, hne]
    all_goals (repeat' (first | with_reducible rfl | with_reducible apply And.intro | ((with_reducible show drawOK _ _ = true); rfl))) <;> (try first | omega | (simp only [InR]; omega) | with_reducible assumption)
    refine nxt hi trivial ?_
    simp [AV.bare, bel_ints, cs_arr, dep_arr, cs_int, cs_bool, cs_list, cs_rg, cs_mk, AtHead, Same, AllO, Begins, LtAll, headSt, tokz_nil, tokz_cons, tokz1, lk, dep_int, dep_bool, dep_list, dep_rg, dep_mk, memAt, bel_map, bel_mapF, bel_mapO, bel_undef, bel_int, bel_boolv, bel_nilp, bel_nilf, bel_ptr, bel_arr, bel_mp, bel_yld, bel_agg, bel_tup, bel_ref, bel_only, bel_mpr, bel_fn, bel_sl_nil, bel_sl_nilF, bel_sl_nilO, bel_sl_cons, bel_sl_app, belO_cells, belO_tok, belO_dead, belO_deferred, belO_map, belO_iter, belO_loop, bel_vec, bel_vp, belO_vecM, belO_vec, hms, hmk, dep_uk, -List.map_map]
  · intro _
    simp (maxSteps := 4000000) only [go_sem, drawV, intsOf, keyIdx, over, putO, memAt, List.map_cons, List.length_cons, ↓reduceIte, snap_trues, imm_trues, enc_pair, enc_iterv, zdrop, one_i, one_b, one_sl, one_ptr, one_ref, one_nilp, one_mp, one_fn, one_nilf, dep_uk, hN, Int.lt_irrefl]
    all_goals (repeat' (first | with_reducible rfl | with_reducible apply And.intro | ((with_reducible show drawOK _ _ = true); rfl))) <;> (try first | omega | (simp only [InR]; omega) | with_reducible assumption)
def P54 : Specs := addSpec 19 (spec3 (fun (t : Tb) (which : Uk .u16) (ws : List (Uk .u16)) => (faultT t = 0 ∧ InR .u16 which.n) ∧ WsOk ws) (fun t which ws => (markedT t which ws, markedS t which))) (P53)
theorem P54_app (g : FuncId) : P54 g = (addSpec 19 (spec3 (fun (t : Tb) (which : Uk .u16) (ws : List (Uk .u16)) => (faultT t = 0 ∧ InR .u16 which.n) ∧ WsOk ws) (fun t which ws => (markedT t which ws, markedS t which))) (P53)) g := rfl
theorem P54_ok : SpecsOk Try.prog P54 := addSpec_ok (spec3_ok Marked_call) (P53_ok)
attribute [go_sem] P54_app
theorem P54_flag (d : Option Nat) : flagOf P54 d = none := (flagOf_add (by decide) d).trans (P53_flag d)
attribute [go_sem] P54_flag
end Go.Proofs
