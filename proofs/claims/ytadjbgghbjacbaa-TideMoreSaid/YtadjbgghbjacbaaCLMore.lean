/- The law TideMore. -/
import Derived.Test.YtadjbgghbjacbaaCS27
set_option linter.all false
namespace Go.Proofs
open Go.Fs
set_option linter.unusedSimpArgs false
set_option linter.unusedVariables false
set_option maxHeartbeats 4000000
set_option maxRecDepth 8000

theorem at_snoc_lt {α : Type} [Inhabited α] {l : List α} {x : α} {k : Nat} (h : k < l.length) : at_ (l ++ [x]) k = at_ l k := at_append_left h
theorem at_snoc_eq {α : Type} [Inhabited α] (l : List α) (x : α) : at_ (l ++ [x]) l.length = x := by simp [at_, List.getD]
theorem verdict_mono {L M : List (List Int)} {level hour : Int} {r s : Rg} (h : IsB (fun z => ∃ p ∈ L, at_ p hour.toNat = z) r) (h' : IsB (fun z => ∃ p ∈ M, at_ p hour.toNat = z) s) (hs : ∀ p ∈ M, p ∈ L) :
    verdictL L level hour = 3 ∨ verdictL L level hour = verdictL M level hour := by
  have := h'.sub h fun x ⟨p, hp, e⟩ => ⟨p, hs p hp, e⟩
  have h1 := h.le
  have h2 := h'.le
  rw [verdict_iff h, verdict_iff h']
  by_cases c1 : level < r.lo
  · rw [if_pos c1, if_pos (by omega)]; exact .inr rfl
  · rw [if_neg c1]
    by_cases c2 : r.hi ≤ level
    · rw [if_pos c2, if_neg (by omega), if_pos (by omega)]; exact .inr rfl
    · rw [if_neg c2]; exact .inl rfl
/-- A table with one mark more. -/
structure MoreT (t x : Tb) : Prop where
  sub : ∀ p ∈ truthsL x, p ∈ truthsL t
  lo : ∀ l m, Least t l → Least x m → l.length ≤ m.length
  hi : ∀ l m, Least t l → Least x m → m.length ≤ l.length + 1
theorem more_ok {t x : Tb} {mk : Mk} (h : FOk t) (h' : FOk x) (hx : (⟨t.last, t.heights, t.step, t.levels, t.marks ++ [mk]⟩ : Tb) = x) : MoreT t x := by
  have hm : x.marks = t.marks ++ [mk] := by rw [← hx]
  have hl : ∀ p, LsOk x p ↔ LsOk t p := fun p => by
    subst hx
    exact ⟨fun q => ⟨q.len, q.rng, q.near⟩, fun q => ⟨q.len, q.rng, q.near⟩⟩
  have hlen : x.marks.length = t.marks.length + 1 := by rw [hm]; simp
  refine ⟨fun p hp => ?_, fun l m hL hM => ?_, fun l m hL hM => ?_⟩
  · rw [truth_iff h', hm, hl] at hp
    rw [truth_iff h]
    exact ⟨hp.1, fun k hk => hp.2 k (by simp [hk])⟩
  · have hmm := hM.inc.mem
    rw [hlen] at hmm
    have := least_len hL (m := m.filter (fun k => decide (k ≠ t.marks.length)))
      (inc_of (hM.inc.pair.filter _) fun k hk => by
        have h1 := List.mem_filter.1 hk
        have h2 := hmm k h1.1
        have h3 : k ≠ t.marks.length := by simpa using h1.2
        omega)
      (by
        have hP := hM.poss
        rw [poss_iff h'] at hP
        obtain ⟨p, hp, hq⟩ := hP
        rw [poss_iff h]
        refine ⟨p, (hl p).1 hp, fun k hk hn => ?_⟩
        have := hq k (by omega) (fun q => hn (List.mem_filter.2 ⟨q, by simp; omega⟩))
        rw [hm, at_snoc_lt hk] at this
        exact this)
    have h2 := List.length_filter_le (fun k => decide (k ≠ t.marks.length)) m
    omega
  · have hlm := hL.inc.mem
    have := least_len hM (m := l ++ [t.marks.length])
      (inc_of (List.pairwise_append.2 ⟨hL.inc.pair, by simp, fun a ha b hb => by simp at hb; have := hlm a ha; omega⟩) fun k hk => by
        rcases List.mem_append.1 hk with q | q
        · have := hlm k q; omega
        · simp at q; omega)
      (by
        have hP := hL.poss
        rw [poss_iff h] at hP
        obtain ⟨p, hp, hq⟩ := hP
        rw [poss_iff h']
        refine ⟨p, (hl p).2 hp, fun k hk hn => ?_⟩
        have h1 : k ∉ l := fun q => hn (by simp [q])
        have h2 : k ≠ t.marks.length := fun q => hn (by simp [q])
        rw [hm, at_snoc_lt (by omega)]
        exact hq k (by omega) h1)
    simp at this
    omega
theorem TideMore_true (t : Tb) (mk : Mk) (row hour : Int) (h1 : InR .u8 row) (h2 : InR .u8 hour) (hms : t.marks.length * 32 ≤ reachBytes) :
    CallP Try.prog 8 [Enc.enc t, Enc.enc mk, AV.int .u8 row, AV.int .u8 hour] (· = Enc.enc true) := by
  have hms : t.marks.length * 32 ≤ 140737488351232 := hms
  obtain ⟨x, hx⟩ : ∃ x, (⟨t.last, t.heights, t.step, t.levels, t.marks ++ [mk]⟩ : Tb) = x := ⟨_, rfl⟩
  have hmk1 : EncE.cs mk = [AV.int .i64 mk.frm, AV.int .i64 mk.til, AV.int .i64 mk.top.lo, AV.int .i64 mk.top.hi] := rfl
  have hmap : t.marks.map EncE.cs ++ [[AV.int .i64 mk.frm, AV.int .i64 mk.til, AV.int .i64 mk.top.lo, AV.int .i64 mk.top.hi]] = (t.marks ++ [mk]).map EncE.cs := by rw [List.map_append]; rfl
  have hone : (∀ x ∈ t.marks.map EncE.cs, ∀ c ∈ x, c.one = true) = True := by
    simp only [eq_iff_iff, iff_true, List.mem_map, forall_exists_index, and_imp, forall_apply_eq_imp_iff₂]
    intro m _ c hc
    simp [cs_mk] at hc
    rcases hc with rfl | rfl | rfl | rfl <;> rfl
  cases c0 : (thinB t && decide (faultT t = 0))
  · simp only [enc_fnl, enc_fnb, enc_fnc, enc_refc, enc_arr, enc_int, enc_bool, enc_list, enc_rg, enc_mk, enc_tb]
    refine callP_of_vc (Φ := P52) Try.func8 rfl (by rfl) (by rw [Try.ntmps8]; simp) mixed P52_ok (by simp [AV.strip, Tk.strip]) ?_
    rw [Try.ntmps8]
    simp only [Try.f8, startSt, tmFrom]
    simp (maxSteps := 4000000) only [go_sem, drawV, intsOf, keyIdx, over, putO, memAt, List.map_cons, List.length_cons, ↓reduceIte, snap_trues, imm_trues, enc_pair, enc_iterv, zdrop, one_i, one_b, one_sl, one_ptr, one_ref, one_nilp, one_mp, one_fn, one_nilf, c0, hmap, hx, List.nil_append, hone]
    all_goals (repeat' (first | with_reducible rfl | with_reducible apply And.intro | ((with_reducible show drawOK _ = true); rfl))) <;> (try first | omega | (simp only [InR]; omega) | with_reducible assumption)
  cases d0 : (thinB x && decide (faultT x = 0))
  · simp only [enc_fnl, enc_fnb, enc_fnc, enc_refc, enc_arr, enc_int, enc_bool, enc_list, enc_rg, enc_mk, enc_tb]
    refine callP_of_vc (Φ := P52) Try.func8 rfl (by rfl) (by rw [Try.ntmps8]; simp) mixed P52_ok (by simp [AV.strip, Tk.strip]) ?_
    rw [Try.ntmps8]
    simp only [Try.f8, startSt, tmFrom]
    simp (maxSteps := 4000000) only [go_sem, drawV, intsOf, keyIdx, over, putO, memAt, List.map_cons, List.length_cons, ↓reduceIte, snap_trues, imm_trues, enc_pair, enc_iterv, zdrop, one_i, one_b, one_sl, one_ptr, one_ref, one_nilp, one_mp, one_fn, one_nilf, c0, d0, hmap, hx, List.nil_append, hone]
    all_goals (repeat' (first | with_reducible rfl | with_reducible apply And.intro | ((with_reducible show drawOK _ = true); rfl))) <;> (try first | omega | (simp only [InR]; omega) | with_reducible assumption)
  have c12 : thinB t = true ∧ faultT t = 0 := by simpa using c0
  have d12 : thinB x = true ∧ faultT x = 0 := by simpa using d0
  obtain ⟨c1, c2⟩ := c12
  obtain ⟨d1, d2⟩ := d12
  have hl := thin_len c1
  have hlx := thin_len d1
  have hf := fok_of c2
  have hfx := fok_of d2
  have hM := more_ok hf hfx hx
  have hv := hf.vok
  have hvx := hfx.vok
  have hl0 := hf.l0
  have hl9 := hf.l9
  have hlen := hf.len
  have hxl : x.last = t.last := by rw [← hx]
  have hxv : x.levels = t.levels := by rw [← hx]
  have h10 : 0 ≤ row := h1.1
  have h11 : row ≤ 255 := h1.2
  have h21 : hour ≤ 255 := h2.2
  have h20 : 0 ≤ hour := h2.1
  obtain ⟨l, e1, hL⟩ := leave_ok c2
  obtain ⟨m, e2, hm⟩ := leave_ok d2
  have hll := inc_len hL.inc
  have hm5 := hf.m5
  have k1 := hM.lo l m hL hm
  have k2 := hM.hi l m hL hm
  have hcl : (castL l).length = l.length := cast_len l
  have hcm : (castL m).length = m.length := cast_len m
  have g1 : decide ((m.length : Int) < (l.length : Int)) = false := by simp; omega
  have g2 : decide ((l.length : Int) + 1 < (m.length : Int)) = false := by simp; omega
  by_cases z : m = []
  case neg =>
    have hz : decide ((0 : Int) < (m.length : Int)) = true := by
      cases m with
      | nil => exact absurd rfl z
      | cons _ _ => simp <;> omega
    simp only [enc_fnl, enc_fnb, enc_fnc, enc_refc, enc_arr, enc_int, enc_bool, enc_list, enc_rg, enc_mk, enc_tb]
    refine callP_of_vc (Φ := P52) Try.func8 rfl (by rfl) (by rw [Try.ntmps8]; simp) mixed P52_ok (by simp [AV.strip, Tk.strip]) ?_
    rw [Try.ntmps8]
    simp only [Try.f8, startSt, tmFrom]
    simp (maxSteps := 4000000) only [go_sem, drawV, intsOf, keyIdx, over, putO, memAt, List.map_cons, List.length_cons, ↓reduceIte, snap_trues, imm_trues, enc_pair, enc_iterv, zdrop, one_i, one_b, one_sl, one_ptr, one_ref, one_nilp, one_mp, one_fn, one_nilf, c0, d0, hmap, hx, List.nil_append, hone, e1, e2, hcl, hcm, g1, g2, hz]
    all_goals (repeat' (first | with_reducible rfl | with_reducible apply And.intro | ((with_reducible show drawOK _ = true); rfl))) <;> (try first | omega | (simp only [InR]; omega) | with_reducible assumption)
  have hz : decide ((0 : Int) < (m.length : Int)) = false := by rw [z]; rfl
  have q := (least_nil d2 hm).1 z
  obtain ⟨q', hin⟩ := bnd_inside d2 c2 hxl q hM.sub
  have e3 := bnd_ok c2 q'
  have e4 := bnd_ok d2 q
  have e5 := dry_ok c2 q' (a := 0) (b := t.last) (by omega) hl0 (by omega)
  have e6 := dry_ok d2 q (a := 0) (b := t.last) (by omega) hl0 (by omega)
  have g3 : dryL (truthsL x) 0 t.last ≤ dryL (truthsL t) 0 t.last := by
    obtain ⟨r, hr, hr2⟩ := dry_isB c2 q' (a := 0) (b := t.last) (by omega) hl0 (by omega)
    obtain ⟨s, hs, hs2⟩ := dry_isB d2 q (a := 0) (b := t.last) (by omega) hl0 (by omega)
    rw [← hr2, ← hs2]
    exact (hs.sub hr fun z ⟨p, hp, e⟩ => ⟨p, hM.sub p hp, e⟩).2
  have g3' : decide (dryL (truthsL t) 0 t.last < dryL (truthsL x) 0 t.last) = false := by simp; omega
  obtain ⟨A, hA⟩ : ∃ A, bndQ t = (A, 0) := ⟨_, e3⟩
  obtain ⟨B, hB⟩ : ∃ B, bndQ x = (B, 0) := ⟨_, e4⟩
  have hAl : (A.length : Int) = t.last + 1 := by
    have := e3.symm.trans hA
    simp only [Prod.mk.injEq, and_true] at this
    rw [← this]; simp; omega
  have hBl : (B.length : Int) = t.last + 1 := by
    have := e4.symm.trans hB
    simp only [Prod.mk.injEq, and_true] at this
    rw [← this]; simp; omega
  rw [hA, hB] at hin
  simp only at hin
  by_cases y : t.levels.length = 0
  · have y' : decide ((t.levels.length : Int) = 0) = true := by simp [y]
    simp only [enc_fnl, enc_fnb, enc_fnc, enc_refc, enc_arr, enc_int, enc_bool, enc_list, enc_rg, enc_mk, enc_tb]
    refine callP_of_vc (Φ := P52) Try.func8 rfl (by rfl) (by rw [Try.ntmps8]; simp) mixed P52_ok (by simp [AV.strip, Tk.strip]) ?_
    rw [Try.ntmps8]
    simp only [Try.f8, startSt, tmFrom]
    simp (maxSteps := 4000000) only [go_sem, drawV, intsOf, keyIdx, over, putO, memAt, List.map_cons, List.length_cons, ↓reduceIte, snap_trues, imm_trues, enc_pair, enc_iterv, zdrop, one_i, one_b, one_sl, one_ptr, one_ref, one_nilp, one_mp, one_fn, one_nilf, c0, d0, hmap, hx, List.nil_append, hone, e1, e2, hcl, hcm, g1, g2, hz, hA, hB, e5, e6, hin, g3', y']
    all_goals (repeat' (first | with_reducible rfl | with_reducible apply And.intro | ((with_reducible show drawOK _ = true); rfl))) <;> (try first | omega | (simp only [InR]; omega) | with_reducible assumption)
  have y' : decide ((t.levels.length : Int) = 0) = false := by rw [decide_eq_false_iff_not]; omega
  obtain ⟨kn, ekn⟩ := Int.eq_ofNat_of_zero_le (Int.emod_nonneg row (show (t.levels.length : Int) ≠ 0 by omega))
  have hkn := Int.emod_lt_of_pos row (show (0 : Int) < t.levels.length by omega)
  rw [ekn] at hkn
  obtain ⟨cn, ecn⟩ := Int.eq_ofNat_of_zero_le (Int.emod_nonneg hour (show t.last + 1 ≠ 0 by omega))
  have hcn := Int.emod_lt_of_pos hour (show (0 : Int) < t.last + 1 by omega)
  rw [ecn] at hcn
  have hxv' : x.levels.length = t.levels.length := by rw [hxv]
  have e7 := wet_ok (row := (kn : Int)) (hour := (cn : Int)) c2 q' (by omega) (by omega) (by omega) (by omega)
  have e8 := wet_ok (row := (kn : Int)) (hour := (cn : Int)) d2 q (by omega) (by omega) (by omega) (by omega)
  rw [hxv] at e8
  have bt := boundsL_isB hv q' (hour := (cn : Int)) (by omega) (by omega)
  have bx := boundsL_isB hvx q (hour := (cn : Int)) (by omega) (by omega)
  have g4 := verdict_mono (level := at_ t.levels (kn : Int).toNat) bt bx hM.sub
  generalize verdictL (truthsL t) (at_ t.levels (kn : Int).toNat) (cn : Int) = u at e7 g4
  generalize verdictL (truthsL x) (at_ t.levels (kn : Int).toNat) (cn : Int) = v at e8 g4
  cases g5 : decide (u = 3)
  · have g6 : decide (u = v) = true := by
      simp only [decide_eq_false_iff_not] at g5
      simp
      exact g4.resolve_left g5
    simp only [enc_fnl, enc_fnb, enc_fnc, enc_refc, enc_arr, enc_int, enc_bool, enc_list, enc_rg, enc_mk, enc_tb]
    refine callP_of_vc (Φ := P52) Try.func8 rfl (by rfl) (by rw [Try.ntmps8]; simp) mixed P52_ok (by simp [AV.strip, Tk.strip]) ?_
    rw [Try.ntmps8]
    simp only [Try.f8, startSt, tmFrom]
    simp (maxSteps := 4000000) only [go_sem, drawV, intsOf, keyIdx, over, putO, memAt, List.map_cons, List.length_cons, ↓reduceIte, snap_trues, imm_trues, enc_pair, enc_iterv, zdrop, one_i, one_b, one_sl, one_ptr, one_ref, one_nilp, one_mp, one_fn, one_nilf, c0, d0, hmap, hx, List.nil_append, hone, e1, e2, hcl, hcm, g1, g2, hz, hA, hB, e5, e6, hin, g3', y', ekn, ecn, e7, e8, g5, g6]
    all_goals (repeat' (first | with_reducible rfl | with_reducible apply And.intro | ((with_reducible show drawOK _ = true); rfl))) <;> (try first | omega | (simp only [InR]; omega) | with_reducible assumption)
  · simp only [enc_fnl, enc_fnb, enc_fnc, enc_refc, enc_arr, enc_int, enc_bool, enc_list, enc_rg, enc_mk, enc_tb]
    refine callP_of_vc (Φ := P52) Try.func8 rfl (by rfl) (by rw [Try.ntmps8]; simp) mixed P52_ok (by simp [AV.strip, Tk.strip]) ?_
    rw [Try.ntmps8]
    simp only [Try.f8, startSt, tmFrom]
    simp (maxSteps := 4000000) only [go_sem, drawV, intsOf, keyIdx, over, putO, memAt, List.map_cons, List.length_cons, ↓reduceIte, snap_trues, imm_trues, enc_pair, enc_iterv, zdrop, one_i, one_b, one_sl, one_ptr, one_ref, one_nilp, one_mp, one_fn, one_nilf, c0, d0, hmap, hx, List.nil_append, hone, e1, e2, hcl, hcm, g1, g2, hz, hA, hB, e5, e6, hin, g3', y', ekn, ecn, e7, e8, g5]
    all_goals (repeat' (first | with_reducible rfl | with_reducible apply And.intro | ((with_reducible show drawOK _ = true); rfl))) <;> (try first | omega | (simp only [InR]; omega) | with_reducible assumption)
end Go.Proofs
