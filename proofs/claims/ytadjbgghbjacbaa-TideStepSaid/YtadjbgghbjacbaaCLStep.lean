/- The law TideStep. -/
import Derived.Test.YtadjbgghbjacbaaCS27
set_option linter.all false
namespace Go.Proofs
open Go.Fs
set_option linter.unusedSimpArgs false
set_option linter.unusedVariables false
set_option maxHeartbeats 4000000
set_option maxRecDepth 8000

theorem LsOk.far {t : Tb} {p : List Int} (h : LsOk t p) (hs : 0 ≤ t.step) : ∀ (d i : Nat), i + d < p.length → at_ p (i + d) - at_ p i ≤ t.step * d ∧ at_ p i - at_ p (i + d) ≤ t.step * d
  | 0, i, _ => by simp
  | d + 1, i, hi => by
    have ih := LsOk.far h hs d i (by omega)
    have hn := h.near (i + d) (by omega)
    have e : t.step * ((d + 1 : Nat) : Int) = t.step * d + t.step := by rw [Int.natCast_add, Int.mul_add]; simp
    rw [e, show i + (d + 1) = i + d + 1 by omega]
    omega
theorem LsOk.far' {t : Tb} {p : List Int} (h : LsOk t p) (hs : 0 ≤ t.step) {i k : Nat} (hi : i < p.length) (hk : k < p.length) :
    at_ p i - at_ p k ≤ t.step * max ((i : Int) - k) (k - i) ∧ at_ p k - at_ p i ≤ t.step * max ((i : Int) - k) (k - i) := by
  by_cases c : i ≤ k
  · have := LsOk.far h hs (k - i) i (by omega)
    rw [show i + (k - i) = k by omega] at this
    rw [show max ((i : Int) - k) (k - i) = ((k - i : Nat) : Int) by omega]
    omega
  · have := LsOk.far h hs (i - k) k (by omega)
    rw [show k + (i - k) = i by omega] at this
    rw [show max ((i : Int) - k) (k - i) = ((i - k : Nat) : Int) by omega]
    omega
/-- A table with a greater step. -/
theorem step_ok {t x : Tb} {s : Int} (h : FOk t) (hs : t.step ≤ s) (h9 : s ≤ 99) (hx : (⟨t.last, t.heights, s, t.levels, t.marks⟩ : Tb) = x) :
    FOk x ∧ (∀ p, LsOk t p → LsOk x p) ∧ (∀ p ∈ truthsL t, p ∈ truthsL x) ∧ (∀ S, Poss t S → Poss x S) := by
  have h0 := h.s0
  have hls : ∀ p, LsOk t p → LsOk x p := fun p hp => by
    subst hx
    exact ⟨hp.len, hp.rng, fun i hi => by have := hp.near i hi; simp only; omega⟩
  have hf : FOk x := by
    have hm : manyN x.heights = manyN t.heights := by subst hx; rfl
    have hok : HOk x := by subst hx; exact ⟨h.hok.len, h.hs, by simp only; omega, h9⟩
    have hsome : listsL x ≠ [] := by
      obtain ⟨p, hp⟩ := List.exists_mem_of_ne_nil _ h.some
      intro e
      have := (mem_listsL hok (by rw [hm]; exact h.many) p).2 ((listed_iff p).2 (hls p ((mem_lists h p).1 hp)))
      rw [e] at this; cases this
    have hmany : manyN x.heights ≤ 2000 := by rw [hm]; exact h.many
    subst hx
    exact ⟨h.l9, h.lv, h.m5, h.l0, h.len, by simp only; omega, h9, h.hs, h.ls, h.ms, hmany, hsome⟩
  have hmk : x.marks = t.marks := by subst hx; rfl
  refine ⟨hf, hls, fun p hp => ?_, fun S hS => ?_⟩
  · rw [truth_iff hf, hmk]
    rw [truth_iff h] at hp
    exact ⟨hls p hp.1, hp.2⟩
  · rw [poss_iff hf, hmk]
    rw [poss_iff h] at hS
    obtain ⟨p, h1, h2⟩ := hS
    exact ⟨p, hls p h1, h2⟩
theorem TideStep_true (t : Tb) (which one other more : Int) (hw : InR .u16 which) (h1 : InR .u8 one) (h2 : InR .u8 other) (h3 : InR .u8 more) :
    CallP Try.prog 17 [Enc.enc t, AV.int .u16 which, AV.int .u8 one, AV.int .u8 other, AV.int .u8 more] (· = Enc.enc true) := by
  cases c0 : (thinB t && decide (faultT t = 0))
  · simp only [enc_fnl, enc_fnb, enc_fnc, enc_refc, enc_arr, enc_int, enc_bool, enc_list, enc_rg, enc_mk, enc_tb]
    refine callP_of_vc (Φ := P52) Try.func17 rfl (by rfl) (by rw [Try.ntmps17]; simp) mixed P52_ok (by simp [AV.strip, Tk.strip]) ?_
    rw [Try.ntmps17]
    simp only [Try.f17, startSt, tmFrom]
    simp (maxSteps := 4000000) only [go_sem, AV.one, drawV, intsOf, keyIdx, over, putO, memAt, List.map_cons, List.length_cons, ↓reduceIte, snap_trues, imm_trues, enc_pair, enc_iterv, zdrop, one_i, one_b, one_sl, one_ptr, one_ref, one_nilp, one_mp, one_fn, one_nilf, c0]
    all_goals (repeat' (first | with_reducible rfl | with_reducible apply And.intro | ((with_reducible show drawOK _ = true); rfl))) <;> (try first | omega | (simp only [InR]; omega) | with_reducible assumption)
  have c12 : thinB t = true ∧ faultT t = 0 := by simpa using c0
  obtain ⟨c1, c2⟩ := c12
  have hl := thin_len c1
  have hf := fok_of c2
  have hl0 := hf.l0
  have hl9 := hf.l9
  have hlen := hf.len
  have hs0 := hf.s0
  have hs1 := hf.s1
  have hw0 : 0 ≤ which := hw.1
  have h10 : 0 ≤ one := h1.1
  have h20 : 0 ≤ other := h2.1
  have h30 : 0 ≤ more := h3.1
  have hw1 : which ≤ 65535 := hw.2
  have h11 : one ≤ 255 := h1.2
  have h21 : other ≤ 255 := h2.2
  have h31 : more ≤ 255 := h3.2
  obtain ⟨s', hs'⟩ : ∃ s, min 99 (t.step + more % 5) = s := ⟨_, rfl⟩
  obtain ⟨x, hx⟩ : ∃ x, (⟨t.last, t.heights, s', t.levels, t.marks⟩ : Tb) = x := ⟨_, rfl⟩
  obtain ⟨hfx, hls, htr, hps⟩ := step_ok hf (by omega) (by omega) hx
  have hxl : x.last = t.last := by rw [← hx]
  have hxm : x.marks = t.marks := by rw [← hx]
  have hxh : x.heights = t.heights := by rw [← hx]
  have hxh' : x.heights.length = t.heights.length := by rw [hxh]
  have hxv' : x.levels.length = t.levels.length := by rw [← hx]
  have hxm' : x.marks.length = t.marks.length := by rw [hxm]
  obtain ⟨l, e1, hL⟩ := leave_ok c2
  obtain ⟨m, e2, hM⟩ := leave_ok hfx.fault
  have hml : m.length ≤ l.length := least_len hM (by rw [hxm]; exact hL.inc) (hps _ hL.poss)
  have hcl : (castL l).length = l.length := cast_len l
  have hcm : (castL m).length = m.length := cast_len m
  have hd1 : decide ((l.length : Int) < (m.length : Int)) = false := by simp; omega
  by_cases z : l = []
  case neg =>
    have hz : decide ((0 : Int) < (l.length : Int)) = true := by
      cases l with
      | nil => exact absurd rfl z
      | cons _ _ => simp <;> omega
    simp only [enc_fnl, enc_fnb, enc_fnc, enc_refc, enc_arr, enc_int, enc_bool, enc_list, enc_rg, enc_mk, enc_tb]
    refine callP_of_vc (Φ := P52) Try.func17 rfl (by rfl) (by rw [Try.ntmps17]; simp) mixed P52_ok (by simp [AV.strip, Tk.strip]) ?_
    rw [Try.ntmps17]
    simp only [Try.f17, startSt, tmFrom]
    simp (maxSteps := 4000000) only [go_sem, AV.one, drawV, intsOf, keyIdx, over, putO, memAt, List.map_cons, List.length_cons, ↓reduceIte, snap_trues, imm_trues, enc_pair, enc_iterv, zdrop, one_i, one_b, one_sl, one_ptr, one_ref, one_nilp, one_mp, one_fn, one_nilf, c0, hs', hx, e1, e2, hcl, hcm, hd1, hz]
    all_goals (repeat' (first | with_reducible rfl | with_reducible apply And.intro | ((with_reducible show drawOK _ = true); rfl))) <;> (try first | omega | (simp only [InR]; omega) | with_reducible assumption)
  have hz : decide ((0 : Int) < (l.length : Int)) = false := by rw [z]; rfl
  have q := (least_nil c2 hL).1 z
  obtain ⟨q', hin⟩ := bnd_inside c2 hfx.fault hxl.symm q htr
  have e3 := bnd_ok c2 q
  have e4 := bnd_ok hfx.fault q'
  obtain ⟨A, hA⟩ : ∃ A, ((List.range (t.last + 1).toNat).map fun i : Nat => boundsL (truthsL t) i) = A := ⟨_, rfl⟩
  obtain ⟨B, hB⟩ : ∃ B, ((List.range (x.last + 1).toNat).map fun i : Nat => boundsL (truthsL x) i) = B := ⟨_, rfl⟩
  rw [e3, e4, hA, hB] at hin
  rw [hA] at e3
  rw [hB] at e4
  simp only at hin
  have hAl : (A.length : Int) = t.last + 1 := by rw [← hA]; simp; try omega
  have hBl : (B.length : Int) = x.last + 1 := by rw [← hB]; simp; try omega
  have hAl' : decide ((A.length : Int) = t.last + 1) = true := by simp [hAl]
  obtain ⟨i, ei⟩ := Int.eq_ofNat_of_zero_le (Int.emod_nonneg one (show t.last + 1 ≠ 0 by omega))
  have hi := Int.emod_lt_of_pos one (show (0 : Int) < t.last + 1 by omega)
  rw [ei] at hi
  obtain ⟨k, ek⟩ := Int.eq_ofNat_of_zero_le (Int.emod_nonneg other (show t.last + 1 ≠ 0 by omega))
  have hk := Int.emod_lt_of_pos other (show (0 : Int) < t.last + 1 by omega)
  rw [ek] at hk
  have hpos : 0 < (truthsL t).length := by
    rcases Nat.eq_zero_or_pos (truthsL t).length with h | h
    · exact absurd (List.eq_nil_of_length_eq_zero h) q
    · exact h
  obtain ⟨wn, ewn⟩ := Int.eq_ofNat_of_zero_le (Int.emod_nonneg which (show ((truthsL t).length : Int) ≠ 0 by omega))
  have hwn := Int.emod_lt_of_pos which (show (0 : Int) < (truthsL t).length by omega)
  rw [ewn] at hwn
  have hwn' : wn < (truthsL t).length := by omega
  have hgs := getD_mapA (f := EncE.cs) hwn'
  have hsm := at_mem hwn'
  generalize at_ (truthsL t) wn = s at hgs hsm
  have hso := ((truth_iff hf s).1 hsm).1
  have hslen := hso.len
  have hsb := (truth_lok hf.vok hsm).b
  have hsi := hsb _ (at_mem (l := s) (i := i) (by omega))
  have hsk := hsb _ (at_mem (l := s) (i := k) (by omega))
  have hpr : proveB x s = true := by
    unfold proveB
    rw [Bool.and_eq_true, decide_eq_true_eq]
    exact ⟨hfx.fault, (mem_truthsL hfx.vok s).1 (htr s hsm)⟩
  have hgi : (s.map EncE.cs).getD i [] = [AV.int .i64 (at_ s i)] := by rw [getD_mapA (by omega)]; rfl
  have hgk : (s.map EncE.cs).getD k [] = [AV.int .i64 (at_ s k)] := by rw [getD_mapA (by omega)]; rfl
  have bi := boundsL_isB hf.vok q (hour := (i : Int)) (by omega) (by omega)
  have bk := boundsL_isB hf.vok q (hour := (k : Int)) (by omega) (by omega)
  have hai : at_ A i = boundsL (truthsL t) i := by rw [← hA, at_range _ (by omega)]
  have hak : at_ A k = boundsL (truthsL t) k := by rw [← hA, at_range _ (by omega)]
  rw [← hai] at bi
  rw [← hak] at bk
  simp only [Int.toNat_natCast] at bi bk
  have hgA : (A.map EncE.cs).getD i [] = [AV.int .i64 (at_ A i).lo, AV.int .i64 (at_ A i).hi] := by rw [getD_mapA (by omega)]; rfl
  have hgB : (A.map EncE.cs).getD k [] = [AV.int .i64 (at_ A k).lo, AV.int .i64 (at_ A k).hi] := by rw [getD_mapA (by omega)]; rfl
  have hrA : (0 ≤ (at_ A i).lo ∧ (at_ A i).lo ≤ 99) ∧ 0 ≤ (at_ A i).hi ∧ (at_ A i).hi ≤ 99 := by
    obtain ⟨p, hp, e⟩ := bi.lo
    obtain ⟨p', hp', e'⟩ := bi.hi
    have g1 := (truth_lok hf.vok hp).b _ (at_mem (l := p) (i := i) (by have := (truth_len hf.vok hp); omega))
    have g2 := (truth_lok hf.vok hp').b _ (at_mem (l := p') (i := i) (by have := (truth_len hf.vok hp'); omega))
    omega
  have hrB : (0 ≤ (at_ A k).lo ∧ (at_ A k).lo ≤ 99) ∧ 0 ≤ (at_ A k).hi ∧ (at_ A k).hi ≤ 99 := by
    obtain ⟨p, hp, e⟩ := bk.lo
    obtain ⟨p', hp', e'⟩ := bk.hi
    have g1 := (truth_lok hf.vok hp).b _ (at_mem (l := p) (i := k) (by have := (truth_len hf.vok hp); omega))
    have g2 := (truth_lok hf.vok hp').b _ (at_mem (l := p') (i := k) (by have := (truth_len hf.vok hp'); omega))
    omega
  obtain ⟨far, hfar⟩ : ∃ far, t.step * max ((i : Int) - k) (k - i) = far := ⟨_, rfl⟩
  have hfb : 0 ≤ far ∧ far ≤ 99 * 9 := by
    rw [← hfar]
    exact ⟨Int.mul_nonneg hs0 (by omega), Int.mul_le_mul hs1 (by omega) (by omega) (by omega)⟩
  have g1 := LsOk.far' hso hs0 (i := i) (k := k) (by omega) (by omega)
  rw [hfar] at g1
  have g2 : (at_ A i).hi - (at_ A k).hi ≤ far := by
    obtain ⟨p, hp, e⟩ := bi.hi
    have hpl := truth_len hf.vok hp
    have := LsOk.far' ((truth_iff hf p).1 hp).1 hs0 (i := i) (k := k) (by omega) (by omega)
    rw [hfar] at this
    have := (bk.all _ ⟨p, hp, rfl⟩).2
    omega
  have g3 : (at_ A k).lo - (at_ A i).lo ≤ far := by
    obtain ⟨p, hp, e⟩ := bi.lo
    have hpl := truth_len hf.vok hp
    have := LsOk.far' ((truth_iff hf p).1 hp).1 hs0 (i := i) (k := k) (by omega) (by omega)
    rw [hfar] at this
    have := (bk.all _ ⟨p, hp, rfl⟩).1
    omega
  generalize at_ A i = ri at hgA hrA g2 g3
  generalize at_ A k = rk at hgB hrB g2 g3
  have k1 : decide (at_ s i - at_ s k ≤ far) = true := by simp; omega
  have k2 : decide (at_ s k - at_ s i ≤ far) = true := by simp; omega
  have k3 : decide (ri.hi - rk.hi ≤ far) = true := by simp; omega
  have k4 : decide (rk.lo - ri.lo ≤ far) = true := by simp; omega
  have hv := hf.vok
  have hok := hv.hok
  have hmk := hv.mok
  clear bi bk hai hak
  generalize at_ s i = si at hgi hsi k1 k2
  generalize at_ s k = sk at hgk hsk k1 k2
  simp only [enc_fnl, enc_fnb, enc_fnc, enc_refc, enc_arr, enc_int, enc_bool, enc_list, enc_rg, enc_mk, enc_tb]
  refine callP_of_vc (Φ := P52) Try.func17 rfl (by rfl) (by rw [Try.ntmps17]; simp) mixed P52_ok (by simp [AV.strip, Tk.strip]) ?_
  rw [Try.ntmps17]
  simp only [Try.f17, startSt, tmFrom]
  simp (maxSteps := 4000000) only [go_sem, AV.one, drawV, intsOf, keyIdx, over, putO, memAt, List.map_cons, List.length_cons, ↓reduceIte, snap_trues, imm_trues, enc_pair, enc_iterv, zdrop, one_i, one_b, one_sl, one_ptr, one_ref, one_nilp, one_mp, one_fn, one_nilf, c0, hs', hx, e1, e2, e3, e4, hcl, hcm, hd1, hz, hin, hAl', ei, ek, hfar, ewn, hgs, hgi, hgk, hgA, hgB, k1, k2, k3, k4, hpr, List.append_eq]
  all_goals (repeat' (first | with_reducible rfl | with_reducible apply And.intro | ((with_reducible show drawOK _ = true); rfl))) <;> (try first | omega | (simp only [InR]; omega) | with_reducible assumption)
end Go.Proofs
