/- The law TideLevel. -/
import Derived.Test.YtadjbgghbjacbaaCS27
set_option linter.all false
namespace Go.Proofs
open Go.Fs
set_option linter.unusedSimpArgs false
set_option linter.unusedVariables false
set_option maxHeartbeats 4000000
set_option maxRecDepth 8000

theorem wet_two {L : List (List Int)} {level hour : Int} {r : Rg} (h : IsB (fun z => ∃ p ∈ L, at_ p hour.toNat = z) r) : verdictL L level hour = 2 ↔ r.hi ≤ level := by
  have := h.le
  rw [verdict_iff h]
  by_cases c1 : level < r.lo
  · rw [if_pos c1]; constructor
    · intro q; cases q
    · intro q; omega
  · rw [if_neg c1]
    by_cases c2 : r.hi ≤ level
    · rw [if_pos c2]; simp [c2]
    · rw [if_neg c2]; simp [c2]
/-- A table with other levels. -/
theorem levels_ok {t x : Tb} {ls : List Int} (h : FOk t) (hl : ls.length ≤ 6) (hb : ∀ n ∈ ls, 0 ≤ n ∧ n ≤ 99) (hx : (⟨t.last, t.heights, t.step, ls, t.marks⟩ : Tb) = x) : FOk x ∧ truthsL x = truthsL t := by
  subst hx
  exact ⟨⟨h.l9, hl, h.m5, h.l0, h.len, h.s0, h.s1, h.hs, hb, h.ms, h.many, h.some⟩, rfl⟩
/-- Whether any of the first i hours is not surely dry. -/
def wetAny (L : List (List Int)) (level a : Int) (i : Nat) : Bool := (List.range i).any fun j : Nat => decide (verdictL L level (a + j) ≠ 2)
theorem wetAny_succ (L : List (List Int)) (level a : Int) (i : Nat) : wetAny L level a (i + 1) = (wetAny L level a i || decide (verdictL L level (a + i) ≠ 2)) := by
  simp [wetAny, List.range_succ]
theorem TideLevel_true (t : Tb) (from_ long level : Int) (h1 : InR .u8 from_) (h2 : InR .u8 long) (h3 : InR .u8 level) (hhs : t.heights.length * 16 ≤ reachBytes) :
    CallP Try.prog 14 [Enc.enc t, AV.int .u8 from_, AV.int .u8 long, AV.int .u8 level] (· = Enc.enc true) := by
  have hhs : t.heights.length * 16 ≤ 140737488351232 := hhs
  have h10 : 0 ≤ from_ := h1.1
  have h20 : 0 ≤ long := h2.1
  have h30 : 0 ≤ level := h3.1
  have h11 : from_ ≤ 255 := h1.2
  have h21 : long ≤ 255 := h2.2
  have h31 : level ≤ 255 := h3.2
  obtain ⟨lv, hlv⟩ : ∃ lv, level % 100 = lv := ⟨_, rfl⟩
  obtain ⟨a, ha⟩ : ∃ a, from_ % (max 1 (t.heights.length : Int)) = a := ⟨_, rfl⟩
  have hm1 : (1 : Int) ≤ max 1 (t.heights.length : Int) := by omega
  have ha0 : 0 ≤ a := by rw [← ha]; exact Int.emod_nonneg _ (by omega)
  have ha1 : a < max 1 (t.heights.length : Int) := by rw [← ha]; exact Int.emod_lt_of_pos _ (by omega)
  obtain ⟨x, hx⟩ : ∃ x, (⟨t.last, t.heights, t.step, [lv], t.marks⟩ : Tb) = x := ⟨_, rfl⟩
  cases c0 : (thinB x && decide (faultT x = 0))
  · simp only [enc_fnl, enc_fnb, enc_fnc, enc_refc, enc_arr, enc_int, enc_bool, enc_list, enc_rg, enc_mk, enc_tb]
    refine callP_of_vc (Φ := P52) Try.func14 rfl (by rfl) (by rw [Try.ntmps14]; simp) mixed P52_ok (by simp [AV.strip, Tk.strip]) ?_
    rw [Try.ntmps14]
    simp only [Try.f14, startSt, tmFrom]
    simp (maxSteps := 4000000) only [go_sem, AV.one, drawV, intsOf, keyIdx, over, putO, memAt, List.map_cons, List.length_cons, ↓reduceIte, snap_trues, imm_trues, enc_pair, enc_iterv, zdrop, one_i, one_b, one_sl, one_ptr, one_ref, one_nilp, one_mp, one_fn, one_nilf, hlv, ha, hx, c0]
    all_goals (repeat' (first | with_reducible rfl | with_reducible apply And.intro | ((with_reducible show drawOK _ = true); rfl))) <;> (try first | omega | (simp only [InR]; omega) | with_reducible assumption)
  have c12 : thinB x = true ∧ faultT x = 0 := by simpa using c0
  obtain ⟨c1, c2⟩ := c12
  have hl := thin_len c1
  have hf := fok_of c2
  have hxh : x.heights = t.heights := by rw [← hx]
  have hxl : x.last = t.last := by rw [← hx]
  have hxs : x.step = t.step := by rw [← hx]
  have hxm : x.marks = t.marks := by rw [← hx]
  have hxv : x.levels = [lv] := by rw [← hx]
  have hl0 := hf.l0
  have hl9 := hf.l9
  have hlen := hf.len
  rw [hxl] at hl0 hl9 hlen
  have hhl : x.heights.length = t.heights.length := by rw [hxh]
  have hvl : x.levels.length = 1 := by rw [hxv]; rfl
  have hml : x.marks.length = t.marks.length := by rw [hxm]
  have hv := hf.vok
  obtain ⟨b, hb⟩ : ∃ b, min t.last (a + long % 4) = b := ⟨_, rfl⟩
  have hab : a ≤ b := by omega
  have hbl : b ≤ t.last := by omega
  obtain ⟨b', hb'⟩ : ∃ b', min t.last (b + 1) = b' := ⟨_, rfl⟩
  have hbb : b ≤ b' := by omega
  have hbl' : b' ≤ t.last := by omega
  by_cases c4 : truthsL x = []
  · have e1 := dry_dry c2 c4 (a := a) (b := b) ha0 hab (by omega)
    have e2 := dry_dry c2 c4 (a := a) (b := b') ha0 (by omega) (by omega)
    have e3 := dry_dry c2 c4 (a := a) (b := a) ha0 (by omega) (by omega)
    have e4 := wet_dry c2 c4 (row := 0) (hour := a) (by omega) (by omega) ha0 (by omega)
    simp only [enc_fnl, enc_fnb, enc_fnc, enc_refc, enc_arr, enc_int, enc_bool, enc_list, enc_rg, enc_mk, enc_tb]
    refine callP_of_vc (Φ := P52) Try.func14 rfl (by rfl) (by rw [Try.ntmps14]; simp) mixed P52_ok (by simp [AV.strip, Tk.strip]) ?_
    rw [Try.ntmps14]
    simp only [Try.f14, startSt, tmFrom]
    simp (maxSteps := 4000000) only [go_sem, AV.one, drawV, intsOf, keyIdx, over, putO, memAt, List.map_cons, List.length_cons, ↓reduceIte, snap_trues, imm_trues, enc_pair, enc_iterv, zdrop, one_i, one_b, one_sl, one_ptr, one_ref, one_nilp, one_mp, one_fn, one_nilf, hlv, ha, hx, c0, hb, hb', e1, e2, e3, e4]
    all_goals (repeat' (first | with_reducible rfl | with_reducible apply And.intro | ((with_reducible show drawOK _ = true); rfl))) <;> (try first | omega | (simp only [InR]; omega) | with_reducible assumption)
  have e1 := dry_ok c2 c4 (a := a) (b := b) ha0 hab (by omega)
  have e2 := dry_ok c2 c4 (a := a) (b := b') ha0 (by omega) (by omega)
  have e3 := dry_ok c2 c4 (a := a) (b := a) ha0 (by omega) (by omega)
  have e4 := wet_ok c2 c4 (row := 0) (hour := a) (by omega) (by omega) ha0 (by omega)
  have hlv0 : at_ x.levels (0 : Int).toNat = lv := by rw [hxv]; rfl
  rw [hlv0] at e4
  obtain ⟨r, hr, hrn⟩ := dry_isB c2 c4 (a := a) (b := b) ha0 hab (by omega)
  obtain ⟨r', hr', hrm⟩ := dry_isB c2 c4 (a := a) (b := b') ha0 (by omega) (by omega)
  obtain ⟨r2, hr2, hrk⟩ := dry_isB c2 c4 (a := a) (b := a) ha0 (by omega) (by omega)
  obtain ⟨n, hn⟩ : ∃ n, dryL (truthsL x) a b = n := ⟨_, rfl⟩
  obtain ⟨m, hm⟩ : ∃ m, dryL (truthsL x) a b' = m := ⟨_, rfl⟩
  obtain ⟨k, hk⟩ : ∃ k, dryL (truthsL x) a a = k := ⟨_, rfl⟩
  have hn99 : 0 ≤ n ∧ n ≤ 99 := by rw [← hn]; exact (top_dry hv c4 ha0 hab (by omega)).2
  rw [hn] at e1 hrn
  rw [hm] at e2 hrm
  rw [hk] at e3 hrk
  have hpl : ∀ p ∈ truthsL x, (p.length : Int) = t.last + 1 := fun p hp => by have := truth_len hv hp; rw [hxh] at this; omega
  have hle : ∀ p ∈ truthsL x, ∀ i : Nat, a ≤ i → (i : Int) ≤ b → at_ p i ≤ n := fun p hp i g1 g2 => by
    have := topL_ge (l := p) ha0 g1 g2 (by have := hpl p hp; omega)
    have := (hr.all _ ⟨p, hp, rfl⟩).2
    omega
  have hmn : n ≤ m := by
    obtain ⟨p, hp, e⟩ := hr.hi
    obtain ⟨i, g1, g2, g3⟩ := topL_mem (l := p) ha0 hab (by have := hpl p hp; omega)
    have := topL_ge (l := p) (b := b') ha0 g1 (by omega) (by have := hpl p hp; omega)
    have := (hr'.all _ ⟨p, hp, rfl⟩).2
    omega
  have hkn : k ≤ n := by
    obtain ⟨p, hp, e⟩ := hr2.hi
    obtain ⟨i, g1, g2, g3⟩ := topL_mem (l := p) (a := a) (b := a) ha0 (by omega) (by have := hpl p hp; omega)
    have := hle p hp i g1 (by omega)
    omega
  have hB : ∀ i : Nat, (i : Int) ≤ t.last → IsB (fun z => ∃ p ∈ truthsL x, at_ p (i : Int).toNat = z) (boundsL (truthsL x) i) := fun i hi => boundsL_isB hv c4 (by omega) (by omega)
  obtain ⟨an, rfl⟩ := Int.eq_ofNat_of_zero_le ha0
  have hvk : decide (verdictL (truthsL x) lv (an : Int) = 2) = decide (k ≤ lv) := by
    have h := hB an (by omega)
    congr 1
    rw [wet_two h, eq_iff_iff]
    have : (boundsL (truthsL x) an).hi = k := by
      obtain ⟨p, hp, e⟩ := h.hi
      obtain ⟨q, hq, e'⟩ := hr2.hi
      obtain ⟨i, g1, g2, g3⟩ := topL_mem (l := q) (a := an) (b := an) ha0 (by omega) (by have := hpl q hq; omega)
      have q1 := (hr2.all _ ⟨p, hp, rfl⟩).2
      have q2 := topL_ge (l := p) (a := an) (b := an) (i := an) ha0 (by omega) (by omega) (by have := hpl p hp; omega)
      have q3 := (h.all _ ⟨q, hq, rfl⟩).2
      have q4 : i = an := by omega
      subst q4
      rw [Int.toNat_natCast] at e q3
      omega
    rw [this]
  have p1 : pdryQ x (an : Int) b n = true := by unfold pdryQ; rw [e1]; simp
  have p2 : pdryQ x (an : Int) b (n - 1) = false := by unfold pdryQ; rw [e1]; simp; omega
  have p3 : inB n 0 99 = true := (inB_iff _ _ _).2 hn99
  have d1 : decide (m < n) = false := by simp; omega
  have d2 : decide (n < k) = false := by simp; omega
  obtain ⟨n', hn'⟩ : ∃ n', max 0 (n - 1) = n' := ⟨_, rfl⟩
  obtain ⟨y, hy⟩ : ∃ y, (⟨t.last, t.heights, t.step, [n, n'], t.marks⟩ : Tb) = y := ⟨_, rfl⟩
  have hy2 : (⟨x.last, x.heights, x.step, [n, n'], x.marks⟩ : Tb) = y := by rw [hxl, hxh, hxs, hxm, hy]
  obtain ⟨hfy, hty⟩ := levels_ok hf (by simp) (fun z hz => by simp at hz; omega) hy2
  have hyl : y.last = t.last := by rw [← hy]
  have hyv : y.levels = [n, n'] := by rw [← hy]
  have hyh' : y.heights.length = t.heights.length := by rw [← hy]
  have hyv' : y.levels.length = 2 := by rw [hyv]; rfl
  have hym' : y.marks.length = t.marks.length := by rw [← hy]
  have c4y : truthsL y ≠ [] := by rw [hty]; exact c4
  have w0 : ∀ i : Nat, (an : Int) + i ≤ b → wetQ y 0 ((an : Int) + i) = (2, 0) := fun i hi => by
    rw [wet_ok hfy.fault c4y (by omega) (by omega) (by omega) (by omega), hty]
    have h := hB (an + i) (by omega)
    have e : ((an + i : Nat) : Int) = (an : Int) + i := by omega
    rw [e] at h
    have : at_ y.levels (0 : Int).toNat = n := by rw [hyv]; rfl
    rw [this]
    congr 1
    rw [wet_two h]
    obtain ⟨p, hp, e'⟩ := h.hi
    have := hle p hp (an + i) (by omega) (by omega)
    rw [← e'] 
    rw [show ((an : Int) + i).toNat = an + i by omega]
    exact this
  have w1 : ∀ i : Nat, (an : Int) + i ≤ b → wetQ y 1 ((an : Int) + i) = (verdictL (truthsL x) n' ((an : Int) + i), 0) := fun i hi => by
    rw [wet_ok hfy.fault c4y (by omega) (by omega) (by omega) (by omega), hty]
    have : at_ y.levels (1 : Int).toNat = n' := by rw [hyv]; rfl
    rw [this]
  have hend : n ≠ 0 → wetAny (truthsL x) n' an (b - an + 1).toNat = true := fun hn0 => by
    obtain ⟨p, hp, e⟩ := hr.hi
    obtain ⟨i, g1, g2, g3⟩ := topL_mem (l := p) ha0 hab (by have := hpl p hp; omega)
    unfold wetAny
    rw [List.any_eq_true]
    refine ⟨i - an, List.mem_range.2 (by omega), ?_⟩
    have h := hB i (by omega)
    rw [show ((an : Int) + ((i - an : Nat) : Int)) = (i : Int) by omega]
    simp only [ne_eq, decide_not, Bool.not_eq_true', decide_eq_false_iff_not]
    rw [wet_two h]
    have := (h.all _ ⟨p, hp, rfl⟩).2
    rw [Int.toNat_natCast] at this
    omega
  generalize hV : verdictL (truthsL x) lv (an : Int) = v at e4 hvk
  have hgl : ∀ i : Nat, ¬ ((b - an + 1).toNat : Int) < 0 := fun i => by omega
  cases hkl : decide (k ≤ lv)
  all_goals
    rw [hkl] at hvk
    simp only [enc_fnl, enc_fnb, enc_fnc, enc_refc, enc_arr, enc_int, enc_bool, enc_list, enc_rg, enc_mk, enc_tb]
    refine callP_of_vc (Φ := P52) Try.func14 rfl (by rfl) (by rw [Try.ntmps14]; simp) mixed P52_ok (by simp [AV.strip, Tk.strip]) ?_
    rw [Try.ntmps14]
    simp only [Try.f14, startSt, tmFrom]
    simp (maxSteps := 4000000) only [go_sem, AV.one, drawV, intsOf, keyIdx, over, putO, memAt, List.map_cons, List.length_cons, ↓reduceIte, snap_trues, imm_trues, enc_pair, enc_iterv, zdrop, one_i, one_b, one_sl, one_ptr, one_ref, one_nilp, one_mp, one_fn, one_nilf, hlv, ha, hx, c0, hb, hb', e1, e2, e3, e4, hkl, hvk, p1, p2, p3, d1, d2, hn', hy, Bool.true_bne, Bool.false_bne]
    all_goals (repeat' (first | with_reducible rfl | with_reducible apply And.intro | ((with_reducible show drawOK _ = true); rfl))) <;> (try first | omega | (simp only [InR]; omega) | with_reducible assumption)
    refine loopN ((b - an + 1).toNat) [] [8, 11, 12, 20] (fun i => [(22, .int .i64 (an + i)), (21, .bool (wetAny (truthsL x) n' an i))]) (fun _ m => m) (fun _ => True) ?_ ?_ ?_ ?_
    · trivial
    · simp [bel_ints, cs_arr, dep_arr, cs_int, cs_bool, cs_list, cs_rg, cs_mk, AtHead, Same, AllO, Begins, LtAll, headSt, tokz_nil, tokz_cons, tokz1, lk, dep_int, dep_bool, dep_list, dep_rg, dep_mk, memAt, bel_map, bel_mapF, bel_mapO, bel_undef, bel_int, bel_boolv, bel_nilp, bel_nilf, bel_ptr, bel_arr, bel_mp, bel_yld, bel_agg, bel_tup, bel_ref, bel_only, bel_mpr, bel_fn, bel_sl_nil, bel_sl_nilF, bel_sl_nilO, bel_sl_cons, bel_sl_app, belO_cells, belO_tok, belO_dead, belO_deferred, belO_map, belO_iter, belO_loop, wetAny, -List.map_map]
    · intro i hi _
      have hi' : decide ((an : Int) + i ≤ b) = true := by simp; omega
      have g1 := w0 i (by omega)
      have g2 := w1 i (by omega)
      have g3 := wetAny_succ (truthsL x) n' an i
      have g4 : (an : Int) + i + 1 = an + ((i + 1 : Nat) : Int) := by omega
      cases g5 : wetAny (truthsL x) n' an i
      · cases g6 : decide (verdictL (truthsL x) n' ((an : Int) + i) = 2)
        all_goals
          have g7 : wetAny (truthsL x) n' an (i + 1) = !decide (verdictL (truthsL x) n' ((an : Int) + i) = 2) := by rw [g3, g5]; simp
          rw [g6] at g7
          simp (maxSteps := 4000000) only [go_sem, AV.one, drawV, intsOf, keyIdx, over, putO, memAt, List.map_cons, List.length_cons, ↓reduceIte, snap_trues, imm_trues, enc_pair, enc_iterv, zdrop, one_i, one_b, one_sl, one_ptr, one_ref, one_nilp, one_mp, one_fn, one_nilf, hi', hy, g1, g2, g5, g6]
          all_goals (repeat' (first | with_reducible rfl | with_reducible apply And.intro | ((with_reducible show drawOK _ = true); rfl))) <;> (try first | omega | (simp only [InR]; omega) | with_reducible assumption)
          refine nxt hi trivial ?_
          simp [bel_ints, cs_arr, dep_arr, cs_int, cs_bool, cs_list, cs_rg, cs_mk, AtHead, Same, AllO, Begins, LtAll, headSt, tokz_nil, tokz_cons, tokz1, lk, dep_int, dep_bool, dep_list, dep_rg, dep_mk, memAt, bel_map, bel_mapF, bel_mapO, bel_undef, bel_int, bel_boolv, bel_nilp, bel_nilf, bel_ptr, bel_arr, bel_mp, bel_yld, bel_agg, bel_tup, bel_ref, bel_only, bel_mpr, bel_fn, bel_sl_nil, bel_sl_nilF, bel_sl_nilO, bel_sl_cons, bel_sl_app, belO_cells, belO_tok, belO_dead, belO_deferred, belO_map, belO_iter, belO_loop, g7, g4, -List.map_map]
      · have g7 : wetAny (truthsL x) n' an (i + 1) = true := by rw [g3, g5]; rfl
        simp (maxSteps := 4000000) only [go_sem, AV.one, drawV, intsOf, keyIdx, over, putO, memAt, List.map_cons, List.length_cons, ↓reduceIte, snap_trues, imm_trues, enc_pair, enc_iterv, zdrop, one_i, one_b, one_sl, one_ptr, one_ref, one_nilp, one_mp, one_fn, one_nilf, hi', hy, g1, g2, g5]
        all_goals (repeat' (first | with_reducible rfl | with_reducible apply And.intro | ((with_reducible show drawOK _ = true); rfl))) <;> (try first | omega | (simp only [InR]; omega) | with_reducible assumption)
        refine nxt hi trivial ?_
        simp [bel_ints, cs_arr, dep_arr, cs_int, cs_bool, cs_list, cs_rg, cs_mk, AtHead, Same, AllO, Begins, LtAll, headSt, tokz_nil, tokz_cons, tokz1, lk, dep_int, dep_bool, dep_list, dep_rg, dep_mk, memAt, bel_map, bel_mapF, bel_mapO, bel_undef, bel_int, bel_boolv, bel_nilp, bel_nilf, bel_ptr, bel_arr, bel_mp, bel_yld, bel_agg, bel_tup, bel_ref, bel_only, bel_mpr, bel_fn, bel_sl_nil, bel_sl_nilF, bel_sl_nilO, bel_sl_cons, bel_sl_app, belO_cells, belO_tok, belO_dead, belO_deferred, belO_map, belO_iter, belO_loop, g7, g4, -List.map_map]
    · intro _
      have hi' : decide ((an : Int) + ((b - an + 1).toNat : Int) ≤ b) = false := by simp; omega
      cases g8 : decide (n = 0)
      · have g9 := hend (by simpa using g8)
        simp (maxSteps := 4000000) only [go_sem, AV.one, drawV, intsOf, keyIdx, over, putO, memAt, List.map_cons, List.length_cons, ↓reduceIte, snap_trues, imm_trues, enc_pair, enc_iterv, zdrop, one_i, one_b, one_sl, one_ptr, one_ref, one_nilp, one_mp, one_fn, one_nilf, hi', g8, g9]
        all_goals (repeat' (first | with_reducible rfl | with_reducible apply And.intro | ((with_reducible show drawOK _ = true); rfl))) <;> (try first | omega | (simp only [InR]; omega) | with_reducible assumption)
      · cases g9 : wetAny (truthsL x) n' an (b - an + 1).toNat
        all_goals
          simp (maxSteps := 4000000) only [go_sem, AV.one, drawV, intsOf, keyIdx, over, putO, memAt, List.map_cons, List.length_cons, ↓reduceIte, snap_trues, imm_trues, enc_pair, enc_iterv, zdrop, one_i, one_b, one_sl, one_ptr, one_ref, one_nilp, one_mp, one_fn, one_nilf, hi', g8, g9]
          all_goals (repeat' (first | with_reducible rfl | with_reducible apply And.intro | ((with_reducible show drawOK _ = true); rfl))) <;> (try first | omega | (simp only [InR]; omega) | with_reducible assumption)
end Go.Proofs
