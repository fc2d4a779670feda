/- The texts S11, S12, S13, S14, joined. -/
import Derived.Test.YthdikbechlgkdaaG9
set_option linter.all false
namespace Go.Proofs
open Go.Fs
set_option linter.unusedSimpArgs false
set_option linter.unusedVariables false
set_option maxHeartbeats 1000000
set_option maxRecDepth 8000
theorem near_snoc {t : Tb} {q : List Int} {x : Int} (h10 : q.length < 10) : nearL t.step (q ++ [x]) = (nearL t.step q && nearAt t (q ++ [x]) q.length) := by
  have h := near_step (t := t) (l := q ++ [x]) (i := q.length) (by simp) h10
  rw [List.take_of_length_le (by simp), List.take_left] at h
  rw [h]
  congr 1
  unfold nearAt
  rw [pad_at (by simp) (by simpa using h10), pad_at (by simp; omega) (by omega)]
theorem zipB_snoc {q : List Int} {hs : List Rg} {x : Int} (h : q.length < hs.length) : zipB (q ++ [x]) hs = zipB q hs ++ [inB x (at_ hs q.length).lo (at_ hs q.length).hi] := by
  induction q generalizing hs with
  | nil =>
    cases hs with
    | nil => simp at h
    | cons r hs => rfl
  | cons y q ih =>
    cases hs with
    | nil => simp at h
    | cons r hs =>
      have := ih (hs := hs) (by simpa using h)
      simp only [zipB, List.cons_append, List.zipWith_cons_cons] at this ⊢
      rw [this]; rfl
theorem listed_at {t : Tb} {p : List Int} (h : listedB t p = true) {i : Nat} (hi : i < p.length) : (at_ t.heights i).lo ≤ at_ p i ∧ at_ p i ≤ (at_ t.heights i).hi := by
  have hl := listedB_len h
  simp only [listedB, Bool.and_eq_true] at h
  have hz : i < (zipB p t.heights).length := by rw [zipB_len]; omega
  have := List.all_eq_true.1 h.1 _ (at_mem hz)
  rw [zipB_at hi (by omega)] at this
  exact (inB_iff _ _ _).1 this
theorem mem_seqP {t : Tb} (hok : HOk t) : ∀ (f : Nat) (q p : List Int), q.length + f = t.heights.length → nearL t.step q = true → (zipB q t.heights).all id = true → (p ∈ seqP t f q ↔ listedB t p = true ∧ p.take q.length = q)
  | 0, q, p, hf, hn, hz => by
    simp only [seqP, List.mem_singleton]
    constructor
    · rintro rfl
      refine ⟨?_, List.take_length⟩
      simp only [listedB, hz, hn]
      simp; omega
    · rintro ⟨h, ht⟩
      have := listedB_len h
      rw [← ht, List.take_of_length_le (by omega)]
  | f + 1, q, p, hf, hn, hz => by
    have hk : q.length < t.heights.length := by omega
    have h10 := hok.len
    have key : ∀ x : Int, inB x (at_ t.heights q.length).lo (at_ t.heights q.length).hi = true → nearAt t (q ++ [x]) q.length = true → (p ∈ seqP t f (q ++ [x]) ↔ listedB t p = true ∧ p.take (q.length + 1) = q ++ [x]) := by
      intro x h1 h2
      have := mem_seqP hok f (q ++ [x]) p (by simp; omega) (by rw [near_snoc (by omega), hn, h2]; rfl) (by rw [zipB_snoc hk, List.all_append, hz]; simp [h1])
      simpa using this
    simp only [seqP, List.mem_flatMap, List.mem_range]
    constructor
    · rintro ⟨n, hn1, hp⟩
      have hr : inB ((at_ t.heights q.length).lo + n) (at_ t.heights q.length).lo (at_ t.heights q.length).hi = true := by
        rw [inB_iff]; unfold szR at hn1; omega
      split at hp
      · rename_i hnear
        obtain ⟨g1, g2⟩ := (key _ hr hnear).1 hp
        refine ⟨g1, ?_⟩
        have := congrArg (List.take q.length) g2
        rw [List.take_take] at this
        simpa using this
      · cases hp
    · rintro ⟨g1, g2⟩
      have hl := listedB_len g1
      have hpk : q.length < p.length := by omega
      have hat := listed_at g1 hpk
      have htk : p.take (q.length + 1) = q ++ [at_ p q.length] := by rw [take_succ_at hpk, g2]
      have hnear : nearAt t (q ++ [at_ p q.length]) q.length = true := by
        have h1 : nearL t.step p = true := by simp only [listedB, Bool.and_eq_true] at g1; exact g1.2.2
        have h2 := nearL_mono t.step p (q.length + 1) h1
        rw [htk, near_snoc (by omega), hn] at h2
        simpa using h2
      refine ⟨(at_ p q.length - (at_ t.heights q.length).lo).toNat, by unfold szR; omega, ?_⟩
      have e : (at_ t.heights q.length).lo + (((at_ p q.length - (at_ t.heights q.length).lo).toNat : Nat) : Int) = at_ p q.length := by omega
      simp only [e]
      rw [if_pos hnear]
      exact (key _ ((inB_iff _ _ _).2 hat) hnear).2 ⟨g1, htk⟩
theorem mem_seqL {t : Tb} (hok : HOk t) (hl : (t.heights.length : Int) = t.last + 1) (p : List Int) : p ∈ seqL t ↔ listedB t p = true := by
  unfold seqL
  rw [mem_seqP hok _ [] p (by simp; omega) (by rfl) (by rfl)]
  simp
def prodN (l : List Rg) : Int := l.foldr (fun r n => szR r * n) 1
theorem manyN_prod (l : List Rg) (h : ∀ r ∈ l, r.lo ≤ r.hi) : ∀ n : Int, 1 ≤ n → n ≤ 3000 → l.foldl (fun n r => min 3000 (n * (r.hi - r.lo + 1))) n = min 3000 (n * prodN l) ∧ 1 ≤ prodN l := by
  induction l with
  | nil => intro n h1 h2; simp [prodN]; omega
  | cons r l ih =>
    intro n h1 h2
    have hr := h r (by simp)
    have hs : 1 ≤ r.hi - r.lo + 1 := by omega
    have hns : 1 ≤ n * (r.hi - r.lo + 1) := by
      have := Int.mul_le_mul h1 hs (by omega) (by omega)
      omega
    obtain ⟨e1, e2⟩ := ih (fun r hr => h r (by simp [hr])) (min 3000 (n * (r.hi - r.lo + 1))) (by omega) (by omega)
    have hp : prodN (r :: l) = (r.hi - r.lo + 1) * prodN l := rfl
    refine ⟨?_, ?_⟩
    · simp only [List.foldl_cons]
      rw [e1, hp, ← Int.mul_assoc]
      by_cases c : n * (r.hi - r.lo + 1) ≤ 3000
      · rw [Int.min_eq_right c]
      · have c1 : min 3000 (n * (r.hi - r.lo + 1)) = 3000 := by omega
        rw [c1]
        have g1 : 3000 ≤ 3000 * prodN l := by omega
        have g2 : n * (r.hi - r.lo + 1) ≤ n * (r.hi - r.lo + 1) * prodN l := by
          have := Int.mul_le_mul_of_nonneg_left e2 (show 0 ≤ n * (r.hi - r.lo + 1) by omega)
          omega
        omega
    · rw [hp]
      have := Int.mul_le_mul hs e2 (by omega) (by omega)
      omega
theorem nth_mem (l : List Rg) (h : ∀ r ∈ l, r.lo ≤ r.hi) : ∀ (p : List Int), p.length = l.length → (zipB p l).all id = true → ∃ n : Int, 0 ≤ n ∧ n < prodN l ∧ nthL l n = p := by
  induction l with
  | nil => intro p hp _; exact ⟨0, by omega, by simp [prodN], by cases p <;> simp_all [nthL]⟩
  | cons r l ih =>
    intro p hp hz
    cases p with
    | nil => simp at hp
    | cons x p =>
      have hz' : inB x r.lo r.hi = true ∧ (zipB p l).all id = true := by
        simpa [zipB] using hz
      obtain ⟨n, h1, h2, h3⟩ := ih (fun r hr => h r (by simp [hr])) p (by simpa using hp) hz'.2
      have hx := (inB_iff _ _ _).1 hz'.1
      have hs : 0 < szR r := by unfold szR; omega
      refine ⟨(x - r.lo) + szR r * n, ?_, ?_, ?_⟩
      · have := Int.mul_nonneg (show 0 ≤ szR r by omega) h1
        omega
      · show _ < szR r * prodN l
        have : szR r * n + szR r ≤ szR r * prodN l := by
          have := Int.mul_le_mul_of_nonneg_left (show n + 1 ≤ prodN l by omega) (show 0 ≤ szR r by omega)
          rw [Int.mul_add, Int.mul_one] at this
          exact this
        unfold szR at this ⊢
        omega
      · have e1 : ((x - r.lo) + szR r * n) % szR r = x - r.lo := by
          rw [Int.add_mul_emod_self_left]
          exact Int.emod_eq_of_lt (by omega) (by unfold szR; omega)
        have e2 : ((x - r.lo) + szR r * n) / szR r = n := by
          rw [Int.add_mul_ediv_left _ _ (by omega), Int.ediv_eq_zero_of_lt (by omega) (by unfold szR; omega)]
          omega
        simp only [nthL, e1, e2, h3]
        congr 1
        omega
theorem nth_zip (l : List Rg) (h : ∀ r ∈ l, r.lo ≤ r.hi) : ∀ n : Int, 0 ≤ n → (zipB (nthL l n) l).all id = true := by
  induction l with
  | nil => intro n _; rfl
  | cons r l ih =>
    intro n hn
    have hr := h r (by simp)
    have h1 := Int.emod_lt_of_pos n (show 0 < szR r by unfold szR; omega)
    have h2 := Int.emod_nonneg n (show szR r ≠ 0 by unfold szR; omega)
    have h3 := ih (fun r hr => h r (by simp [hr])) (n / szR r) (Int.ediv_nonneg hn (by unfold szR; omega))
    have h4 : inB (r.lo + n % szR r) r.lo r.hi = true := by rw [inB_iff]; unfold szR at h1 h2 ⊢; omega
    simp only [nthL, zipB, List.zipWith_cons_cons, List.all_cons, h4, id]
    exact h3
theorem mem_listsL {t : Tb} (hok : HOk t) (hm : manyN t.heights ≤ 2000) (p : List Int) : p ∈ listsL t ↔ listedB t p = true := by
  have hlo : ∀ r ∈ t.heights, r.lo ≤ r.hi := fun r hr => (hok.h r hr).2.1
  obtain ⟨e1, e2⟩ := manyN_prod t.heights hlo 1 (by omega) (by omega)
  have e3 : manyN t.heights = prodN t.heights := by
    have : manyN t.heights = min 3000 (1 * prodN t.heights) := e1
    omega
  simp only [listsL, listsN, List.mem_filter, List.mem_map, List.mem_range]
  constructor
  · rintro ⟨⟨n, hn, rfl⟩, hnear⟩
    simp only [listedB, nth_zip t.heights hlo n (by omega), hnear, nthL_length]
    simp
  · intro h
    have hl := listedB_len h
    simp only [listedB, Bool.and_eq_true] at h
    obtain ⟨n, h1, h2, h3⟩ := nth_mem t.heights hlo p hl h.1
    refine ⟨⟨n.toNat, by omega, ?_⟩, h.2.2⟩
    rw [show ((n.toNat : Nat) : Int) = n by omega, h3]
end Go.Proofs
namespace Go.Proofs
open Go.Fs
set_option linter.unusedSimpArgs false
set_option linter.unusedVariables false
set_option maxHeartbeats 4000000
set_option maxRecDepth 8000
def rangeM {σ : Type} (mm : σ → List AObj) (ls : σ → LoopState) (pd : σ → Option Code) (tm' : List (Nat × AV)) (n : Nat) (ps : Array Tmp) (asg body : Code) (a : σ) : List AObj :=
  mm a ++ [AObj.deferred, AObj.loop (ls a) (pd a) tm' n ps asg body]
theorem rangeA_lists {σ : Type} (mm : σ → List AObj) (ls : σ → LoopState) (pd : σ → Option Code) {t : Tb} (go : σ → List Int → Bool) (next : σ → List Int → σ) (Rdy : Nat → σ → Prop) (T : Nat) (tm' : List (Nat × AV)) (a0 : σ)
    {Q : QA} {st : St} {f : Operand} {ps : Array Tmp} {asg body : Code}
    (hok : HOk t) (hl : (t.heights.length : Int) = t.last + 1) (hf : (evT st.tm f).un = .fn (.func 75) [] [.ref (tbC t) 0]) (hav : (evT st.tm f).av)
    (htm : ∀ q ∈ tm', q.2 = (lk st.tm q.1).strip) (hm0 : mm a0 = st.mem) (hs0 : ls a0 = .ready) (hp0 : pd a0 = none)
    (hi : Iter (rangeM mm ls pd tm' st.n ps asg body) (st.mem.length + 2) (st.mem.length + 1) t go next Rdy T) (hr : Rdy 0 a0) (hT : (seqL t).length ≤ T)
    (hend : endA Q st (rangeM mm ls pd tm' st.n ps asg body (runS go next a0 (seqL t)).1) (memAt (rangeM mm ls pd tm' st.n ps asg body (runS go next a0 (seqL t)).1) (st.mem.length + 1))) : rangeA Try.prog f ps asg body Q st := by
  unfold rangeA
  rw [hf]
  have hM0 : rangeM mm ls pd tm' st.n ps asg body a0 = st.mem ++ [AObj.deferred, AObj.loop .ready none tm' st.n ps asg body] := by
    unfold rangeM; rw [hm0, hs0, hp0]
  refine ⟨hav, tm', (fun r mem' => mem' = rangeM mm ls pd tm' st.n ps asg body (runS go next a0 (seqL t)).1), htm, ?_, ?_⟩
  · rw [← hM0]
    exact lists1_call hi hok hl a0 hr hT
  · intro r mem' h hlen
    rw [h]
    exact hend
theorem vc_range {P : Program} {Φ : Specs} {Q : QA} {st : St} {f : Operand} {ps : Array Tmp} {asg body : Code} (ts : List TZ) (h : rangeA P f ps asg body Q (tokz ts st)) : vc P Φ (.rangeFunc f ps asg body) Q st := ⟨ts, h⟩
theorem vc_range0 {P : Program} {Φ : Specs} {Q : QA} {st : St} {f : Operand} {ps : Array Tmp} {asg body : Code} (h : rangeA P f ps asg body Q st) : vc P Φ (.rangeFunc f ps asg body) Q st := ⟨[], h⟩
def manyC (l : List Rg) : Int := l.foldl (fun n r => min (n * (r.hi - r.lo + 1)) 2001) 1
theorem manyC_prod (l : List Rg) (h : ∀ r ∈ l, r.lo ≤ r.hi) : ∀ n : Int, 1 ≤ n → n ≤ 2001 → l.foldl (fun n r => min (n * (r.hi - r.lo + 1)) 2001) n = min (n * prodN l) 2001 ∧ 1 ≤ prodN l := by
  induction l with
  | nil => intro n h1 h2; simp [prodN]; omega
  | cons r l ih =>
    intro n h1 h2
    have hr := h r (by simp)
    have hs : 1 ≤ r.hi - r.lo + 1 := by omega
    have hns : 1 ≤ n * (r.hi - r.lo + 1) := by
      have := Int.mul_le_mul h1 hs (by omega) (by omega)
      omega
    obtain ⟨e1, e2⟩ := ih (fun r hr => h r (by simp [hr])) (min (n * (r.hi - r.lo + 1)) 2001) (by omega) (by omega)
    have hp : prodN (r :: l) = (r.hi - r.lo + 1) * prodN l := rfl
    refine ⟨?_, ?_⟩
    · simp only [List.foldl_cons]
      rw [e1, hp, ← Int.mul_assoc]
      by_cases c : n * (r.hi - r.lo + 1) ≤ 2001
      · rw [Int.min_eq_left c]
      · have c1 : min (n * (r.hi - r.lo + 1)) 2001 = 2001 := by omega
        rw [c1]
        have g1 : 2001 ≤ 2001 * prodN l := by omega
        have g2 : n * (r.hi - r.lo + 1) ≤ n * (r.hi - r.lo + 1) * prodN l := by
          have := Int.mul_le_mul_of_nonneg_left e2 (show 0 ≤ n * (r.hi - r.lo + 1) by omega)
          omega
        omega
    · rw [hp]
      have := Int.mul_le_mul hs e2 (by omega) (by omega)
      omega
theorem many_same (l : List Rg) (h : ∀ r ∈ l, r.lo ≤ r.hi) : (2000 < manyC l ↔ 2000 < manyN l) ∧ 0 ≤ manyC l ∧ manyC l ≤ 2001 := by
  obtain ⟨e1, e2⟩ := manyC_prod l h 1 (by omega) (by omega)
  obtain ⟨g1, g2⟩ := manyN_prod l h 1 (by omega) (by omega)
  unfold manyC manyN
  rw [e1, g1]
  omega
theorem manyC_take (l : List Rg) (i : Nat) (hi : i < l.length) : manyC (l.take (i + 1)) = min (manyC (l.take i) * ((at_ l i).hi - (at_ l i).lo + 1)) 2001 := by
  unfold manyC; rw [take_succ_at hi, List.foldl_append]; rfl
theorem CheckTable_call (t : Tb) (h : t.heights.length ≤ 4096) : CallP Try.prog 28 [Enc.enc t] (· = Enc.enc (faultT t)) := by
  unfold faultT
  by_cases a1 : 9 < t.last
  · rw [if_pos (.inl a1)]
    simp only [enc_fnl, enc_fnb, enc_fnc, enc_refc, enc_arr, enc_int, enc_bool, enc_list, enc_rg, enc_mk, enc_tb]
    refine callP_of_vc (Φ := P35) Try.func28 rfl (by rfl) (by rw [Try.ntmps28]; simp) mixed P35_ok (by simp [AV.strip, AV.strip1, Tk.strip]) ?_
    rw [Try.ntmps28]
    simp only [Try.f28, startSt, tmFrom]
    simp (maxSteps := 4000000) only [go_sem, AV.one, drawV, intsOf, keyIdx, over, putO, memAt, List.map_cons, List.length_cons, ↓reduceIte, enc_iterv, a1]
  by_cases a2 : 6 < t.levels.length
  · rw [if_pos (.inr (.inl a2))]
    simp only [enc_fnl, enc_fnb, enc_fnc, enc_refc, enc_arr, enc_int, enc_bool, enc_list, enc_rg, enc_mk, enc_tb]
    refine callP_of_vc (Φ := P35) Try.func28 rfl (by rfl) (by rw [Try.ntmps28]; simp) mixed P35_ok (by simp [AV.strip, AV.strip1, Tk.strip]) ?_
    rw [Try.ntmps28]
    simp only [Try.f28, startSt, tmFrom]
    simp (maxSteps := 4000000) only [go_sem, AV.one, drawV, intsOf, keyIdx, over, putO, memAt, List.map_cons, List.length_cons, ↓reduceIte, enc_iterv, a1, show ((6 : Int) < t.levels.length) by omega]
  by_cases a3 : 5 < t.marks.length
  · rw [if_pos (.inr (.inr a3))]
    simp only [enc_fnl, enc_fnb, enc_fnc, enc_refc, enc_arr, enc_int, enc_bool, enc_list, enc_rg, enc_mk, enc_tb]
    refine callP_of_vc (Φ := P35) Try.func28 rfl (by rfl) (by rw [Try.ntmps28]; simp) mixed P35_ok (by simp [AV.strip, AV.strip1, Tk.strip]) ?_
    rw [Try.ntmps28]
    simp only [Try.f28, startSt, tmFrom]
    simp (maxSteps := 4000000) only [go_sem, AV.one, drawV, intsOf, keyIdx, over, putO, memAt, List.map_cons, List.length_cons, ↓reduceIte, enc_iterv, a1, show ¬ ((6 : Int) < t.levels.length) by omega, show ((5 : Int) < t.marks.length) by omega]
  rw [if_neg (show ¬ (9 < t.last ∨ 6 < t.levels.length ∨ 5 < t.marks.length) by omega)]
  have a2' : ¬ ((6 : Int) < t.levels.length) := by omega
  have a3' : ¬ ((5 : Int) < t.marks.length) := by omega
  by_cases b1 : t.last < 0
  · rw [if_pos (.inl b1)]
    simp only [enc_fnl, enc_fnb, enc_fnc, enc_refc, enc_arr, enc_int, enc_bool, enc_list, enc_rg, enc_mk, enc_tb]
    refine callP_of_vc (Φ := P35) Try.func28 rfl (by rfl) (by rw [Try.ntmps28]; simp) mixed P35_ok (by simp [AV.strip, AV.strip1, Tk.strip]) ?_
    rw [Try.ntmps28]
    simp only [Try.f28, startSt, tmFrom]
    simp (maxSteps := 4000000) only [go_sem, AV.one, drawV, intsOf, keyIdx, over, putO, memAt, List.map_cons, List.length_cons, ↓reduceIte, enc_iterv, a1, a2', a3', b1]
  have hl1 : InR .i64 (t.last + 1) := (by simp only [InR]; omega)
  by_cases b2 : (t.heights.length : Int) = t.last + 1
  case neg =>
    rw [if_pos (.inr (.inl b2))]
    simp only [enc_fnl, enc_fnb, enc_fnc, enc_refc, enc_arr, enc_int, enc_bool, enc_list, enc_rg, enc_mk, enc_tb]
    refine callP_of_vc (Φ := P35) Try.func28 rfl (by rfl) (by rw [Try.ntmps28]; simp) mixed P35_ok (by simp [AV.strip, AV.strip1, Tk.strip]) ?_
    rw [Try.ntmps28]
    simp only [Try.f28, startSt, tmFrom]
    simp (maxSteps := 4000000) only [go_sem, AV.one, drawV, intsOf, keyIdx, over, putO, memAt, List.map_cons, List.length_cons, ↓reduceIte, enc_iterv, a1, a2', a3', b1, b2]
    all_goals (repeat' (first | with_reducible rfl | with_reducible apply And.intro | ((with_reducible show drawOK _ _ = true); rfl))) <;> (try first | omega | (simp only [InR]; omega) | with_reducible assumption)
  have hh : t.heights.length ≤ 4096 := h
  have hv : t.levels.length ≤ 4096 := by omega
  have hm : t.marks.length ≤ 4096 := by omega
  cases b3 : t.heights.all isHeights
  · have e : (if t.last < 0 ∨ (t.heights.length : Int) ≠ t.last + 1 ∨ inB t.step 0 99 = false then (1 : Int) else if t.heights.all isHeights = false then 1 else if (t.levels.all fun n => inB n 0 99) = false then 1 else if t.marks.all (markB t.last) = false then 1 else if 2000 < manyN t.heights then 3 else if listsL t = [] then 9 else 0) = 1 := by
      rw [b3, if_pos (rfl : false = false)]; split <;> rfl
    rw [b3] at e
    rw [e]
    simp only [enc_fnl, enc_fnb, enc_fnc, enc_refc, enc_arr, enc_int, enc_bool, enc_list, enc_rg, enc_mk, enc_tb]
    refine callP_of_vc (Φ := P35) Try.func28 rfl (by rfl) (by rw [Try.ntmps28]; simp) mixed P35_ok (by simp [AV.strip, AV.strip1, Tk.strip]) ?_
    rw [Try.ntmps28]
    simp only [Try.f28, startSt, tmFrom]
    simp (maxSteps := 4000000) only [go_sem, AV.one, drawV, intsOf, keyIdx, over, putO, memAt, List.map_cons, List.length_cons, ↓reduceIte, enc_iterv, a1, a2', a3', b1, b2, b3]
    all_goals (repeat' (first | with_reducible rfl | with_reducible apply And.intro | ((with_reducible show drawOK _ _ = true); rfl))) <;> (try first | omega | (simp only [InR]; omega) | with_reducible assumption)
  rw [if_neg (show ¬ (true = false) by simp)]
  cases b4 : inB t.step 0 99
  · rw [if_pos (.inr (.inr rfl))]
    simp only [enc_fnl, enc_fnb, enc_fnc, enc_refc, enc_arr, enc_int, enc_bool, enc_list, enc_rg, enc_mk, enc_tb]
    refine callP_of_vc (Φ := P35) Try.func28 rfl (by rfl) (by rw [Try.ntmps28]; simp) mixed P35_ok (by simp [AV.strip, AV.strip1, Tk.strip]) ?_
    rw [Try.ntmps28]
    simp only [Try.f28, startSt, tmFrom]
    simp (maxSteps := 4000000) only [go_sem, AV.one, drawV, intsOf, keyIdx, over, putO, memAt, List.map_cons, List.length_cons, ↓reduceIte, enc_iterv, a1, a2', a3', b1, b2, b3, b4]
    all_goals (repeat' (first | with_reducible rfl | with_reducible apply And.intro | ((with_reducible show drawOK _ _ = true); rfl))) <;> (try first | omega | (simp only [InR]; omega) | with_reducible assumption)
  have hno : ¬ (t.last < 0 ∨ (t.heights.length : Int) ≠ t.last + 1 ∨ true = false) := by
    rintro (q | q | q)
    · exact b1 q
    · exact q b2
    · simp at q
  rw [if_neg hno]
  cases b5 : t.levels.all (fun n => inB n 0 99)
  · rw [if_pos rfl]
    simp only [enc_fnl, enc_fnb, enc_fnc, enc_refc, enc_arr, enc_int, enc_bool, enc_list, enc_rg, enc_mk, enc_tb]
    refine callP_of_vc (Φ := P35) Try.func28 rfl (by rfl) (by rw [Try.ntmps28]; simp) mixed P35_ok (by simp [AV.strip, AV.strip1, Tk.strip]) ?_
    rw [Try.ntmps28]
    simp only [Try.f28, startSt, tmFrom]
    simp (maxSteps := 4000000) only [go_sem, AV.one, drawV, intsOf, keyIdx, over, putO, memAt, List.map_cons, List.length_cons, ↓reduceIte, enc_iterv, a1, a2', a3', b1, b2, b3, b4, b5]
    all_goals (repeat' (first | with_reducible rfl | with_reducible apply And.intro | ((with_reducible show drawOK _ _ = true); rfl))) <;> (try first | omega | (simp only [InR]; omega) | with_reducible assumption)
  rw [if_neg (show ¬ (true = false) by simp)]
  cases b6 : t.marks.all (fun m => markB t.last m)
  · rw [if_pos rfl]
    simp only [enc_fnl, enc_fnb, enc_fnc, enc_refc, enc_arr, enc_int, enc_bool, enc_list, enc_rg, enc_mk, enc_tb]
    refine callP_of_vc (Φ := P35) Try.func28 rfl (by rfl) (by rw [Try.ntmps28]; simp) mixed P35_ok (by simp [AV.strip, AV.strip1, Tk.strip]) ?_
    rw [Try.ntmps28]
    simp only [Try.f28, startSt, tmFrom]
    simp (maxSteps := 4000000) only [go_sem, AV.one, drawV, intsOf, keyIdx, over, putO, memAt, List.map_cons, List.length_cons, ↓reduceIte, enc_iterv, a1, a2', a3', b1, b2, b3, b4, b5, b6]
    all_goals (repeat' (first | with_reducible rfl | with_reducible apply And.intro | ((with_reducible show drawOK _ _ = true); rfl))) <;> (try first | omega | (simp only [InR]; omega) | with_reducible assumption)
  rw [if_neg (show ¬ (true = false) by simp)]
  have hst := (inB_iff _ _ _).1 b4
  have hok : HOk t := ⟨by omega, fun r hr => (isHeights_iff r).1 (List.all_eq_true.1 b3 r hr), hst.1, hst.2⟩
  simp only [enc_fnl, enc_fnb, enc_fnc, enc_refc, enc_arr, enc_int, enc_bool, enc_list, enc_rg, enc_mk, enc_tb]
  refine callP_of_vc (Φ := P35) Try.func28 rfl (by rfl) (by rw [Try.ntmps28]; simp) mixed P35_ok (by simp [AV.strip, AV.strip1, Tk.strip]) ?_
  rw [Try.ntmps28]
  simp only [Try.f28, startSt, tmFrom]
  simp (maxSteps := 4000000) only [go_sem, AV.one, drawV, intsOf, keyIdx, over, putO, memAt, List.map_cons, List.length_cons, ↓reduceIte, enc_iterv, a1, a2', a3', b1, b2, b3, b4, b5, b6]
  all_goals (repeat' (first | with_reducible rfl | with_reducible apply And.intro | ((with_reducible show drawOK _ _ = true); rfl))) <;> (try first | omega | (simp only [InR]; omega) | with_reducible assumption)
  refine loopN (t.heights.length) [] [1, 2, 64, 65] (fun i => [(66, .int .i64 i), (4, .int .i64 (manyC (t.heights.take i)))]) (fun _ m => m) (fun _ => True) ?_ ?_ ?_ ?_
  · trivial
  · simp [AV.bare, bel_ints, cs_arr, dep_arr, cs_int, cs_bool, cs_list, cs_rg, cs_mk, AtHead, Same, AllO, Begins, LtAll, headSt, tokz_nil, tokz_cons, tokz1, lk, dep_int, dep_bool, dep_list, dep_rg, dep_mk, memAt, bel_map, bel_mapF, bel_mapO, bel_undef, bel_int, bel_boolv, bel_nilp, bel_nilf, bel_ptr, bel_arr, bel_mp, bel_yld, bel_agg, bel_tup, bel_ref, bel_only, bel_mpr, bel_fn, bel_sl_nil, bel_sl_nilF, bel_sl_nilO, bel_sl_cons, bel_sl_app, belO_cells, belO_tok, belO_dead, belO_deferred, belO_map, belO_iter, belO_loop, bel_vec, bel_vp, belO_vecM, belO_vec, manyC]
  · intro i hi _
    have hr := hok.h _ (at_mem hi)
    have hmc := (many_same (t.heights.take i) (fun r hr => (hok.h r (List.mem_of_mem_take hr)).2.1)).2
    have hi' : (i : Int) < t.last + 1 := by omega
    have hp : 0 ≤ manyC (t.heights.take i) * ((at_ t.heights i).hi - (at_ t.heights i).lo + 1) ∧ manyC (t.heights.take i) * ((at_ t.heights i).hi - (at_ t.heights i).lo + 1) ≤ 2001 * 100 :=
      ⟨Int.mul_nonneg hmc.1 (by omega), Int.mul_le_mul hmc.2 (by omega) (by omega) (by omega)⟩
    simp (maxSteps := 4000000) only [go_sem, AV.one, drawV, intsOf, keyIdx, over, putO, memAt, List.map_cons, List.length_cons, ↓reduceIte, getD_mapA hi, hi', minL_two]
    all_goals (repeat' (first | with_reducible rfl | with_reducible apply And.intro | ((with_reducible show drawOK _ _ = true); rfl))) <;> (try first | omega | (simp only [InR]; omega) | with_reducible assumption)
    · simp
    · refine nxt hi trivial ?_
      simp [AV.bare, bel_ints, cs_arr, dep_arr, cs_int, cs_bool, cs_list, cs_rg, cs_mk, AtHead, Same, AllO, Begins, LtAll, headSt, tokz_nil, tokz_cons, tokz1, lk, dep_int, dep_bool, dep_list, dep_rg, dep_mk, memAt, bel_map, bel_mapF, bel_mapO, bel_undef, bel_int, bel_boolv, bel_nilp, bel_nilf, bel_ptr, bel_arr, bel_mp, bel_yld, bel_agg, bel_tup, bel_ref, bel_only, bel_mpr, bel_fn, bel_sl_nil, bel_sl_nilF, bel_sl_nilO, bel_sl_cons, bel_sl_app, belO_cells, belO_tok, belO_dead, belO_deferred, belO_map, belO_iter, belO_loop, bel_vec, bel_vp, belO_vecM, belO_vec, manyC_take _ _ hi]
  · intro _
    have hi' : ¬ ((t.heights.length : Int) < t.last + 1) := by omega
    simp (maxSteps := 4000000) only [go_sem, AV.one, drawV, intsOf, keyIdx, over, putO, memAt, List.map_cons, List.length_cons, ↓reduceIte, hi', enc_iterv, List.take_length]
    have hms := (many_same t.heights (fun r hr => (hok.h r hr).2.1)).1
    refine ⟨fun q => ?_, fun q => ?_⟩
    · simp at q
      rw [if_pos (hms.1 q)]
    · have hmn : ¬ 2000 < manyN t.heights := by simp at q; omega
      rw [if_neg hmn]
      refine vc_range0 ?_
      refine rangeA_lists (fun _ : Bool => [AObj.cells [AV.int IntKind.i64 t.last, AV.sl (List.map EncE.cs t.heights) Tk.no, AV.int IntKind.i64 t.step, AV.sl (List.map EncE.cs t.levels) Tk.no, AV.sl (List.map EncE.cs t.marks) Tk.no],
          AObj.cells [AV.int IntKind.i64 0]]) (fun a => if a then .done else .ready) (fun a => if a then some .ret else none) (fun _ _ => false) (fun _ _ => true) (fun _ a => a = false) _ [(1, .ptr 0 0), (2, .ptr 1 0)] false
        hok b2 rfl trivial ?_ rfl rfl rfl ?_ rfl (Nat.le_refl _) ?_
      · simp [lk, AV.strip, tokz_nil]
      · refine ⟨fun a => rfl, by simp [tokz_nil], fun a => ?_, ?_, fun k a p h _ q => by simp at q⟩
        · cases a <;> simp [AV.bare, bel_ints, cs_arr, dep_arr, cs_int, cs_bool, cs_list, cs_rg, cs_mk, AtHead, Same, AllO, Begins, LtAll, headSt, tokz_nil, tokz_cons, tokz1, lk, dep_int, dep_bool, dep_list, dep_rg, dep_mk, memAt, bel_map, bel_mapF, bel_mapO, bel_undef, bel_int, bel_boolv, bel_nilp, bel_nilf, bel_ptr, bel_arr, bel_mp, bel_yld, bel_agg, bel_tup, bel_ref, bel_only, bel_mpr, bel_fn, bel_sl_nil, bel_sl_nilF, bel_sl_nilO, bel_sl_cons, bel_sl_app, belO_cells, belO_tok, belO_dead, belO_deferred, belO_map, belO_iter, belO_loop, bel_vec, bel_vp, belO_vecM, belO_vec, rangeM, belO_loop, belO_cells, belO_deferred]
        · intro k a p s ha hkT hp hlo hs
          subst ha
          refine yieldM_of_vc (Φ := P35) (hl := rfl) rfl (by simp) rfl rfl mixed P35_ok (by simp [AV.strip, AV.strip1]) (by simp [AV.strip, AV.strip1]) ?_
          simp (maxSteps := 4000000) only [go_sem, AV.one, drawV, intsOf, keyIdx, over, putO, memAt, List.map_cons, List.length_cons, ↓reduceIte, beginA, roundA, endB, xtra, putArgs, rangeM]
          simp [AV.bare, bel_ints, cs_arr, dep_arr, cs_int, cs_bool, cs_list, cs_rg, cs_mk, AtHead, Same, AllO, Begins, LtAll, headSt, tokz_nil, tokz_cons, tokz1, lk, dep_int, dep_bool, dep_list, dep_rg, dep_mk, memAt, bel_map, bel_mapF, bel_mapO, bel_undef, bel_int, bel_boolv, bel_nilp, bel_nilf, bel_ptr, bel_arr, bel_mp, bel_yld, bel_agg, bel_tup, bel_ref, bel_only, bel_mpr, bel_fn, bel_sl_nil, bel_sl_nilF, bel_sl_nilO, bel_sl_cons, bel_sl_app, belO_cells, belO_tok, belO_dead, belO_deferred, belO_map, belO_iter, belO_loop, bel_vec, bel_vp, belO_vecM, belO_vec, belO_loop, belO_cells, belO_deferred, tbC]
      · cases hq : seqL t with
        | nil =>
          simp (maxSteps := 4000000) only [go_sem, AV.one, drawV, intsOf, keyIdx, over, putO, memAt, List.map_cons, List.length_cons, ↓reduceIte, endA, pendA, runS, doneA, rangeM]
          refine ⟨rfl, ?_⟩
          have : listsL t = [] := by
            cases hl2 : listsL t with
            | nil => rfl
            | cons p r =>
              have h1 : p ∈ listsL t := by rw [hl2]; simp
              have h2 := (mem_seqL hok b2 p).2 ((mem_listsL hok (by omega) p).1 h1)
              rw [hq] at h2; cases h2
          rw [if_pos this]
        | cons p r =>
          simp (maxSteps := 4000000) only [go_sem, AV.one, drawV, intsOf, keyIdx, over, putO, memAt, List.map_cons, List.length_cons, ↓reduceIte, endA, pendA, runS, doneA, rangeM]
          refine ⟨rfl, ?_⟩
          rw [if_neg]
          intro hl2
          have h1 : p ∈ seqL t := by rw [hq]; simp
          have h2 := (mem_listsL hok (by omega) p).2 ((mem_seqL hok b2 p).1 h1)
          rw [hl2] at h2; cases h2
def P36 : Specs := addSpec 28 (spec1 (fun t : Tb => t.heights.length ≤ 4096) faultT) (P35)
theorem P36_app (g : FuncId) : P36 g = (addSpec 28 (spec1 (fun t : Tb => t.heights.length ≤ 4096) faultT) (P35)) g := rfl
theorem P36_ok : SpecsOk Try.prog P36 := addSpec_ok (spec1_ok CheckTable_call) (P35_ok)
attribute [go_sem] P36_app
theorem P36_flag (d : Option Nat) : flagOf P36 d = none := (flagOf_add (by decide) d).trans (P35_flag d)
attribute [go_sem] P36_flag
theorem fault_ok {t : Tb} (h : faultT t = 0) : VOk t := by
  unfold faultT at h
  split at h
  · cases h
  rename_i h1
  split at h
  · cases h
  rename_i h2
  split at h
  · cases h
  rename_i h3
  split at h
  · cases h
  rename_i h4
  split at h
  · cases h
  rename_i h5
  split at h
  · cases h
  rename_i h6
  split at h
  · cases h
  rename_i h7
  simp only [not_or, Bool.not_eq_false, ne_eq, Decidable.not_not] at h1 h2 h3 h4 h5
  have hs := (inB_iff _ _ _).1 h2.2.2
  have hok : HOk t := ⟨by omega, fun r hr => (isHeights_iff r).1 (List.all_eq_true.1 h3 r hr), hs.1, hs.2⟩
  refine ⟨hok, ⟨by omega, fun m hm => ?_⟩, h2.2.1, by omega, fun x hx => ?_, by omega, h7⟩
  · have := List.all_eq_true.1 h5 m hm
    simp only [markB, Bool.and_eq_true, decide_eq_true_eq] at this
    have g1 := (inB_iff _ _ _).1 this.1.1.1
    have g2 := (inB_iff _ _ _).1 this.1.1.2
    omega
  · exact (inB_iff _ _ _).1 (List.all_eq_true.1 h4 x hx)
end Go.Proofs
namespace Go.Proofs
open Go.Fs
set_option linter.unusedSimpArgs false
set_option linter.unusedVariables false
set_option maxHeartbeats 4000000
set_option maxRecDepth 8000
theorem zdrop : List.drop 10 [AV.int IntKind.i64 0, AV.int IntKind.i64 0, AV.int IntKind.i64 0, AV.int IntKind.i64 0, AV.int IntKind.i64 0, AV.int IntKind.i64 0, AV.int IntKind.i64 0, AV.int IntKind.i64 0, AV.int IntKind.i64 0, AV.int IntKind.i64 0] = [] := rfl
theorem one_b (b : Bool) : (AV.bool b).one = true := rfl
theorem one_sl (a b) : (AV.sl a b).one = true := rfl
theorem one_ptr (a b) : (AV.ptr a b).one = true := rfl
theorem one_ref (a b) : (AV.ref a b).one = true := rfl
theorem one_nilp : (AV.nilp).one = true := rfl
theorem take_map' {α β : Type} (f : α → β) (l : List α) (k : Nat) : (l.map f).take k = (l.take k).map f := by simp
theorem right_nil (t : Tb) (l : List Int) : right2 t l [] t.marks.length = t.marks.all (rightM l) := by
  have key : ∀ n, n ≤ t.marks.length → right2 t l [] n = (t.marks.take n).all (rightM l) := by
    intro n
    induction n with
    | zero => intro _; simp [right2]
    | succ n ih =>
      intro h
      rw [right2_succ, ih (by omega), all_take h]
      simp
  rw [key _ (Nat.le_refl _), List.take_length]
theorem MOk.m9 {t : Tb} (h : MOk t) (hok : HOk t) : ∀ m ∈ t.marks, 0 ≤ m.frm ∧ m.frm ≤ m.til ∧ m.til ≤ 9 := fun m hm => by
  have := h.m m hm
  have := hok.len
  omega
theorem pad_at2 {l : List Int} (i : Nat) (h10 : l.length ≤ 10) (hi : i < l.length) : at_ (pad10 l) i = at_ l i := pad_at hi (by omega)
theorem rightM_pad {l : List Int} {m : Mk} (h10 : l.length ≤ 10) (h0 : 0 ≤ m.frm) (h1 : m.til < l.length) : rightM (pad10 l) m = rightM l m := by
  unfold rightM topL pad10
  rw [List.take_of_length_le h10, List.drop_append, List.take_append]
  by_cases c : m.frm ≤ m.til
  · have e1 : m.frm.toNat ≤ l.length := by omega
    rw [show m.frm.toNat - l.length = 0 by omega, List.drop_zero]
    rw [show (m.til + 1 - m.frm).toNat - (l.drop m.frm.toNat).length = 0 by simp; omega]
    simp
  · rw [show (m.til + 1 - m.frm).toNat = 0 by omega]
    simp
theorem wet_pad {l : List Int} (level : Int) (h10 : l.length ≤ 10) : wetN (pad10 l) level l.length = wetL l level := by
  unfold wetL wetN
  congr 1
  apply List.filter_congr
  intro i hi
  rw [pad_at2 i h10 (by simpa using hi)]
theorem all_congr' {α : Type} {l : List α} {p q : α → Bool} (h : ∀ x ∈ l, p x = q x) : l.all p = l.all q := by
  induction l with
  | nil => rfl
  | cons x l ih => rw [List.all_cons, List.all_cons, h x (by simp), ih (fun y hy => h y (by simp [hy]))]
def proveB (t : Tb) (l : List Int) : Bool := decide (faultT t = 0) && isTruthB t l
theorem ProveTruth_call (t : Tb) (l : List Int) (h : t.heights.length ≤ 4096 ∧ l.length ≤ 4096) : CallP Try.prog 21 [Enc.enc t, Enc.enc l] (· = Enc.enc (proveB t l)) := by
  have h1 := h.1
  have h2 := h.2
  unfold proveB
  by_cases c : faultT t = 0
  case neg =>
    rw [show (decide (faultT t = 0) && isTruthB t l) = false by simp [c]]
    simp only [enc_fnl, enc_fnb, enc_fnc, enc_refc, enc_arr, enc_int, enc_bool, enc_list, enc_rg, enc_mk, enc_tb]
    refine callP_of_vc (Φ := P36) Try.func21 rfl (by rfl) (by rw [Try.ntmps21]; simp) mixed P36_ok (by simp [AV.strip, AV.strip1, Tk.strip]) ?_
    rw [Try.ntmps21]
    simp only [Try.f21, startSt, tmFrom]
    simp (maxSteps := 4000000) only [go_sem, AV.one, drawV, intsOf, keyIdx, over, putO, memAt, List.map_cons, List.length_cons, ↓reduceIte, enc_pair, enc_iterv, zdrop, one_i, one_b, one_sl, one_ptr, one_ref, one_nilp, c]
    all_goals (repeat' (first | with_reducible rfl | with_reducible apply And.intro | ((with_reducible show drawOK _ _ = true); rfl))) <;> (try first | omega | (simp only [InR]; omega) | with_reducible assumption)
  have hv := fault_ok c
  have hok := hv.hok
  have hl0 : 0 ≤ t.last := by
    have := hv.l0
    have := hv.last
    have := hv.some
    have h9 : faultT t = 0 := c
    unfold faultT at h9
    split at h9
    · cases h9
    split at h9
    · cases h9
    rename_i h10
    simp only [not_or] at h10
    omega
  have hlast := hv.last
  have hm := hv.mok.m9 hok
  have hml := hv.mok.len
  have e : (decide (faultT t = 0) && isTruthB t l) = ((listedP t l).2 && right2 t (listedP t l).1.l [] t.marks.length) := by
    rw [c, right_nil]
    unfold listedP
    by_cases q : (l.length : Int) = t.last + 1
    · rw [if_pos q]
      simp only [isTruthB]
      cases listedB t l
      · rfl
      · simp only [Bool.true_and, decide_true]
        refine all_congr' fun m hmm => ?_
        have := hv.mok.m m hmm
        exact (rightM_pad (by have := hok.len; omega) (by omega) (by omega)).symm
    · rw [if_neg q]
      have : listedB t l = false := by
        cases b : listedB t l
        · rfl
        · have := listedB_len b; omega
      simp [isTruthB, this]
  rw [e]
  generalize hlp : listedP t l = r
  obtain ⟨s, b⟩ := r
  have hs := s.h
  cases b
  all_goals
    simp only [enc_fnl, enc_fnb, enc_fnc, enc_refc, enc_arr, enc_int, enc_bool, enc_list, enc_rg, enc_mk, enc_tb]
    refine callP_of_vc (Φ := P36) Try.func21 rfl (by rfl) (by rw [Try.ntmps21]; simp) mixed P36_ok (by simp [AV.strip, AV.strip1, Tk.strip]) ?_
    rw [Try.ntmps21]
    simp only [Try.f21, startSt, tmFrom]
    simp (maxSteps := 4000000) only [go_sem, drawV, intsOf, keyIdx, over, putO, memAt, List.map_cons, List.length_cons, ↓reduceIte, enc_pair, enc_iterv, zdrop, one_i, one_b, one_sl, one_ptr, one_ref, one_nilp, c, hlp, hs]
    all_goals (repeat' (first | with_reducible rfl | with_reducible apply And.intro | ((with_reducible show drawOK _ _ = true); rfl))) <;> (try first | omega | (simp only [InR]; omega) | with_reducible assumption)
def P37 : Specs := addSpec 21 (spec2 (fun (t : Tb) (l : List Int) => t.heights.length ≤ 4096 ∧ l.length ≤ 4096) proveB) (P36)
theorem P37_app (g : FuncId) : P37 g = (addSpec 21 (spec2 (fun (t : Tb) (l : List Int) => t.heights.length ≤ 4096 ∧ l.length ≤ 4096) proveB) (P36)) g := rfl
theorem P37_ok : SpecsOk Try.prog P37 := addSpec_ok (spec2_ok ProveTruth_call) (P36_ok)
attribute [go_sem] P37_app
theorem P37_flag (d : Option Nat) : flagOf P37 d = none := (flagOf_add (by decide) d).trans (P36_flag d)
attribute [go_sem] P37_flag
def possB (t : Tb) (out : List Int) : Bool := (seqL t).any fun p => right2 t (pad10 p) out t.marks.length
theorem runS_any {α : Type} (q : α → Bool) : ∀ l : List α, runS (fun (_ : Bool) p => !q p) (fun _ p => q p) false l = (l.any q, !l.any q)
  | [] => rfl
  | p :: l => by
    simp only [runS, List.any_cons]
    cases c : q p
    · simp only [Bool.not_false, if_true, Bool.false_or]; exact runS_any q l
    · simp
theorem possible_call (t : Tb) (out : List Int) (h : ((HOk t ∧ (t.heights.length : Int) = t.last + 1) ∧ MOk t) ∧ out.length ≤ 4096) : CallP Try.prog 32 [Enc.enc t, Enc.enc out] (· = Enc.enc (possB t out)) := by
  obtain ⟨⟨⟨hok, hl⟩, hmok⟩, ho⟩ := h
  have hm := hmok.m9 hok
  have hml := hmok.len
  simp only [enc_fnl, enc_fnb, enc_fnc, enc_refc, enc_arr, enc_int, enc_bool, enc_list, enc_rg, enc_mk, enc_tb]
  refine callP_of_vc (Φ := P37) Try.func32 rfl (by rfl) (by rw [Try.ntmps32]; simp) mixed P37_ok (by simp [AV.strip, AV.strip1, Tk.strip]) ?_
  rw [Try.ntmps32]
  simp only [Try.f32, startSt, tmFrom]
  simp (maxSteps := 4000000) only [go_sem, AV.one, drawV, intsOf, keyIdx, over, putO, memAt, List.map_cons, List.length_cons, ↓reduceIte, enc_pair, enc_iterv, zdrop, one_i, one_b, one_sl, one_ptr, one_ref, one_nilp]
  refine vc_range0 ?_
  refine rangeA_lists (fun a : Bool => [AObj.cells [AV.int IntKind.i64 t.last, AV.sl (List.map EncE.cs t.heights) Tk.no, AV.int IntKind.i64 t.step, AV.sl (List.map EncE.cs t.levels) Tk.no, AV.sl (List.map EncE.cs t.marks) Tk.no],
      AObj.cells [AV.sl (List.map EncE.cs out) Tk.no], AObj.cells [AV.bool a]]) (fun a => if a then .done else .ready) (fun a => if a then some .ret else none) (fun _ p => !right2 t (pad10 p) out t.marks.length) (fun _ p => right2 t (pad10 p) out t.marks.length) (fun _ a => a = false) _ [(2, .ptr 0 0), (3, .ptr 1 0), (4, .ptr 2 0)] false
    hok hl rfl trivial ?_ rfl rfl rfl ?_ rfl (Nat.le_refl _) ?_
  · simp [lk, AV.strip, tokz_nil]
  · refine ⟨fun a => rfl, by simp [tokz_nil], fun a => ?_, ?_, fun k a p h _ q => ?_⟩
    · cases a <;> simp [AV.bare, bel_ints, cs_arr, dep_arr, cs_int, cs_bool, cs_list, cs_rg, cs_mk, AtHead, Same, AllO, Begins, LtAll, headSt, tokz_nil, tokz_cons, tokz1, lk, dep_int, dep_bool, dep_list, dep_rg, dep_mk, memAt, bel_map, bel_mapF, bel_mapO, bel_undef, bel_int, bel_boolv, bel_nilp, bel_nilf, bel_ptr, bel_arr, bel_mp, bel_yld, bel_agg, bel_tup, bel_ref, bel_only, bel_mpr, bel_fn, bel_sl_nil, bel_sl_nilF, bel_sl_nilO, bel_sl_cons, bel_sl_app, belO_cells, belO_tok, belO_dead, belO_deferred, belO_map, belO_iter, belO_loop, bel_vec, bel_vp, belO_vecM, belO_vec, rangeM, belO_loop, belO_cells, belO_deferred]
    · intro k a p s ha hkT hp hlo hs
      subst ha
      have h10 := s.h
      have hsl : s.l = pad10 p := by rw [hs]; rfl
      refine yieldM_of_vc (Φ := P37) (hl := rfl) rfl (by simp) rfl rfl mixed P37_ok (by simp [AV.strip, AV.strip1]) (by simp [AV.strip, AV.strip1]) ?_
      cases c : right2 t (pad10 p) out t.marks.length
      all_goals
        have c' := c
        rw [← hsl] at c'
        simp (maxSteps := 4000000) only [go_sem, drawV, intsOf, keyIdx, over, putO, memAt, List.map_cons, List.length_cons, ↓reduceIte, enc_pair, enc_iterv, zdrop, one_i, one_b, one_sl, one_ptr, one_ref, one_nilp, beginA, roundA, endB, xtra, putArgs, rangeM, c, c', h10]
        all_goals (repeat' (first | with_reducible rfl | with_reducible apply And.intro | ((with_reducible show drawOK _ _ = true); rfl))) <;> (try first | omega | (simp only [InR]; omega) | with_reducible assumption)
      all_goals (try simp [AV.bare, bel_ints, cs_arr, dep_arr, cs_int, cs_bool, cs_list, cs_rg, cs_mk, AtHead, Same, AllO, Begins, LtAll, headSt, tokz_nil, tokz_cons, tokz1, lk, dep_int, dep_bool, dep_list, dep_rg, dep_mk, memAt, bel_map, bel_mapF, bel_mapO, bel_undef, bel_int, bel_boolv, bel_nilp, bel_nilf, bel_ptr, bel_arr, bel_mp, bel_yld, bel_agg, bel_tup, bel_ref, bel_only, bel_mpr, bel_fn, bel_sl_nil, bel_sl_nilF, bel_sl_nilO, bel_sl_cons, bel_sl_app, belO_cells, belO_tok, belO_dead, belO_deferred, belO_map, belO_iter, belO_loop, bel_vec, bel_vp, belO_vecM, belO_vec, belO_loop, belO_cells, belO_deferred, tbC])
    · simpa using q
  · rw [runS_any]
    cases hq : (seqL t).any fun p => right2 t (pad10 p) out t.marks.length
    all_goals
      simp (maxSteps := 4000000) only [go_sem, AV.one, drawV, intsOf, keyIdx, over, putO, memAt, List.map_cons, List.length_cons, ↓reduceIte, enc_pair, enc_iterv, zdrop, one_i, one_b, one_sl, one_ptr, one_ref, one_nilp, endA, pendA, doneA, rangeM]
      simp [possB, hq]
      try rfl
def P38 : Specs := addSpec 32 (spec2 (fun (t : Tb) (out : List Int) => ((HOk t ∧ (t.heights.length : Int) = t.last + 1) ∧ MOk t) ∧ out.length ≤ 4096) possB) (P37)
theorem P38_app (g : FuncId) : P38 g = (addSpec 32 (spec2 (fun (t : Tb) (out : List Int) => ((HOk t ∧ (t.heights.length : Int) = t.last + 1) ∧ MOk t) ∧ out.length ≤ 4096) possB) (P37)) g := rfl
theorem P38_ok : SpecsOk Try.prog P38 := addSpec_ok (spec2_ok possible_call) (P37_ok)
attribute [go_sem] P38_app
theorem P38_flag (d : Option Nat) : flagOf P38 d = none := (flagOf_add (by decide) d).trans (P37_flag d)
attribute [go_sem] P38_flag
def firstP (t : Tb) : Nat → Nat → Int × Int
  | 0, _ => (0, 7)
  | f + 1, n => if possB { t with marks := t.marks.take (n + 1) } [] then firstP t f (n + 1) else (n, 0)
def firstR (t : Tb) : Int × Int := if faultT t = 0 then firstP t t.marks.length 0 else (0, faultT t)
theorem First_prog (t : Tb) (h : t.heights.length ≤ 4096) : CallP Try.prog 20 [Enc.enc t] (· = Enc.enc (firstR t)) := by
  simp only [enc_pair]
  unfold firstR
  by_cases c : faultT t = 0
  case neg =>
    rw [if_neg c]
    simp only [enc_fnl, enc_fnb, enc_fnc, enc_refc, enc_arr, enc_int, enc_bool, enc_list, enc_rg, enc_mk, enc_tb]
    refine callP_of_vc (Φ := P38) Try.func20 rfl (by rfl) (by rw [Try.ntmps20]; simp) mixed P38_ok (by simp [AV.strip, AV.strip1, Tk.strip]) ?_
    rw [Try.ntmps20]
    simp only [Try.f20, startSt, tmFrom]
    simp (maxSteps := 4000000) only [go_sem, AV.one, drawV, intsOf, keyIdx, over, putO, memAt, List.map_cons, List.length_cons, ↓reduceIte, enc_pair, enc_iterv, zdrop, one_i, one_b, one_sl, one_ptr, one_ref, one_nilp, c]
    all_goals (repeat' (first | with_reducible rfl | with_reducible apply And.intro | ((with_reducible show drawOK _ _ = true); rfl))) <;> (try first | omega | (simp only [InR]; omega) | with_reducible assumption)
  rw [if_pos c]
  have hv := fault_ok c
  have hok := hv.hok
  have hml := hv.mok.len
  simp only [enc_fnl, enc_fnb, enc_fnc, enc_refc, enc_arr, enc_int, enc_bool, enc_list, enc_rg, enc_mk, enc_tb]
  refine callP_of_vc (Φ := P38) Try.func20 rfl (by rfl) (by rw [Try.ntmps20]; simp) mixed P38_ok (by simp [AV.strip, AV.strip1, Tk.strip]) ?_
  rw [Try.ntmps20]
  simp only [Try.f20, startSt, tmFrom]
  simp (maxSteps := 4000000) only [go_sem, AV.one, drawV, intsOf, keyIdx, over, putO, memAt, List.map_cons, List.length_cons, ↓reduceIte, enc_pair, enc_iterv, zdrop, one_i, one_b, one_sl, one_ptr, one_ref, one_nilp, c]
  refine ⟨h, ?_⟩
  refine loopN (t.marks.length) [] [1, 2, 3, 5, 15] (fun i => [(16, .int .i64 i)]) (fun i m => m.set 1 (.cells [AV.int IntKind.i64 t.last, AV.sl (List.map EncE.cs t.heights) Tk.no, AV.int IntKind.i64 t.step, AV.sl (List.map EncE.cs t.levels) Tk.no, AV.sl (List.map EncE.cs (if i = 0 then t.marks else t.marks.take i)) Tk.no])) (fun i => firstP t (t.marks.length - i) i = firstP t t.marks.length 0) ?_ ?_ ?_ ?_
  · rfl
  · simp [AV.bare, bel_ints, cs_arr, dep_arr, cs_int, cs_bool, cs_list, cs_rg, cs_mk, AtHead, Same, AllO, Begins, LtAll, headSt, tokz_nil, tokz_cons, tokz1, lk, dep_int, dep_bool, dep_list, dep_rg, dep_mk, memAt, bel_map, bel_mapF, bel_mapO, bel_undef, bel_int, bel_boolv, bel_nilp, bel_nilf, bel_ptr, bel_arr, bel_mp, bel_yld, bel_agg, bel_tup, bel_ref, bel_only, bel_mpr, bel_fn, bel_sl_nil, bel_sl_nilF, bel_sl_nilO, bel_sl_cons, bel_sl_app, belO_cells, belO_tok, belO_dead, belO_deferred, belO_map, belO_iter, belO_loop, bel_vec, bel_vp, belO_vecM, belO_vec]
  · intro i hi hI
    rw [show t.marks.length - i = (t.marks.length - (i + 1)) + 1 by omega, firstP] at hI
    have hi' := Int.ofNat_lt.2 hi
    have e1 : ((i : Int) + 1 - 0).toNat = i + 1 := by omega
    have hmk : MOk { t with marks := t.marks.take (i + 1) } := ⟨by simp; omega, fun m hm => hv.mok.m m (List.mem_of_mem_take hm)⟩
    have hok' : HOk { t with marks := t.marks.take (i + 1) } := ⟨hok.len, hok.h, hok.s0, hok.s1⟩
    have hlast := hv.last
    cases c2 : possB { t with marks := t.marks.take (i + 1) } [] <;>
      simp (maxSteps := 4000000) only [go_sem, AV.one, drawV, intsOf, keyIdx, over, putO, memAt, List.map_cons, List.length_cons, ↓reduceIte, enc_pair, enc_iterv, zdrop, one_i, one_b, one_sl, one_ptr, one_ref, one_nilp, getD_mapA hi, hi', e1, take_map', c2]
    all_goals all_goals (repeat' (first | with_reducible rfl | with_reducible apply And.intro | ((with_reducible show drawOK _ _ = true); rfl))) <;> (try first | omega | (simp only [InR]; omega) | with_reducible assumption)
    · rw [c2, if_neg (by simp)] at hI
      rw [← hI]
    · rw [c2, if_pos rfl] at hI
      refine nxt hi hI ?_
      simp [AV.bare, bel_ints, cs_arr, dep_arr, cs_int, cs_bool, cs_list, cs_rg, cs_mk, AtHead, Same, AllO, Begins, LtAll, headSt, tokz_nil, tokz_cons, tokz1, lk, dep_int, dep_bool, dep_list, dep_rg, dep_mk, memAt, bel_map, bel_mapF, bel_mapO, bel_undef, bel_int, bel_boolv, bel_nilp, bel_nilf, bel_ptr, bel_arr, bel_mp, bel_yld, bel_agg, bel_tup, bel_ref, bel_only, bel_mpr, bel_fn, bel_sl_nil, bel_sl_nilF, bel_sl_nilO, bel_sl_cons, bel_sl_app, belO_cells, belO_tok, belO_dead, belO_deferred, belO_map, belO_iter, belO_loop, bel_vec, bel_vp, belO_vecM, belO_vec, -List.map_take]
  · intro hI
    simp (maxSteps := 4000000) only [go_sem, AV.one, drawV, intsOf, keyIdx, over, putO, memAt, List.map_cons, List.length_cons, ↓reduceIte, enc_pair, enc_iterv, zdrop, one_i, one_b, one_sl, one_ptr, one_ref, one_nilp]
    rw [← hI]; simp [firstP]
end Go.Proofs
namespace Go.Proofs
open Go.Fs
set_option linter.unusedSimpArgs false
set_option linter.unusedVariables false
set_option maxHeartbeats 4000000
set_option maxRecDepth 8000
theorem intsOf_nil : intsOf [] = some [] := rfl
theorem one_mp (a) : (AV.mp a).one = true := rfl
def truesV (n : Nat) : List AV := List.replicate n (.bool true)
def decT : List AV → Option Nat
  | [] => some 0
  | .bool true :: r => (decT r).map (· + 1)
  | _ => none
theorem decT_law : ∀ (vs : List AV) (n : Nat), decT vs = some n → vs = truesV n
  | [], n, h => by simp only [decT, Option.some.injEq] at h; subst h; rfl
  | v :: r, n, h => by
    unfold decT at h
    split at h
    · cases h; simp_all
    · rename_i r' heq
      cases heq
      simp only [Option.map_eq_some_iff] at h
      obtain ⟨k, h1, rfl⟩ := h
      rw [decT_law _ _ h1]; rfl
    · cases h
theorem decT_trues : ∀ n, decT (truesV n) = some n
  | 0 => rfl
  | n + 1 => by
    have := decT_trues n
    simp only [truesV, List.replicate_succ, decT] at this ⊢
    rw [this]; rfl
structure Wk where
  t : Tb
  truth : List (Arr 10)
  ks : List (List Int)
def wkC (w : Wk) : List AV := [.int .i64 w.t.last, .sl (w.t.heights.map EncE.cs) .no, .int .i64 w.t.step, .sl (w.t.levels.map EncE.cs) .no, .sl (w.t.marks.map EncE.cs) .no, .sl (w.truth.map EncE.cs) .no, .mpr w.ks (truesV w.ks.length)]
def decWk : List AV → Option Wk
  | [.int .i64 a, .sl b .no, .int .i64 c, .sl d .no, .sl e .no, .sl f .no, .mpr ks vs] =>
    match (decL b : Option (List Rg)), (decL d : Option (List Int)), (decL e : Option (List Mk)), (decL f : Option (List (Arr 10))), decT vs with
    | some b, some d, some e, some f, some n => if n = ks.length then some ⟨⟨a, b, c, d, e⟩, f, ks⟩ else none
    | _, _, _, _, _ => none
  | _ => none
theorem decWk_law {cs : List AV} {w : Wk} (h : decWk cs = some w) : cs = wkC w := by
  unfold decWk at h
  split at h
  · split at h
    · rename_i h1 h2 h3 h4 h5
      split at h
      · rename_i hn
        cases h
        rw [decL_law _ _ h1, decL_law _ _ h2, decL_law _ _ h3, decL_law _ _ h4, decT_law _ _ h5, hn]
        rfl
      · cases h
    · cases h
  · cases h
theorem wkC_pure (w : Wk) : ∀ c ∈ wkC w, pureN 3 c := by
  simp only [wkC, List.mem_cons, List.not_mem_nil, or_false, forall_eq_or_imp, forall_eq, pureN, true_and, List.mem_map, forall_exists_index, and_imp, forall_apply_eq_imp_iff₂]
  have key : ∀ (v : AV), pureN 1 v → pureN 2 v := fun v h => by cases v <;> simp_all [pureN]
  refine ⟨fun a _ c hc => key c (EncE.ok a c hc), fun a _ c hc => key c (EncE.ok a c hc), fun a _ c hc => key c (EncE.ok a c hc), fun a _ c hc => key c (EncE.ok a c hc), fun c hc => ?_⟩
  have := (List.mem_replicate.1 hc).2
  subst this
  simp [pureN]
instance : Enc Wk where
  enc w := .ref (wkC w) 0
  dec
    | .ref cs 0 => decWk cs
    | _ => none
  law v x h := by
    split at h
    · rw [decWk_law h]
    · cases h
  dep := 4
  ok x := wkC_pure x
instance : Enc (Option Wk) where
  enc
    | some w => .ref (wkC w) 0
    | none => .nilp
  dec
    | .nilp => some none
    | .ref cs 0 => (decWk cs).map some
    | _ => none
  law v x h := by
    split at h
    · cases h; rfl
    · simp only [Option.map_eq_some_iff] at h
      obtain ⟨w, h1, rfl⟩ := h
      rw [decWk_law h1]
    · cases h
  dep := 4
  ok x := by
    cases x with
    | none => trivial
    | some w => exact wkC_pure w
theorem enc_wk (w : Wk) : Enc.enc w = .ref (wkC w) 0 := rfl
theorem enc_some_wk (w : Wk) : Enc.enc (some w) = .ref (wkC w) 0 := rfl
theorem enc_none_wk : Enc.enc (none : Option Wk) = .nilp := rfl
def addK (ks : List (List Int)) (k : List Int) : List (List Int) := if k ∈ ks then ks else ks ++ [k]
theorem putO_true (ks : List (List Int)) (k : List Int) : putO ks (truesV ks.length) k (.bool true) = .map (addK ks k) (truesV (addK ks k).length) := by
  unfold putO addK
  have hk : (keyIdx ks k).isSome = decide (k ∈ ks) := by
    unfold keyIdx
    rw [List.findIdx?_isSome, Bool.eq_iff_iff]
    simp
  cases h : keyIdx ks k with
  | none =>
    rw [h] at hk
    have : k ∉ ks := by simpa using hk.symm
    rw [if_neg this]
    simp only [List.length_append, List.length_cons, List.length_nil, truesV, List.replicate_succ']
  | some i =>
    rw [h] at hk
    have : k ∈ ks := by simpa using hk.symm
    rw [if_pos this]
    simp only [truesV, List.set_replicate_self]
def addKs (ks : List (List Int)) (p : List Int) : Nat → List (List Int)
  | 0 => ks
  | n + 1 => addK (addKs ks p n) [(n : Int), at_ p n]
theorem addKs_len {ks : List (List Int)} {p : List Int} (h : ∀ b ∈ ks, b.length = 2) : ∀ n, ∀ b ∈ addKs ks p n, b.length = 2
  | 0 => h
  | n + 1 => by
    intro b hb
    unfold addKs addK at hb
    split at hb
    · exact addKs_len h n b hb
    · rcases List.mem_append.1 hb with q | q
      · exact addKs_len h n b q
      · simp at q; subst q; rfl
theorem prodN_pos {l : List Rg} (h : ∀ r ∈ l, r.lo ≤ r.hi) : 1 ≤ prodN l := (manyN_prod l h 1 (by omega) (by omega)).2
theorem seqP_len {t : Tb} (hok : HOk t) : ∀ (f : Nat) (p : List Int), p.length + f = t.heights.length → ((seqP t f p).length : Int) ≤ prodN (t.heights.drop p.length)
  | 0, p, h => by
    rw [List.drop_eq_nil_of_le (by omega)]
    simp [seqP, prodN]
  | f + 1, p, h => by
    have hk : p.length < t.heights.length := by omega
    have hp1 : 1 ≤ prodN (t.heights.drop (p.length + 1)) := prodN_pos fun r hr => (hok.h r (List.mem_of_mem_drop hr)).2.1
    have hr := hok.h _ (at_mem hk)
    have key : ∀ n : Nat, ((seqN t f p n).length : Int) ≤ n * prodN (t.heights.drop (p.length + 1)) := by
      intro n
      induction n with
      | zero => simp [seqN]
      | succ n ih =>
        rw [seqN_succ, List.length_append]
        have hb : (((if nearAt t (p ++ [(at_ t.heights p.length).lo + (n : Int)]) p.length then seqP t f (p ++ [(at_ t.heights p.length).lo + (n : Int)]) else []).length : Nat) : Int) ≤ prodN (t.heights.drop (p.length + 1)) := by
          split
          · have := seqP_len hok f (p ++ [(at_ t.heights p.length).lo + (n : Int)]) (by simp; omega)
            simpa using this
          · simp; omega
        have e : ((n + 1 : Nat) : Int) * prodN (t.heights.drop (p.length + 1)) = n * prodN (t.heights.drop (p.length + 1)) + prodN (t.heights.drop (p.length + 1)) := by
          rw [Int.natCast_add, Int.add_mul]; simp
        rw [e]
        omega
    have := key (szR (at_ t.heights p.length)).toNat
    rw [show seqP t (f + 1) p = seqN t f p (szR (at_ t.heights p.length)).toNat from rfl, drop_at hk]
    have e2 : prodN (at_ t.heights p.length :: t.heights.drop (p.length + 1)) = szR (at_ t.heights p.length) * prodN (t.heights.drop (p.length + 1)) := rfl
    rw [e2]
    have e3 : (((szR (at_ t.heights p.length)).toNat : Nat) : Int) = szR (at_ t.heights p.length) := by unfold szR; omega
    rw [e3] at this
    exact this
theorem seqL_len {t : Tb} (hv : VOk t) : (seqL t).length ≤ 2000 := by
  have hl := hv.last
  have := seqP_len hv.hok (t.last + 1).toNat [] (by simp; omega)
  obtain ⟨e1, e2⟩ := manyN_prod t.heights (fun r hr => (hv.hok.h r hr).2.1) 1 (by omega) (by omega)
  have hm := hv.many
  unfold manyN at hm
  rw [e1] at hm
  simp only [List.length_nil, List.drop_zero] at this
  unfold seqL
  omega
def askN (t : Tb) (a : List (List Int) × List (List Int)) (p : List Int) : List (List Int) × List (List Int) :=
  if right2 t (pad10 p) [] t.marks.length && !(decide (0 < a.1.length) && decide (pad10 (at_ a.1 (a.1.length - 1)) = pad10 p)) then (a.1 ++ [p], addKs a.2 p (t.last + 1).toNat) else a
def askS (t : Tb) : List (List Int) × List (List Int) := (runS (fun _ _ => true) (askN t) ([], []) (seqL t)).1
def askedR (t : Tb) (fine : Bool) : Option Wk × Int :=
  if faultT t = 0 then
    if fine then
      if (askS t).1.length = 0 then (none, 11) else (some ⟨t, (askS t).1.map padA, (askS t).2⟩, 0)
    else (none, 2)
  else (none, faultT t)
theorem keyOk2 : KeyOk Try.prog 115 2 := keyOk_of ek_115
theorem asked_call (t : Tb) (fine : Bool) (h : t.heights.length ≤ 4096) : CallP Try.prog 35 [Enc.enc t, Enc.enc fine] (· = Enc.enc (askedR t fine)) := by
  simp only [enc_pair]
  unfold askedR
  by_cases c : faultT t = 0
  case neg =>
    rw [if_neg c]
    simp only [enc_none_wk]
    simp only [enc_fnl, enc_fnb, enc_fnc, enc_refc, enc_arr, enc_int, enc_bool, enc_list, enc_rg, enc_mk, enc_tb]
    refine callP_of_vc (Φ := P38) Try.func35 rfl (by rfl) (by rw [Try.ntmps35]; simp) mixed P38_ok (by simp [AV.strip, AV.strip1, Tk.strip]) ?_
    rw [Try.ntmps35]
    simp only [Try.f35, startSt, tmFrom]
    simp (maxSteps := 4000000) only [go_sem, AV.one, drawV, intsOf, keyIdx, over, putO, memAt, List.map_cons, List.length_cons, ↓reduceIte, enc_pair, enc_iterv, zdrop, one_i, one_b, one_sl, one_ptr, one_ref, one_nilp, one_mp, c]
    all_goals (repeat' (first | with_reducible rfl | with_reducible apply And.intro | ((with_reducible show drawOK _ _ = true); rfl))) <;> (try first | omega | (simp only [InR]; omega) | with_reducible assumption)
  rw [if_pos c]
  have hv := fault_ok c
  have hok := hv.hok
  have hml := hv.mok.len
  have hm := hv.mok.m9 hok
  cases fine
  · simp only [Bool.false_eq_true, if_false, enc_none_wk]
    simp only [enc_fnl, enc_fnb, enc_fnc, enc_refc, enc_arr, enc_int, enc_bool, enc_list, enc_rg, enc_mk, enc_tb]
    refine callP_of_vc (Φ := P38) Try.func35 rfl (by rfl) (by rw [Try.ntmps35]; simp) mixed P38_ok (by simp [AV.strip, AV.strip1, Tk.strip]) ?_
    rw [Try.ntmps35]
    simp only [Try.f35, startSt, tmFrom]
    simp (maxSteps := 4000000) only [go_sem, AV.one, drawV, intsOf, keyIdx, over, putO, memAt, List.map_cons, List.length_cons, ↓reduceIte, enc_pair, enc_iterv, zdrop, one_i, one_b, one_sl, one_ptr, one_ref, one_nilp, one_mp, c]
    all_goals (repeat' (first | with_reducible rfl | with_reducible apply And.intro | ((with_reducible show drawOK _ _ = true); rfl))) <;> (try first | omega | (simp only [InR]; omega) | with_reducible assumption)
  simp only [if_true]
  simp only [enc_fnl, enc_fnb, enc_fnc, enc_refc, enc_arr, enc_int, enc_bool, enc_list, enc_rg, enc_mk, enc_tb]
  refine callP_of_vc (Φ := P38) Try.func35 rfl (by rfl) (by rw [Try.ntmps35]; simp) mixed P38_ok (by simp [AV.strip, AV.strip1, Tk.strip]) ?_
  rw [Try.ntmps35]
  simp only [Try.f35, startSt, tmFrom]
  simp (maxSteps := 4000000) only [go_sem, drawV, intsOf, keyIdx, over, putO, memAt, List.map_cons, List.length_cons, ↓reduceIte, enc_pair, enc_iterv, zdrop, one_i, one_b, one_sl, one_ptr, one_ref, one_nilp, one_mp, c]
  all_goals (repeat' (first | with_reducible rfl | with_reducible apply And.intro | ((with_reducible show drawOK _ _ = true); rfl))) <;> (try first | omega | (simp only [InR]; omega) | with_reducible assumption)
  refine vc_range [.cell 2 5 10] ?_
  simp only [tokz_cons, tokz_nil, tokz1, memAt, List.getD_cons_zero, List.getD_cons_succ, List.set_cons_zero, List.set_cons_succ, List.length_cons, List.length_nil, Nat.reduceAdd, Nat.zero_add, List.cons_append, List.nil_append]
  refine rangeA_lists (fun a : List (List Int) × List (List Int) => [AObj.cells [AV.int IntKind.i64 t.last, AV.sl (List.map EncE.cs t.heights) Tk.no, AV.int IntKind.i64 t.step, AV.sl (List.map EncE.cs t.levels) Tk.no, AV.sl (List.map EncE.cs t.marks) Tk.no],
      AObj.map a.2 (truesV a.2.length),
      AObj.cells [AV.int IntKind.i64 t.last, AV.sl (List.map EncE.cs t.heights) Tk.no, AV.int IntKind.i64 t.step, AV.sl (List.map EncE.cs t.levels) Tk.no, AV.sl (List.map EncE.cs t.marks) Tk.no, AV.sl ((a.1.map padA).map EncE.cs) (.own 4), AV.mp 1],
      AObj.cells [AV.ptr 2 0], AObj.tok a.1.length 10]) (fun _ => .ready) (fun _ => none) (fun _ _ => true) (askN t) (fun k a => a.1.length ≤ k ∧ ∀ b ∈ a.2, b.length = 2) (seqL t).length [(2, .ptr 0 0), (7, .ptr 3 0)] ([], [])
    hok hv.last rfl trivial ?_ rfl rfl rfl ?_ ⟨Nat.le_refl _, by simp⟩ (Nat.le_refl _) ?_
  · simp [lk, AV.strip]
  · refine ⟨fun a => rfl, by simp, fun a => ?_, ?_, fun k a p h hk _ => ?_⟩
    · simp [AV.bare, bel_ints, cs_arr, dep_arr, cs_int, cs_bool, cs_list, cs_rg, cs_mk, AtHead, Same, AllO, Begins, LtAll, headSt, tokz_nil, tokz_cons, tokz1, lk, dep_int, dep_bool, dep_list, dep_rg, dep_mk, memAt, bel_map, bel_mapF, bel_mapO, bel_undef, bel_int, bel_boolv, bel_nilp, bel_nilf, bel_ptr, bel_arr, bel_mp, bel_yld, bel_agg, bel_tup, bel_ref, bel_only, bel_mpr, bel_fn, bel_sl_nil, bel_sl_nilF, bel_sl_nilO, bel_sl_cons, bel_sl_app, belO_cells, belO_tok, belO_dead, belO_deferred, belO_map, belO_iter, belO_loop, bel_vec, bel_vp, belO_vecM, belO_vec, rangeM, belO_loop, belO_cells, belO_deferred, belO_map, belO_tok, truesV, -List.map_map]
    · intro k a p s ha hkT hp hlo hs
      have h10 := s.h
      have hsl : s.l = pad10 p := by rw [hs]; rfl
      have hT := seqL_len hv
      have ha1 := ha.1
      have hl1 : ((a.1.length : Int) - 1).toNat = a.1.length - 1 := by omega
      have hlm : (a.1.map padA).length = a.1.length := by simp
      have hlast := hv.last
      have hl10 := hok.len
      refine yieldM_of_vc (Φ := P38) (hl := rfl) rfl (by simp) rfl rfl mixed P38_ok (by simp [AV.strip, AV.strip1]) (by simp [AV.strip, AV.strip1]) ?_
      cases c1 : right2 t s.l [] t.marks.length
      · have hnx : askN t a p = a := by unfold askN; rw [← hsl, c1]; rfl
        by_cases he : a.1.length = 0
        · have he' : a.1 = [] := List.length_eq_zero_iff.1 he
          simp (maxSteps := 4000000) only [go_sem, drawV, over, memAt, List.map_cons, List.length_cons, ↓reduceIte, enc_pair, enc_iterv, zdrop, one_i, one_b, one_sl, one_ptr, one_ref, one_nilp, one_mp, beginA, roundA, endB, xtra, putArgs, rangeM, c1, h10, hlm, he', hnx, intsOf_map, intsOf_nil, List.take_nil]
          all_goals (repeat' (first | with_reducible rfl | with_reducible apply And.intro | ((with_reducible show drawOK _ _ = true); rfl))) <;> (try first | omega | (simp only [InR]; omega) | with_reducible assumption)
          all_goals (try simp [AV.bare, bel_ints, cs_arr, dep_arr, cs_int, cs_bool, cs_list, cs_rg, cs_mk, AtHead, Same, AllO, Begins, LtAll, headSt, tokz_nil, tokz_cons, tokz1, lk, dep_int, dep_bool, dep_list, dep_rg, dep_mk, memAt, bel_map, bel_mapF, bel_mapO, bel_undef, bel_int, bel_boolv, bel_nilp, bel_nilf, bel_ptr, bel_arr, bel_mp, bel_yld, bel_agg, bel_tup, bel_ref, bel_only, bel_mpr, bel_fn, bel_sl_nil, bel_sl_nilF, bel_sl_nilO, bel_sl_cons, bel_sl_app, belO_cells, belO_tok, belO_dead, belO_deferred, belO_map, belO_iter, belO_loop, bel_vec, bel_vp, belO_vecM, belO_vec, belO_loop, belO_cells, belO_deferred, belO_map, belO_tok, truesV, tbC, -List.map_map])
        · have hpos : (0 : Int) < a.1.length := by omega
          have hgd := getD_mapA (f := EncE.cs) (l := a.1.map padA) (i := a.1.length - 1) (by simp; omega)
          simp (maxSteps := 4000000) only [go_sem, drawV, over, memAt, List.map_cons, List.length_cons, ↓reduceIte, enc_pair, enc_iterv, zdrop, one_i, one_b, one_sl, one_ptr, one_ref, one_nilp, one_mp, beginA, roundA, endB, xtra, putArgs, rangeM, c1, h10, hlm, hl1, hpos, hgd, hnx, intsOf_map]
          all_goals (repeat' (first | with_reducible rfl | with_reducible apply And.intro | ((with_reducible show drawOK _ _ = true); rfl))) <;> (try first | omega | (simp only [InR]; omega) | with_reducible assumption)
          all_goals (try simp [AV.bare, bel_ints, cs_arr, dep_arr, cs_int, cs_bool, cs_list, cs_rg, cs_mk, AtHead, Same, AllO, Begins, LtAll, headSt, tokz_nil, tokz_cons, tokz1, lk, dep_int, dep_bool, dep_list, dep_rg, dep_mk, memAt, bel_map, bel_mapF, bel_mapO, bel_undef, bel_int, bel_boolv, bel_nilp, bel_nilf, bel_ptr, bel_arr, bel_mp, bel_yld, bel_agg, bel_tup, bel_ref, bel_only, bel_mpr, bel_fn, bel_sl_nil, bel_sl_nilF, bel_sl_nilO, bel_sl_cons, bel_sl_app, belO_cells, belO_tok, belO_dead, belO_deferred, belO_map, belO_iter, belO_loop, bel_vec, bel_vp, belO_vecM, belO_vec, belO_loop, belO_cells, belO_deferred, belO_map, belO_tok, truesV, tbC, -List.map_map])
      · by_cases he : a.1.length = 0
        · have he' : a.1 = [] := List.length_eq_zero_iff.1 he
          have hnx : askN t a p = (a.1 ++ [p], addKs a.2 p (t.last + 1).toNat) := by unfold askN; rw [← hsl, c1, he]; rfl
          simp (maxSteps := 4000000) only [go_sem, drawV, over, memAt, List.map_cons, List.length_cons, ↓reduceIte, enc_pair, enc_iterv, zdrop, one_i, one_b, one_sl, one_ptr, one_ref, one_nilp, one_mp, beginA, roundA, endB, xtra, putArgs, rangeM, c1, h10, hlm, he', hnx, intsOf_map, intsOf_nil, List.take_nil]
          all_goals (repeat' (first | with_reducible rfl | with_reducible apply And.intro | ((with_reducible show drawOK _ _ = true); rfl))) <;> (try first | omega | (simp only [InR]; omega) | with_reducible assumption)
          refine loopN ((t.last + 1).toNat) [] [4, 5, 7, 8, 64] (fun i => [(65, .int .i64 i)]) (fun i m => m.set 1 (.map (addKs a.2 p i) (truesV (addKs a.2 p i).length))) (fun _ => True) ?_ ?_ ?_ ?_
          · trivial
          · simp [AV.bare, bel_ints, cs_arr, dep_arr, cs_int, cs_bool, cs_list, cs_rg, cs_mk, AtHead, Same, AllO, Begins, LtAll, headSt, tokz_nil, tokz_cons, tokz1, lk, dep_int, dep_bool, dep_list, dep_rg, dep_mk, memAt, bel_map, bel_mapF, bel_mapO, bel_undef, bel_int, bel_boolv, bel_nilp, bel_nilf, bel_ptr, bel_arr, bel_mp, bel_yld, bel_agg, bel_tup, bel_ref, bel_only, bel_mpr, bel_fn, bel_sl_nil, bel_sl_nilF, bel_sl_nilO, bel_sl_cons, bel_sl_app, belO_cells, belO_tok, belO_dead, belO_deferred, belO_map, belO_iter, belO_loop, bel_vec, bel_vp, belO_vecM, belO_vec, addKs, belO_loop, belO_cells, belO_deferred, belO_map, belO_tok, belO_dead, truesV, tbC, -List.map_map]
          · intro i hi _
            have hi' : (i : Int) < t.last + 1 := by omega
            have hg := getD_ints (l := s.l) (i := i) (by omega)
            have hat : at_ s.l i = at_ p i := by rw [hsl]; exact pad_at (by omega) (by omega)
            have hput := putO_true (addKs a.2 p i) [(i : Int), at_ p i]
            have hk2 := keyOk2
            have hkl := addKs_len (p := p) ha.2 i
            have hads : addK (addKs a.2 p i) [(i : Int), at_ p i] = addKs a.2 p (i + 1) := rfl
            simp (maxSteps := 4000000) only [go_sem, drawV, intsOf, over, memAt, List.map_cons, List.length_cons, ↓reduceIte, enc_pair, enc_iterv, zdrop, one_i, one_b, one_sl, one_ptr, one_ref, one_nilp, one_mp, hi', hg, hat, hput]
            all_goals (repeat' (first | with_reducible rfl | with_reducible apply And.intro | ((with_reducible show drawOK _ _ = true); rfl))) <;> (try first | omega | (simp only [InR]; omega) | with_reducible assumption)
            refine nxt hi trivial ?_
            simp [AV.bare, bel_ints, cs_arr, dep_arr, cs_int, cs_bool, cs_list, cs_rg, cs_mk, AtHead, Same, AllO, Begins, LtAll, headSt, tokz_nil, tokz_cons, tokz1, lk, dep_int, dep_bool, dep_list, dep_rg, dep_mk, memAt, bel_map, bel_mapF, bel_mapO, bel_undef, bel_int, bel_boolv, bel_nilp, bel_nilf, bel_ptr, bel_arr, bel_mp, bel_yld, bel_agg, bel_tup, bel_ref, bel_only, bel_mpr, bel_fn, bel_sl_nil, bel_sl_nilF, bel_sl_nilO, bel_sl_cons, bel_sl_app, belO_cells, belO_tok, belO_dead, belO_deferred, belO_map, belO_iter, belO_loop, bel_vec, bel_vp, belO_vecM, belO_vec, hads, belO_loop, belO_cells, belO_deferred, belO_map, belO_tok, belO_dead, truesV, tbC, -List.map_map]
          · intro _
            have hi' : ¬ ((((t.last + 1).toNat : Nat) : Int) < t.last + 1) := by omega
            simp (maxSteps := 4000000) only [go_sem, drawV, intsOf, over, memAt, List.map_cons, List.length_cons, ↓reduceIte, enc_pair, enc_iterv, zdrop, one_i, one_b, one_sl, one_ptr, one_ref, one_nilp, one_mp, hi', hs, roundA, endB]
            all_goals (repeat' (first | with_reducible rfl | with_reducible apply And.intro | ((with_reducible show drawOK _ _ = true); rfl))) <;> (try first | omega | (simp only [InR]; omega) | with_reducible assumption)
            all_goals (try simp [AV.bare, bel_ints, cs_arr, dep_arr, cs_int, cs_bool, cs_list, cs_rg, cs_mk, AtHead, Same, AllO, Begins, LtAll, headSt, tokz_nil, tokz_cons, tokz1, lk, dep_int, dep_bool, dep_list, dep_rg, dep_mk, memAt, bel_map, bel_mapF, bel_mapO, bel_undef, bel_int, bel_boolv, bel_nilp, bel_nilf, bel_ptr, bel_arr, bel_mp, bel_yld, bel_agg, bel_tup, bel_ref, bel_only, bel_mpr, bel_fn, bel_sl_nil, bel_sl_nilF, bel_sl_nilO, bel_sl_cons, bel_sl_app, belO_cells, belO_tok, belO_dead, belO_deferred, belO_map, belO_iter, belO_loop, bel_vec, bel_vp, belO_vecM, belO_vec, belO_loop, belO_cells, belO_deferred, belO_map, belO_tok, belO_dead, truesV, tbC, -List.map_map])
        · have hpos : (0 : Int) < a.1.length := by omega
          have hgd := getD_mapA (f := EncE.cs) (l := a.1.map padA) (i := a.1.length - 1) (by simp; omega)
          have hatm : (at_ (a.1.map padA) (a.1.length - 1)).l = pad10 (at_ a.1 (a.1.length - 1)) := by
            have : a.1.length - 1 < a.1.length := by omega
            simp [at_, List.getD, this]; rfl
          have hd0 : decide (0 < a.1.length) = true := by simp; omega
          have h10b := (at_ (a.1.map padA) (a.1.length - 1)).h
          cases c2 : decide ((at_ (a.1.map padA) (a.1.length - 1)).l = s.l)
          · have hnx : askN t a p = (a.1 ++ [p], addKs a.2 p (t.last + 1).toNat) := by
              unfold askN
              rw [← hsl, c1, hd0, ← hatm, c2]; rfl
            simp (maxSteps := 4000000) only [go_sem, drawV, over, memAt, List.map_cons, List.length_cons, ↓reduceIte, enc_pair, enc_iterv, zdrop, one_i, one_b, one_sl, one_ptr, one_ref, one_nilp, one_mp, beginA, roundA, endB, xtra, putArgs, rangeM, c1, c2, h10, h10b, hlm, hl1, hpos, hgd, hnx, intsOf_map]
            all_goals (repeat' (first | with_reducible rfl | with_reducible apply And.intro | ((with_reducible show drawOK _ _ = true); rfl))) <;> (try first | omega | (simp only [InR]; omega) | with_reducible assumption)
            refine loopN ((t.last + 1).toNat) [] [4, 5, 7, 8, 64] (fun i => [(65, .int .i64 i)]) (fun i m => m.set 1 (.map (addKs a.2 p i) (truesV (addKs a.2 p i).length))) (fun _ => True) ?_ ?_ ?_ ?_
            · trivial
            · simp [AV.bare, bel_ints, cs_arr, dep_arr, cs_int, cs_bool, cs_list, cs_rg, cs_mk, AtHead, Same, AllO, Begins, LtAll, headSt, tokz_nil, tokz_cons, tokz1, lk, dep_int, dep_bool, dep_list, dep_rg, dep_mk, memAt, bel_map, bel_mapF, bel_mapO, bel_undef, bel_int, bel_boolv, bel_nilp, bel_nilf, bel_ptr, bel_arr, bel_mp, bel_yld, bel_agg, bel_tup, bel_ref, bel_only, bel_mpr, bel_fn, bel_sl_nil, bel_sl_nilF, bel_sl_nilO, bel_sl_cons, bel_sl_app, belO_cells, belO_tok, belO_dead, belO_deferred, belO_map, belO_iter, belO_loop, bel_vec, bel_vp, belO_vecM, belO_vec, addKs, belO_loop, belO_cells, belO_deferred, belO_map, belO_tok, belO_dead, truesV, tbC, -List.map_map]
            · intro i hi _
              have hi' : (i : Int) < t.last + 1 := by omega
              have hg := getD_ints (l := s.l) (i := i) (by omega)
              have hat : at_ s.l i = at_ p i := by rw [hsl]; exact pad_at (by omega) (by omega)
              have hput := putO_true (addKs a.2 p i) [(i : Int), at_ p i]
              have hk2 := keyOk2
              have hkl := addKs_len (p := p) ha.2 i
              have hads : addK (addKs a.2 p i) [(i : Int), at_ p i] = addKs a.2 p (i + 1) := rfl
              simp (maxSteps := 4000000) only [go_sem, drawV, intsOf, over, memAt, List.map_cons, List.length_cons, ↓reduceIte, enc_pair, enc_iterv, zdrop, one_i, one_b, one_sl, one_ptr, one_ref, one_nilp, one_mp, hi', hg, hat, hput]
              all_goals (repeat' (first | with_reducible rfl | with_reducible apply And.intro | ((with_reducible show drawOK _ _ = true); rfl))) <;> (try first | omega | (simp only [InR]; omega) | with_reducible assumption)
              refine nxt hi trivial ?_
              simp [AV.bare, bel_ints, cs_arr, dep_arr, cs_int, cs_bool, cs_list, cs_rg, cs_mk, AtHead, Same, AllO, Begins, LtAll, headSt, tokz_nil, tokz_cons, tokz1, lk, dep_int, dep_bool, dep_list, dep_rg, dep_mk, memAt, bel_map, bel_mapF, bel_mapO, bel_undef, bel_int, bel_boolv, bel_nilp, bel_nilf, bel_ptr, bel_arr, bel_mp, bel_yld, bel_agg, bel_tup, bel_ref, bel_only, bel_mpr, bel_fn, bel_sl_nil, bel_sl_nilF, bel_sl_nilO, bel_sl_cons, bel_sl_app, belO_cells, belO_tok, belO_dead, belO_deferred, belO_map, belO_iter, belO_loop, bel_vec, bel_vp, belO_vecM, belO_vec, hads, belO_loop, belO_cells, belO_deferred, belO_map, belO_tok, belO_dead, truesV, tbC, -List.map_map]
            · intro _
              have hi' : ¬ ((((t.last + 1).toNat : Nat) : Int) < t.last + 1) := by omega
              simp (maxSteps := 4000000) only [go_sem, drawV, intsOf, over, memAt, List.map_cons, List.length_cons, ↓reduceIte, enc_pair, enc_iterv, zdrop, one_i, one_b, one_sl, one_ptr, one_ref, one_nilp, one_mp, hi', hs, roundA, endB]
              all_goals (repeat' (first | with_reducible rfl | with_reducible apply And.intro | ((with_reducible show drawOK _ _ = true); rfl))) <;> (try first | omega | (simp only [InR]; omega) | with_reducible assumption)
              all_goals (try simp [AV.bare, bel_ints, cs_arr, dep_arr, cs_int, cs_bool, cs_list, cs_rg, cs_mk, AtHead, Same, AllO, Begins, LtAll, headSt, tokz_nil, tokz_cons, tokz1, lk, dep_int, dep_bool, dep_list, dep_rg, dep_mk, memAt, bel_map, bel_mapF, bel_mapO, bel_undef, bel_int, bel_boolv, bel_nilp, bel_nilf, bel_ptr, bel_arr, bel_mp, bel_yld, bel_agg, bel_tup, bel_ref, bel_only, bel_mpr, bel_fn, bel_sl_nil, bel_sl_nilF, bel_sl_nilO, bel_sl_cons, bel_sl_app, belO_cells, belO_tok, belO_dead, belO_deferred, belO_map, belO_iter, belO_loop, bel_vec, bel_vp, belO_vecM, belO_vec, belO_loop, belO_cells, belO_deferred, belO_map, belO_tok, belO_dead, truesV, tbC, -List.map_map])
          · have hnx : askN t a p = a := by
              unfold askN
              rw [← hsl, c1, hd0, ← hatm, c2]; rfl
            simp (maxSteps := 4000000) only [go_sem, drawV, over, memAt, List.map_cons, List.length_cons, ↓reduceIte, enc_pair, enc_iterv, zdrop, one_i, one_b, one_sl, one_ptr, one_ref, one_nilp, one_mp, beginA, roundA, endB, xtra, putArgs, rangeM, c1, c2, h10, h10b, hlm, hl1, hpos, hgd, hnx, intsOf_map]
            all_goals (repeat' (first | with_reducible rfl | with_reducible apply And.intro | ((with_reducible show drawOK _ _ = true); rfl))) <;> (try first | omega | (simp only [InR]; omega) | with_reducible assumption)
            all_goals (try simp [AV.bare, bel_ints, cs_arr, dep_arr, cs_int, cs_bool, cs_list, cs_rg, cs_mk, AtHead, Same, AllO, Begins, LtAll, headSt, tokz_nil, tokz_cons, tokz1, lk, dep_int, dep_bool, dep_list, dep_rg, dep_mk, memAt, bel_map, bel_mapF, bel_mapO, bel_undef, bel_int, bel_boolv, bel_nilp, bel_nilf, bel_ptr, bel_arr, bel_mp, bel_yld, bel_agg, bel_tup, bel_ref, bel_only, bel_mpr, bel_fn, bel_sl_nil, bel_sl_nilF, bel_sl_nilO, bel_sl_cons, bel_sl_app, belO_cells, belO_tok, belO_dead, belO_deferred, belO_map, belO_iter, belO_loop, bel_vec, bel_vp, belO_vecM, belO_vec, belO_loop, belO_cells, belO_deferred, belO_map, belO_tok, truesV, tbC, -List.map_map])
    · refine ⟨?_, ?_⟩
      · have := h.1
        unfold askN
        split
        · simp; omega
        · omega
      · unfold askN
        split
        · exact addKs_len h.2 _
        · exact h.2
  · show endA _ _ (rangeM _ _ _ _ _ _ _ _ (askS t)) (memAt (rangeM _ _ _ _ _ _ _ _ (askS t)) _)
    generalize askS t = a
    have hlm : (a.1.map padA).length = a.1.length := by simp
    cases c2 : decide ((a.1.length : Int) = 0)
    · have c3 : ¬ a.1.length = 0 := by simp at c2; intro q; exact c2 (by simpa using q)
      rw [if_neg c3]
      simp (maxSteps := 4000000) only [go_sem, drawV, intsOf, keyIdx, over, putO, memAt, List.map_cons, List.length_cons, ↓reduceIte, enc_pair, enc_iterv, zdrop, one_i, one_b, one_sl, one_ptr, one_ref, one_nilp, one_mp, endA, pendA, doneA, rangeM, hlm, c2, enc_some_wk, wkC]
      refine ⟨rfl, ?_⟩
      have hts : ∀ (mem : List AObj) (n : Nat), (truesV n).map (snap 6 mem) = truesV n := fun mem n => by simp [truesV, snap]
      rw [hts]
    · have c3 : a.1.length = 0 := by simp at c2; simpa using c2
      rw [if_pos c3]
      simp (maxSteps := 4000000) only [go_sem, drawV, intsOf, keyIdx, over, putO, memAt, List.map_cons, List.length_cons, ↓reduceIte, enc_pair, enc_iterv, zdrop, one_i, one_b, one_sl, one_ptr, one_ref, one_nilp, one_mp, endA, pendA, doneA, rangeM, hlm, c2, enc_none_wk]
      rfl
def P39 : Specs := addSpec 35 (spec2 (fun (t : Tb) (_ : Bool) => t.heights.length ≤ 4096) askedR) (P38)
theorem P39_app (g : FuncId) : P39 g = (addSpec 35 (spec2 (fun (t : Tb) (_ : Bool) => t.heights.length ≤ 4096) askedR) (P38)) g := rfl
theorem P39_ok : SpecsOk Try.prog P39 := addSpec_ok (spec2_ok asked_call) (P38_ok)
attribute [go_sem] P39_app
theorem P39_flag (d : Option Nat) : flagOf P39 d = none := (flagOf_add (by decide) d).trans (P38_flag d)
attribute [go_sem] P39_flag
theorem askS_mem {t : Tb} (l : List (List Int)) : ∀ (a : List (List Int) × List (List Int)), (∀ p ∈ (runS (fun _ _ => true) (askN t) a l).1.1, p ∈ a.1 ∨ (p ∈ l ∧ right2 t (pad10 p) [] t.marks.length = true)) := by
  induction l with
  | nil => intro a p hp; exact .inl hp
  | cons q l ih =>
    intro a p hp
    simp only [runS, if_true] at hp
    rcases ih _ p hp with h | h
    · unfold askN at h
      split at h
      · rename_i c
        rcases List.mem_append.1 h with h | h
        · exact .inl h
        · simp only [List.mem_singleton] at h
          subst h
          simp only [Bool.and_eq_true] at c
          exact .inr ⟨by simp, c.1⟩
      · exact .inl h
    · exact .inr ⟨by simp [h.1], h.2⟩
end Go.Proofs
