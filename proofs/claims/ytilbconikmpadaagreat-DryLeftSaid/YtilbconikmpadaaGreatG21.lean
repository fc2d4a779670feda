/- The texts H44, H45, H46, joined. -/
import Derived.Test.YtilbconikmpadaaGreatG20
set_option linter.all false
namespace Go.Proofs
open Go.Fs
set_option maxHeartbeats 4000000
set_option maxRecDepth 8000
def zqz (y:Yd) (ls:List (List Int)) (b:List Int) (best:Int) (c:Nat):Int:=if (decide (0 < best) && zaG y.chairs.length (b ++ [(c:Int)])) = true then min best (zfq y ls (b ++ [(c:Int)])) else best
def zkz (y:Yd) (ls:List (List Int)) (b:List Int) (k:Nat):Int:=(List.range k).foldl (zqz y ls b) (zc2 y ls b)
theorem zl0 (y:Yd) (ls:List (List Int)) (b:List Int) (k:Nat):zkz y ls b (k + 1) = zqz y ls b (zkz y ls b k) k:=by
 unfold zkz
 rw [List.range_succ,List.foldl_append]
 rfl
theorem zl1 {y:Yd} {ls:List (List Int)} {b:List Int} {k:Nat} (h:decide (0 < zkz y ls b k) = false):∀ j,zkz y ls b (k + j) = zkz y ls b k
 | 0 => rfl
 | j + 1 => by
  rw [← Nat.add_assoc,zl0,zl1 h j]
  unfold zqz
  rw [h,Bool.false_and,if_neg (by simp)]
theorem zl9 {α β:Type} {f:β → α → β}:∀ (l:List α) (b:β),(∀ a ∈ l,∀ b,f b a = b) → l.foldl f b = b
 | [],_,_ => rfl
 | a :: l,b,h => by
  rw [List.foldl_cons,h a (by simp),zl9 l b fun x hx => h x (by simp [hx])]
theorem zrr {y:Yd} (ls:List (List Int)) {b:List Int} (hb:zaG y.chairs.length b = true):zfq y ls b = zkz y ls b y.chairs.length:=by
 have hl:=zcY hb
 unfold zfq zkz
 cases e:y.chairs.length - b.length with
 | zero =>
  rw [zie,zl9]
  intro c _ best
  unfold zqz
  rw [if_neg]
  intro q
  simp only [czl] at q
  have:=zcY q.2
  simp at this
  omega
 | succ f =>
  rw [zie]
  congr 1
  funext best c
  unfold zqz zfq
  rw [show y.chairs.length - (b ++ [(c:Int)]).length = f by simp; omega]
def PL (y:Yd) (ls:List (List Int)) (b:List Int):zaL:=zaw 43 (zd1 (fun (y':Yd) (ls':List (List Int)) (b':List Int) => (y' = y ∧ ls' = ls) ∧ ∃ c:Nat,c < y.chairs.length ∧ zaG y.chairs.length (b ++ [(c:Int)]) = true ∧ b' = b ++ [(c:Int)]) zfq) P149
theorem zpr (y:Yd) (ls:List (List Int)) (b:List Int) (g:FuncId):PL y ls b g = (zaw 43 (zd1 (fun (y':Yd) (ls':List (List Int)) (b':List Int) => (y' = y ∧ ls' = ls) ∧ ∃ c:Nat,c < y.chairs.length ∧ zaG y.chairs.length (b ++ [(c:Int)]) = true ∧ b' = b ++ [(c:Int)]) zfq) P149) g:=rfl
theorem PL_flag (y:Yd) (ls:List (List Int)) (b:List Int) (d:Option Nat):zaI (PL y ls b) d = none:=(zai (by decide) d).trans (zk8 d)
attribute [go_sem] PL_flag
theorem PL_ok {y:Yd} {ls:List (List Int)} {b:List Int} (h:∀ c:Nat,c < y.chairs.length → zaG y.chairs.length (b ++ [(c:Int)]) = true → zaQ Tryz.prog 43 [Enc.enc y,Enc.enc ls,Enc.enc (b ++ [(c:Int)])] (· = Enc.enc (zfq y ls (b ++ [(c:Int)])))):zaC Tryz.prog (PL y ls b) :=
 zaj (zbY fun y' ls' b' q => by
  obtain ⟨⟨rfl,rfl⟩,c,hc,ho,rfl⟩:=q
  exact h c hc ho) P149_ok
theorem zl2 {y:Yd} {ls:List (List Int)} (hls:LsY y ls) {b:List Int} (hb:zaG y.chairs.length b = true) (H:∀ c:Nat,c < y.chairs.length → zaG y.chairs.length (b ++ [(c:Int)]) = true → zaQ Tryz.prog 43 [Enc.enc y,Enc.enc ls,Enc.enc (b ++ [(c:Int)])] (· = Enc.enc (zfq y ls (b ++ [(c:Int)])))) :
  zaQ Tryz.prog 43 [Enc.enc y,Enc.enc ls,Enc.enc b] (· = Enc.enc (zfq y ls b)):=by
 have hbl:=zcY hb
 have hc5:=hls.v.c5
 rw [zrr ls hb]
 simp only [enc_yd,zni,zjN]
 refine cpz (PL_ok H) Tryz.func43 zaD ?_
 rw [Tryz.ntmps43]
 simp only [Tryz.f43,zag,zap]
 simp (maxSteps:=4000000) only [go_sem,AV.one,zae,zac,zad,zaq,zas,zab,czb,cza,↓reduceIte,zaa,zao,onz,zpr]
 all_goals (repeat' first | (with_reducible first | rfl | apply And.intro | assumption) | ((with_reducible show zaf _ _ = true); rfl)) <;> try first | omega | (simp only [InR]; omega)
 refine zjt [] [1,2,3,6] (fun k:Nat => [(8,.int .i64 k),(7,.int .i64 (zkz y ls b k))]) (fun _ m => m) (fun k => k ≤ y.chairs.length) (fun k => y.chairs.length - k) ((0:Nat)) ?_ ?_ ?_
 ·exact Nat.zero_le _
 ·simp [AV.bare,zal,zaN,zaS,zak,zat,zah,tokz1,lk,zab,za2,zkz]
 ·intro k hk
  have hsu:=zl0 y ls b k
  by_cases e:k < y.chairs.length
  ·have e':=czH.2 e
   have hnl:(b ++ [(k:Int)]).length ≤ 4096:=by simp; omega
   have hone:∀ x ∈ b.map EncE.cs,∀ c ∈ x,AV.one c = true:=fun x hx c hc => by
    obtain ⟨a,_,rfl⟩:=czx.1 hx
    simp only [zel,czC] at hc
    subst hc; rfl
   cases d:decide (0 < zkz y ls b k)
   ·have hst:=zl1 d (y.chairs.length - k)
    rw [show k + (y.chairs.length - k) = y.chairs.length by omega] at hst
    simp (maxSteps:=4000000) only [go_sem,AV.one,zae,zac,zad,zaq,zas,zab,czb,cza,↓reduceIte,zaa,zao,onz,zpr,gt_iff_lt,e',d,hst,decide_true,decide_false]
    all_goals exact auz
   ·cases d2:zaG y.chairs.length (b ++ [(k:Int)])
    ·unfold zqz at hsu
     rw [d,d2,Bool.true_and,if_neg (by simp)] at hsu
     simp (maxSteps:=4000000) only [go_sem,zae,zac,zad,zaq,zas,zab,czb,cza,↓reduceIte,zaa,zao,onz,zpr,gt_iff_lt,e',d,d2,decide_true,decide_false]
     all_goals (repeat' first | (with_reducible first | rfl | apply And.intro | assumption) | ((with_reducible show zaf _ _ = true); rfl)) <;> try first | omega | (simp only [InR]; omega)
     refine ⟨k + 1,by omega,by omega,zbi ?_⟩
     simp [AV.bare,zal,zaN,zaS,zak,zat,zah,tokz1,lk,zab,za2,hsu]
    ·unfold zqz at hsu
     rw [d,d2,Bool.true_and,if_pos rfl] at hsu
     simp (maxSteps:=4000000) only [go_sem,zae,zac,zad,zaq,zas,zab,czb,cza,↓reduceIte,zaa,zao,onz,zpr,gt_iff_lt,e',d,d2,decide_true,decide_false]
     all_goals (repeat' first | (with_reducible first | rfl | apply And.intro | assumption) | ((with_reducible show zaf _ _ = true); rfl)) <;> try first | omega | (simp only [InR]; omega)
     ·exact ⟨k,e,d2,rfl⟩
     ·refine ⟨k + 1,by omega,by omega,zbi ?_⟩
      simp [AV.bare,zal,zaN,zaS,zak,zat,zah,tokz1,lk,zab,za2,hsu]
  ·have e2:k = y.chairs.length:=by omega
   subst e2
   simp (maxSteps:=4000000) only [go_sem,AV.one,zae,zac,zad,zaq,zas,zab,czb,cza,↓reduceIte,zaa,zao,onz,zpr,czA,decide_true,decide_false]
   all_goals exact auz
theorem zkh {y:Yd} {ls:List (List Int)} (hls:LsY y ls):∀ (f:Nat) (b:List Int),zaG y.chairs.length b = true → y.chairs.length ≤ b.length + f → zaQ Tryz.prog 43 [Enc.enc y,Enc.enc ls,Enc.enc b] (· = Enc.enc (zfq y ls b))
 | 0,b,hb,hf => zl2 hls hb fun c hc ho => by
  have:=zcY ho
  simp at this
  omega
 | f + 1,b,hb,hf => zl2 hls hb fun c hc ho => zkh hls f (b ++ [(c:Int)]) ho (by simp; omega)
def P150 (g:FuncId):=(zaw 43 (zd1 (fun (y:Yd) (ls:List (List Int)) (b:List Int) => LsY y ls ∧ zaG y.chairs.length b = true) zfq) (P149):zaL) g
theorem zsv:zaC Tryz.prog P150:=zaj (zbY fun y ls b h => zkh h.1 y.chairs.length b h.2 (by omega)) (P149_ok)
theorem zpB (d:Option Nat):zaI P150 d = none:=(zai (by decide) d).trans (zk8 d)
attribute [go_sem] P150 zpB
theorem zq8 (y:Yd) (all:List Int) (h:(all.length ≤ 4096 ∧ ∀ x ∈ all,BOk x) ∧ y.hires.length ≤ 7):zaQ Tryz.prog 48 [Enc.enc y,Enc.enc all] (· = Enc.enc (zeQ all y.hires.length 0)):=by
 have h1:=h.1.1
 have h2:=h.1.2
 have h3:=h.2
 simp only [zbz]
 refine cpz zsv Tryz.func48 zaD ?_
 rw [Tryz.ntmps48]
 simp only [Tryz.f48,zag,zap]
 simp (maxSteps:=4000000) only [go_sem,AV.one,zae,zac,zad,zaq,zas,zab,czb,cza,↓reduceIte,zaa,zao,onz]
 refine zbv (y.hires.length) [] [1,2,4] (fun i => [(5,.int .i64 i)]) (fun _ m => m) (fun i => zeQ all (y.hires.length - i) i = zeQ all y.hires.length 0) ?_ ?_ ?_ ?_
 ·rfl
 ·simp [AV.bare,zal,zaN,zaS,zak,zat,zah,tokz1,lk,zab,za2]
 ·intro i hi hI
  have hp:=zok i (by omega)
  have hp2:BOk (2 * 2 ^ i - 1):=⟨by omega,by have:=zok (i + 1) (by omega); rw [Int.pow_succ] at this; omega⟩
  rw [show y.hires.length - i = (y.hires.length - (i + 1)) + 1 by omega,zeQ] at hI
  cases c:zv0 all (2 * 2 ^ i - 1) <;>
   simp (maxSteps:=4000000) only [go_sem,AV.one,zae,zac,zad,zaq,zas,zab,czb,cza,↓reduceIte,zaa,zao,onz,czH.2 hi,c,zmp]
  all_goals all_goals (repeat' first | (with_reducible first | rfl | apply And.intro | assumption) | ((with_reducible show zaf _ _ = true); rfl)) <;> try first | omega | (simp only [InR]; omega)
  ·rw [c] at hI
   rw [← hI]; rfl
  ·rw [c] at hI
   refine nxt hi hI ?_
   simp [AV.bare,zal,zaN,zaS,zak,zat,zah,tokz1,lk,zab,za2]
 ·intro hI
  simp (maxSteps:=4000000) only [go_sem,AV.one,zae,zac,zad,zaq,zas,zab,czb,cza,↓reduceIte,zaa,zao,onz,czA,decide_false]
  rw [← hI]; simp [zeQ]
theorem zq6 (y:Yd) (all:List Int) (h:(all.length ≤ 4096 ∧ ∀ x ∈ all,BOk x) ∧ y.hires.length ≤ 7):zaQ Tryz.prog 47 [Enc.enc y,Enc.enc all] (· = Enc.enc (zdQ all (2 ^ y.hires.length - 1) (2 ^ y.hires.length))):=by
 have h1:=h.1.1
 have h2:=h.1.2
 have h3:=h.2
 have hp:=zok y.hires.length (by omega)
 have hf:((2:Int) ^ y.hires.length - 1) = ((2 ^ y.hires.length - 1:Nat):Int):=by
  have:=Nat.two_pow_pos y.hires.length
  rw [show ((2:Int) ^ y.hires.length) = ((2 ^ y.hires.length:Nat):Int) by simp]
  omega
 have hn:(2:Nat) ^ y.hires.length ≤ 256:=by
  have:=Nat.pow_le_pow_right (n:=2) (by omega) (show y.hires.length ≤ 8 by omega)
  omega
 have hn0:=Nat.two_pow_pos y.hires.length
 have hb0:BOk ((2 ^ y.hires.length - 1:Nat):Int):=⟨by omega,by omega⟩
 simp only [zbz]
 refine cpz zsv Tryz.func47 zaD ?_
 rw [Tryz.ntmps47]
 simp only [Tryz.f47,zag,zap]
 simp (maxSteps:=4000000) only [go_sem,AV.one,zae,zac,zad,zaq,zas,zab,czb,cza,↓reduceIte,zaa,zao,onz,hf]
 refine ⟨h3,hb0,?_⟩
 refine zbv (2 ^ y.hires.length) [] [1,2,4] (fun i => [(6,.int .i64 i),(5,.sl ((zdQ all (2 ^ y.hires.length - 1) i).map EncE.cs) .no)]) (fun _ m => m) (fun _ => True) ?_ ?_ ?_ ?_
 ·trivial
 ·simp [AV.bare,zal,zaN,zaS,zak,zat,zah,tokz1,lk,zab,za2,zdQ]
 ·intro i hi _
  have hi':(i:Int) ≤ ((2 ^ y.hires.length - 1:Nat):Int):=by omega
  have hll:=ziQ (all:=all) (full:=2 ^ y.hires.length - 1) (by omega) i (by omega)
  have hlb:=zkU (b:=i) (by omega)
  have hbi:BOk (i:Int):=⟨by omega,by omega⟩
  have hbc:BOk ((2 ^ y.hires.length - 1 - ((2 ^ y.hires.length - 1) &&& i):Nat):Int):=⟨by omega,by omega⟩
  cases c1:zcy (zlt i) (zdQ all (2 ^ y.hires.length - 1) i) <;> cases c2:zv0 all ((2 ^ y.hires.length - 1 - ((2 ^ y.hires.length - 1) &&& i):Nat):Int) <;>
   simp (maxSteps:=4000000) only [go_sem,AV.one,zae,zac,zad,zaq,zas,zab,czb,cza,↓reduceIte,zaa,zao,onz,hf,hi',c1,c2]
  all_goals all_goals (repeat' first | (with_reducible first | rfl | apply And.intro | assumption) | ((with_reducible show zaf _ _ = true); rfl)) <;> try first | omega | (simp only [InR]; omega)
  all_goals
   refine nxt hi trivial ?_
   simp [AV.bare,zal,zaN,zaS,zak,zat,zah,tokz1,lk,zab,za2,zdQ,c1,c2]
 ·intro _
  have hi':¬ (((2 ^ y.hires.length:Nat):Int) ≤ ((2 ^ y.hires.length - 1:Nat):Int)):=by omega
  simp (maxSteps:=4000000) only [go_sem,AV.one,zae,zac,zad,zaq,zas,zab,czb,cza,↓reduceIte,zaa,zao,onz,hf,hi']
  all_goals exact auz
def P151 (g:FuncId):=(zaw 48 (zbC (fun (y:Yd) (all:List Int) => (all.length ≤ 4096 ∧ ∀ x ∈ all,BOk x) ∧ y.hires.length ≤ 7) (fun y all => zeQ all y.hires.length 0)) (zaw 47 (zbC (fun (y:Yd) (all:List Int) => (all.length ≤ 4096 ∧ ∀ x ∈ all,BOk x) ∧ y.hires.length ≤ 7) (fun y all => zdQ all (2 ^ y.hires.length - 1) (2 ^ y.hires.length))) (P150)):zaL) g
theorem zeU:zaC Tryz.prog P151:=zaj (zaM zq8) (zaj (zaM zq6) (zsv))
theorem zpA (d:Option Nat):zaI P151 d = none:=(zai (by decide) d).trans ((zai (by decide) d).trans (zpB d))
attribute [go_sem] P151 zpA
theorem zvq (l:List Int) (h:l.length ≤ 4096):zaQ Tryz.prog 23 [Enc.enc l] (· = Enc.enc l):=by
 simp only [zbz]
 refine cpz zeU Tryz.func23 zaD ?_
 rw [Tryz.ntmps23]
 simp only [Tryz.f23,zag,zap]
 simp (maxSteps:=4000000) only [go_sem,AV.one,zae,zac,zad,zaq,zas,zab,czb,cza,↓reduceIte,zaa,zao,onz]
 all_goals (repeat' first | (with_reducible first | rfl | apply And.intro | assumption) | ((with_reducible show zaf _ _ = true); rfl)) <;> try first | omega | (simp only [InR]; omega)
 simp [zel,AV.one]
theorem zuV (a b:List Int) (h:a.length ≤ 4096 ∧ b.length ≤ 4096):zaQ Tryz.prog 31 [Enc.enc a,Enc.enc b] (· = Enc.enc (decide (a = b))):=by
 have h1:=h.1
 have h2:=h.2
 cases c:decide ((a.length:Int) = b.length)
 ·have hn:decide (a = b) = false:=by
   simp only [decide_eq_false_iff_not] at c ⊢
   intro e; apply c; rw [e]
  rw [hn]
  simp only [zbz]
  refine cpz zeU Tryz.func31 zaD ?_
  rw [Tryz.ntmps31]
  simp only [Tryz.f31,zag,zap]
  simp (maxSteps:=4000000) only [go_sem,AV.one,zae,zac,zad,zaq,zas,zab,czb,cza,↓reduceIte,zaa,zao,onz,c]
 ·have hl:a.length = b.length:=by simp only [decide_eq_true_eq] at c; omega
  simp only [zbz]
  refine cpz zeU Tryz.func31 zaD ?_
  rw [Tryz.ntmps31]
  simp only [Tryz.f31,zag,zap]
  simp (maxSteps:=4000000) only [go_sem,AV.one,zae,zac,zad,zaq,zas,zab,czb,cza,↓reduceIte,zaa,zao,onz,c]
  refine zbv (a.length) [] [0,1,4] (fun i => [(5,.int .i64 i)]) (fun _ m => m) (fun i => a.take i = b.take i) ?_ ?_ ?_ ?_
  ·simp
  ·simp [AV.bare,zal,zaN,zaS,zak,zat,zah,tokz1,lk,zab,za2]
  ·intro i hi hI
   have hi':=czH.2 hi
   have hib:i < b.length:=by omega
   cases c2:decide (at_ a i = at_ b i) <;>
    simp (maxSteps:=4000000) only [go_sem,AV.one,zae,zac,zad,zaq,zas,zab,czb,cza,↓reduceIte,zaa,zao,onz,zax hi,zax hib,hi',c2]
   all_goals all_goals (repeat' first | (with_reducible first | rfl | apply And.intro | assumption) | ((with_reducible show zaf _ _ = true); rfl)) <;> try first | omega | (simp only [InR]; omega)
   ·have:decide (a = b) = false:=by
     simp only [decide_eq_false_iff_not] at c2 ⊢
     intro e; apply c2; rw [e]
    rw [this]
   ·simp only [decide_eq_true_eq] at c2
    refine nxt hi (by rw [zaW hi,zaW hib,hI,c2]) ?_
    simp [AV.bare,zal,zaN,zaS,zak,zat,zah,tokz1,lk,zab,za2]
  ·intro hI
   rw [czm,hl,czm] at hI
   simp (maxSteps:=4000000) only [go_sem,AV.one,zae,zac,zad,zaq,zas,zab,czb,cza,↓reduceIte,zaa,zao,onz]
   simp [hI]
theorem zrG (y:Yd) (h:y.t.heights.length ≤ 4096 ∧ y.order.length ≤ 4096):zaQ Tryz.prog 25 [Enc.enc y] (· = Enc.enc (za9 y)):=by
 simp only [zbz]
 refine cpz zeU Tryz.func25 zaD ?_
 rw [Tryz.ntmps25]
 simp only [Tryz.f25,zag,zap]
 simp (maxSteps:=4000000) only [go_sem,AV.one,zae,zac,zad,zaq,zas,zab,czb,cza,↓reduceIte,zaa,zao,onz,h.1,h.2]
 all_goals exact auz
def ziC (y:Yd):Bool:=if zqv y.t = false ∨ 7 < y.chairs.length ∨ 7 < y.hires.length ∨ 7 < y.order.length then false else decide (zbp y.t ≠ 0) || decide (zc8 y.t.heights ≤ 60)
theorem zfl {y:Yd} (h:ziC y = true):(y.t.heights.length ≤ 12 ∧ y.t.levels.length ≤ 8 ∧ y.t.marks.length ≤ 7) ∧ y.chairs.length ≤ 7 ∧ y.hires.length ≤ 7 ∧ y.order.length ≤ 7:=by
 unfold ziC at h
 split at h
 ·cases h
 ·rename_i q
  simp only [not_or,Bool.not_eq_false] at q
  exact ⟨zsT q.1,by omega,by omega,by omega⟩
theorem zww (y:Yd):zaQ Tryz.prog 19 [Enc.enc y] (· = Enc.enc (ziC y)):=by
 unfold ziC
 cases a0:zqv y.t
 ·rw [if_pos (.inl rfl)]
  simp only [zbz]
  refine cpz zeU Tryz.func19 zaD ?_
  rw [Tryz.ntmps19]
  simp only [Tryz.f19,zag,zap]
  simp (maxSteps:=4000000) only [go_sem,AV.one,zae,zac,zad,zaq,zas,zab,czb,cza,↓reduceIte,zaa,zao,onz,gt_iff_lt,a0]
 have hl:=zsT a0
 by_cases a1:7 < y.chairs.length
 ·rw [if_pos (.inr (.inl a1))]
  simp only [zbz]
  refine cpz zeU Tryz.func19 zaD ?_
  rw [Tryz.ntmps19]
  simp only [Tryz.f19,zag,zap]
  simp (maxSteps:=4000000) only [go_sem,AV.one,zae,zac,zad,zaq,zas,zab,czb,cza,↓reduceIte,zaa,zao,onz,gt_iff_lt,a0,show decide ((7:Int) < y.chairs.length) = true by simp; omega]
 by_cases a2:7 < y.hires.length
 ·rw [if_pos (.inr (.inr (.inl a2)))]
  simp only [zbz]
  refine cpz zeU Tryz.func19 zaD ?_
  rw [Tryz.ntmps19]
  simp only [Tryz.f19,zag,zap]
  simp (maxSteps:=4000000) only [go_sem,AV.one,zae,zac,zad,zaq,zas,zab,czb,cza,↓reduceIte,zaa,zao,onz,gt_iff_lt,a0,show decide ((7:Int) < y.chairs.length) = false by simp; omega,show decide ((7:Int) < y.hires.length) = true by simp; omega]
 by_cases a3:7 < y.order.length
 ·rw [if_pos (.inr (.inr (.inr a3)))]
  simp only [zbz]
  refine cpz zeU Tryz.func19 zaD ?_
  rw [Tryz.ntmps19]
  simp only [Tryz.f19,zag,zap]
  simp (maxSteps:=4000000) only [go_sem,AV.one,zae,zac,zad,zaq,zas,zab,czb,cza,↓reduceIte,zaa,zao,onz,gt_iff_lt,a0,show decide ((7:Int) < y.chairs.length) = false by simp; omega,show decide ((7:Int) < y.hires.length) = false by simp; omega,show decide ((7:Int) < y.order.length) = true by simp; omega]
 rw [if_neg (by simp; omega)]
 by_cases c:zbp y.t = 0
 ·have hok:=(zcR c).hok
  simp only [zbz]
  refine cpz zeU Tryz.func19 zaD ?_
  rw [Tryz.ntmps19]
  simp only [Tryz.f19,zag,zap]
  simp (maxSteps:=4000000) only [go_sem,AV.one,zae,zac,zad,zaq,zas,zab,czb,cza,↓reduceIte,zaa,zao,onz,gt_iff_lt,a0,show decide ((7:Int) < y.chairs.length) = false by simp; omega,show decide ((7:Int) < y.hires.length) = false by simp; omega,show decide ((7:Int) < y.order.length) = false by simp; omega,c]
  all_goals (repeat' first | (with_reducible first | rfl | apply And.intro | assumption) | ((with_reducible show zaf _ _ = true); rfl)) <;> try first | omega | (simp only [InR]; omega)
  simp [c]
 ·simp only [zbz]
  refine cpz zeU Tryz.func19 zaD ?_
  rw [Tryz.ntmps19]
  simp only [Tryz.f19,zag,zap]
  simp (maxSteps:=4000000) only [go_sem,AV.one,zae,zac,zad,zaq,zas,zab,czb,cza,↓reduceIte,zaa,zao,onz,gt_iff_lt,a0,show decide ((7:Int) < y.chairs.length) = false by simp; omega,show decide ((7:Int) < y.hires.length) = false by simp; omega,show decide ((7:Int) < y.order.length) = false by simp; omega,c]
  all_goals (repeat' first | (with_reducible first | rfl | apply And.intro | assumption) | ((with_reducible show zaf _ _ = true); rfl)) <;> try first | omega | (simp only [InR]; omega)
  simp [c]
def P152 (g:FuncId):=(zaw 23 (zct (fun l:List Int => l.length ≤ 4096) (fun l => l)) (zaw 31 (zbC (fun (a b:List Int) => a.length ≤ 4096 ∧ b.length ≤ 4096) (fun a b => decide (a = b))) (zaw 25 (zct (fun y:Yd => y.t.heights.length ≤ 4096 ∧ y.order.length ≤ 4096) za9) (zaw 19 (zct (fun _:Yd => True) ziC) (P151)))):zaL) g
theorem zeT:zaC Tryz.prog P152:=zaj (zbf zvq) (zaj (zaM zuV) (zaj (zbf zrG) (zaj (zbf fun y _ => zww y) (zeU))))
theorem zpz (d:Option Nat):zaI P152 d = none:=(zai (by decide) d).trans ((zai (by decide) d).trans ((zai (by decide) d).trans ((zai (by decide) d).trans (zpA d))))
attribute [go_sem] P152 zpz
def zdG (y:Yd):List (List Int) × Int:=if za9 y = 0 then if zaV y = [] then ([],11) else (zaV y,0) else ([],za9 y)
theorem zuB (y:Yd) (h:y.t.heights.length ≤ 4096 ∧ y.order.length ≤ 4096):zaQ Tryz.prog 34 [Enc.enc y] (· = Enc.enc (zdG y)):=by
 obtain ⟨h1,h2⟩:=h
 simp only [zaa]
 unfold zdG
 by_cases c:za9 y = 0
 case neg =>
  rw [if_neg c]
  simp only [zbz]
  refine cpz zeT Tryz.func34 zaD ?_
  rw [Tryz.ntmps34]
  simp only [Tryz.f34,zag,zap]
  simp (maxSteps:=4000000) only [go_sem,AV.one,zae,zac,zad,zaq,zas,zab,czb,cza,↓reduceIte,zaa,zao,onz,h1,h2,c]
  all_goals exact auz
 rw [if_pos c]
 have hv:=zg9 c
 obtain ⟨L,e⟩:∃ L,zaV y = L:=⟨_,rfl⟩
 rw [e]
 by_cases hL:L = []
 ·rw [if_pos hL]
  subst hL
  simp only [zbz]
  refine cpz zeT Tryz.func34 zaD ?_
  rw [Tryz.ntmps34]
  simp only [Tryz.f34,zag,zap]
  simp (maxSteps:=4000000) only [go_sem,AV.one,zae,zac,zad,zaq,zas,zab,czb,cza,↓reduceIte,zaa,zao,onz,h1,h2,c,e,hv]
  all_goals exact auz
 ·rw [if_neg hL]
  have hne:decide ((L.length:Int) = 0) = false:=by
   cases L with
   | nil => exact absurd rfl hL
   | cons _ _ => simp; omega
  simp only [zbz]
  refine cpz zeT Tryz.func34 zaD ?_
  rw [Tryz.ntmps34]
  simp only [Tryz.f34,zag,zap]
  simp (maxSteps:=4000000) only [go_sem,AV.one,zae,zac,zad,zaq,zas,zab,czb,cza,↓reduceIte,zaa,zao,onz,h1,h2,c,e,hv,hne]
  all_goals exact auz
theorem zqZ (y:Yd):zaQ Tryz.prog 52 [Enc.enc y] (· = Enc.enc (ziC y && decide (za9 y = 0))):=by
 cases c:ziC y
 ·simp only [zbz]
  refine cpz zeT Tryz.func52 zaD ?_
  rw [Tryz.ntmps52]
  simp only [Tryz.f52,zag,zap]
  simp (maxSteps:=4000000) only [go_sem,AV.one,zae,zac,zad,zaq,zas,zab,czb,cza,↓reduceIte,zaa,zao,onz,c]
 ·have:=zfl c
  simp only [zbz]
  refine cpz zeT Tryz.func52 zaD ?_
  rw [Tryz.ntmps52]
  simp only [Tryz.f52,zag,zap]
  simp (maxSteps:=4000000) only [go_sem,AV.one,zae,zac,zad,zaq,zas,zab,czb,cza,↓reduceIte,zaa,zao,onz,c]
  all_goals exact auz
theorem zvD (l:List Int) (n:Int) (h:l.length ≤ 4096):zaQ Tryz.prog 55 [Enc.enc l,Enc.enc n] (· = Enc.enc (l.contains n)):=by
 simp only [zbz]
 refine cpz zeT Tryz.func55 zaD ?_
 rw [Tryz.ntmps55]
 simp only [Tryz.f55,zag,zap]
 simp (maxSteps:=4000000) only [go_sem,AV.one,zae,zac,zad,zaq,zas,zab,czb,cza,↓reduceIte,zaa,zao,onz]
 refine zbv (l.length) [] [0,1,4] (fun i => [(5,.int .i64 i)]) (fun _ m => m) (fun i => (l.take i).contains n = false) ?_ ?_ ?_ ?_
 ·simp
 ·simp [AV.bare,zal,zaN,zaS,zak,zat,zah,tokz1,lk,zab,za2]
 ·intro i hi hI
  have hi':=czH.2 hi
  cases c2:decide (at_ l i = n) <;>
   simp (maxSteps:=4000000) only [go_sem,AV.one,zae,zac,zad,zaq,zas,zab,czb,cza,↓reduceIte,zaa,zao,onz,zax hi,hi',c2]
  all_goals all_goals (repeat' first | (with_reducible first | rfl | apply And.intro | assumption) | ((with_reducible show zaf _ _ = true); rfl)) <;> try first | omega | (simp only [InR]; omega)
  ·refine nxt hi ?_ ?_
   ·have:¬ at_ l i = n:=by simpa using c2
    rw [zaW hi,List.contains_append,hI]
    simp; exact fun q => this q.symm
   ·simp [AV.bare,zal,zaN,zaS,zak,zat,zah,tokz1,lk,zab,za2]
  ·have q:at_ l i = n:=by simpa using c2
   have:l.contains n = true:=by rw [List.contains_iff_mem,← q]; exact zbh hi
   rw [this]
 ·intro hI
  rw [czm] at hI
  simp (maxSteps:=4000000) only [go_sem,AV.one,zae,zac,zad,zaq,zas,zab,czb,cza,↓reduceIte,zaa,zao,onz,czA,decide_false,hI]
theorem zoQ (a b:Int):zaQ Tryz.prog 51 [Enc.enc a,Enc.enc b] (· = Enc.enc (Rg.mk a b)):=by
 simp only [zbz]
 refine cpz zeT Tryz.func51 zaD ?_
 rw [Tryz.ntmps51]
 simp only [Tryz.f51,zag,zap]
 simp (maxSteps:=4000000) only [go_sem,AV.one,zae,zac,zad,zaq,zas,zab,czb,cza,↓reduceIte,zaa,zao,onz]
def zlG (s:Sy) (w r:Int) (f:List Int):Bool:=decide (s.wet = w) && (decide (s.rot = r) && decide (s.free = f))
theorem zqB (s:Sy) (w r:Int) (f:List Int) (h:s.free.length ≤ 4096 ∧ f.length ≤ 4096):zaQ Tryz.prog 50 [Enc.enc s,Enc.enc w,Enc.enc r,Enc.enc f] (· = Enc.enc (zlG s w r f)):=by
 obtain ⟨h1,h2⟩:=h
 unfold zlG
 cases c1:decide (s.wet = w)
 ·simp only [zbz]
  refine cpz zeT Tryz.func50 zaD ?_
  rw [Tryz.ntmps50]
  simp only [Tryz.f50,zag,zap]
  simp (maxSteps:=4000000) only [go_sem,AV.one,zae,zac,zad,zaq,zas,zab,czb,cza,↓reduceIte,zaa,zao,onz,c1]
  all_goals exact auz
 cases c2:decide (s.rot = r)
 ·simp only [zbz]
  refine cpz zeT Tryz.func50 zaD ?_
  rw [Tryz.ntmps50]
  simp only [Tryz.f50,zag,zap]
  simp (maxSteps:=4000000) only [go_sem,AV.one,zae,zac,zad,zaq,zas,zab,czb,cza,↓reduceIte,zaa,zao,onz,c1,c2]
  all_goals exact auz
 ·simp only [zbz]
  refine cpz zeT Tryz.func50 zaD ?_
  rw [Tryz.ntmps50]
  simp only [Tryz.f50,zag,zap]
  simp (maxSteps:=4000000) only [go_sem,AV.one,zae,zac,zad,zaq,zas,zab,czb,cza,↓reduceIte,zaa,zao,onz,c1,c2]
  all_goals exact auz
def P153 (g:FuncId):=(zaw 34 (zct (fun y:Yd => y.t.heights.length ≤ 4096 ∧ y.order.length ≤ 4096) zdG) (zaw 52 (zct (fun _:Yd => True) (fun y => ziC y && decide (za9 y = 0))) (zaw 55 (zbC (fun (l:List Int) (_:Int) => l.length ≤ 4096) (fun l n => l.contains n)) (zaw 51 (zbC (fun _ _:Int => True) Rg.mk) (zaw 50 (zjm (fun (s:Sy) (_ _:Int) (f:List Int) => s.free.length ≤ 4096 ∧ f.length ≤ 4096) zlG) (P152))))):zaL) g
theorem zsu:zaC Tryz.prog P153:=zaj (zbf zuB) (zaj (zbf fun y _ => zqZ y) (zaj (zaM zvD) (zaj (zaM fun a b _ => zoQ a b) (zaj (zer zqB) (zeT)))))
theorem zpy (d:Option Nat):zaI P153 d = none:=(zai (by decide) d).trans ((zai (by decide) d).trans ((zai (by decide) d).trans ((zai (by decide) d).trans ((zai (by decide) d).trans (zpz d)))))
attribute [go_sem] P153 zpy
def partB (l o:List Int):Bool:=o.all fun n => l.contains n
theorem zu7 (l o:List Int) (h:l.length ≤ 4096 ∧ o.length ≤ 4096):zaQ Tryz.prog 60 [Enc.enc l,Enc.enc o] (· = Enc.enc (partB l o)):=by
 obtain ⟨h1,h2⟩:=h
 simp only [zbz]
 refine cpz zsu Tryz.func60 zaD ?_
 rw [Tryz.ntmps60]
 simp only [Tryz.f60,zag,zap]
 simp (maxSteps:=4000000) only [go_sem,AV.one,zae,zac,zad,zaq,zas,zab,czb,cza,↓reduceIte,zaa,zao,onz]
 refine zbv (o.length) [] [0,1,4] (fun i => [(5,.int .i64 i)]) (fun _ m => m) (fun i => (o.take i).all (fun n => l.contains n) = true) ?_ ?_ ?_ ?_
 ·simp
 ·simp [AV.bare,zal,zaN,zaS,zak,zat,zah,tokz1,lk,zab,za2]
 ·intro i hi hI
  have hi':=czH.2 hi
  cases c2:l.contains (at_ o i) <;>
   simp (maxSteps:=4000000) only [go_sem,AV.one,zae,zac,zad,zaq,zas,zab,czb,cza,↓reduceIte,zaa,zao,onz,zax hi,hi',c2]
  all_goals all_goals (repeat' first | (with_reducible first | rfl | apply And.intro | assumption) | ((with_reducible show zaf _ _ = true); rfl)) <;> try first | omega | (simp only [InR]; omega)
  ·rw [show partB l o = false from zf5 hi c2]
  ·refine nxt hi (by rw [zed hi,hI,c2]; rfl) ?_
   simp [AV.bare,zal,zaN,zaS,zak,zat,zah,tokz1,lk,zab,za2]
 ·intro hI
  have hI:=zek hI
  simp (maxSteps:=4000000) only [go_sem,AV.one,zae,zac,zad,zaq,zas,zab,czb,cza,↓reduceIte,zaa,zao,onz,czA,decide_false]
  rw [show partB l o = true from hI]
theorem Yard_call (y:Yd) (h:(y.t.heights.length ≤ 4096 ∧ y.t.levels.length ≤ 4096 ∧ y.t.marks.length ≤ 4096) ∧ y.chairs.length ≤ 4096 ∧ y.order.length ≤ 4096 ∧ y.hires.length ≤ 4096):zaQ Tryz.prog 22 [Enc.enc y] (· = Enc.enc y):=by
 obtain ⟨⟨h1,h2,h3⟩,h4,h5,h6⟩:=h
 simp only [zbz]
 refine cpz zsu Tryz.func22 zaD ?_
 rw [Tryz.ntmps22]
 simp only [Tryz.f22,zag,zap]
 simp (maxSteps:=4000000) only [go_sem,zae,zac,zad,zaq,zas,zab,czb,cza,↓reduceIte,zaa,zao,onz]
 all_goals (repeat' first | (with_reducible first | rfl | apply And.intro | assumption) | ((with_reducible show zaf _ _ = true); rfl)) <;> try first | omega | (simp only [InR]; omega)
 refine zbv (y.chairs.length) [.cell 2 6 3] [1,2,3] (fun i => [(4,.int .i64 i)]) (fun i m => (m.set 2 (.cells [.int .i64 y.t.last,.sl (y.t.heights.map EncE.cs) .no,.int .i64 y.t.step,.sl (y.t.levels.map EncE.cs) .no,.sl (y.t.marks.map EncE.cs) .no,.int .i64 y.hands,.sl ((y.chairs.take i).map EncE.cs) (.own 3),.sl (y.order.map EncE.cs) .no,.sl [] .full])).set 3 (.tok i 3)) (fun _ => True) ?_ ?_ ?_ ?_
 ·trivial
 ·simp [AV.bare,zal,zaN,zaS,zak,zat,zah,tokz1,lk,zab,za2,-List.map_take]
 ·intro i hi _
  have hi':=czH.2 hi
  have hg:(y.chairs.map EncE.cs).getD i [] = EncE.cs (at_ y.chairs i):=zax hi
  have htk:(y.chairs.take i).length = i:=by simp; omega
  simp (maxSteps:=4000000) only [go_sem,zae,zac,zad,zaq,zas,zab,czb,cza,↓reduceIte,zaa,zao,onz,hi',hg,htk]
  all_goals (repeat' first | (with_reducible first | rfl | apply And.intro | assumption) | ((with_reducible show zaf _ _ = true); rfl)) <;> try first | omega | (simp only [InR]; omega)
  refine nxt hi trivial ?_
  simp [AV.bare,zal,zaN,zaS,zak,zat,zah,tokz1,lk,zab,za2,zaW hi,-List.map_take]
 ·intro _
  simp (maxSteps:=4000000) only [go_sem,zae,zac,zad,zaq,zas,zab,czb,cza,↓reduceIte,zaa,zao,onz,czm,czA,decide_false]
  all_goals (repeat' first | (with_reducible first | rfl | apply And.intro | assumption) | ((with_reducible show zaf _ _ = true); rfl)) <;> try first | omega | (simp only [InR]; omega)
  refine zbv (y.hires.length) [.cell 2 8 2] [1,2,3] (fun i => [(6,.int .i64 i)]) (fun i m => (m.set 2 (.cells [.int .i64 y.t.last,.sl (y.t.heights.map EncE.cs) .no,.int .i64 y.t.step,.sl (y.t.levels.map EncE.cs) .no,.sl (y.t.marks.map EncE.cs) .no,.int .i64 y.hands,.sl (y.chairs.map EncE.cs) (.own 3),.sl (y.order.map EncE.cs) .no,.sl ((y.hires.take i).map EncE.cs) (.own 4)])).set 4 (.tok i 2)) (fun _ => True) ?_ ?_ ?_ ?_
  ·trivial
  ·simp [AV.bare,zal,zaN,zaS,zak,zat,zah,tokz1,lk,zab,za2,-List.map_take]
  ·intro i hi _
   have hi':=czH.2 hi
   have hg:(y.hires.map EncE.cs).getD i [] = EncE.cs (at_ y.hires i):=zax hi
   have htk:(y.hires.take i).length = i:=by simp; omega
   simp (maxSteps:=4000000) only [go_sem,zae,zac,zad,zaq,zas,zab,czb,cza,↓reduceIte,zaa,zao,onz,hi',hg,htk]
   all_goals (repeat' first | (with_reducible first | rfl | apply And.intro | assumption) | ((with_reducible show zaf _ _ = true); rfl)) <;> try first | omega | (simp only [InR]; omega)
   refine nxt hi trivial ?_
   simp [AV.bare,zal,zaN,zaS,zak,zat,zah,tokz1,lk,zab,za2,zaW hi,-List.map_take]
  ·intro _
   simp (maxSteps:=4000000) only [go_sem,zae,zac,zad,zaq,zas,zab,czb,cza,↓reduceIte,zaa,zao,onz,czm,czA,decide_false]
   all_goals exact auz
def P154 (g:FuncId):=(zaw 60 (zbC (fun (l o:List Int) => l.length ≤ 4096 ∧ o.length ≤ 4096) partB) (zaw 22 (zct (fun y:Yd => (y.t.heights.length ≤ 4096 ∧ y.t.levels.length ≤ 4096 ∧ y.t.marks.length ≤ 4096) ∧ y.chairs.length ≤ 4096 ∧ y.order.length ≤ 4096 ∧ y.hires.length ≤ 4096) (fun y => y)) (P153)):zaL) g
theorem zst:zaC Tryz.prog P154:=zaj (zaM zu7) (zaj (zbf Yard_call) (zsu))
theorem zpx (d:Option Nat):zaI P154 d = none:=(zai (by decide) d).trans ((zai (by decide) d).trans (zpy d))
attribute [go_sem] P154 zpx
end Go.Proofs
