/- The texts S5, S6, S7, S8, S9, joined. -/
import Derived.Test.YtilbconikmpadaaGreatG7
set_option linter.all false
namespace Go.Proofs
open Go.Fs
set_option maxHeartbeats 1000000
set_option maxRecDepth 8000
def P9 (g:FuncId):=(zaw 69 (zct (fun t => HOk t ∧ MOk t) zaJ) (P8):zaL) g
theorem P9_ok:zaC Tryz.prog P9:=zaj (zbf zsr) (P8_ok)
theorem P9_flag (d:Option Nat):zaI P9 d = none:=(zai (by decide) d).trans (P8_flag d)
attribute [go_sem] P9 P9_flag
def zes (l:List Int) (level:Int):Int :=
 match zhd l level with
 | [] => l.length
 | w :: _ => w
def zdi (r:Rg) (n:Int):Rg:=⟨min r.lo n,max r.hi n⟩
theorem zwu (r:Rg) (n:Int):zaQ Tryz.prog 101 [Enc.enc r,Enc.enc n] (· = Enc.enc (zdi r n)):=by
 simp only [zcz]
 refine cpz P9_ok Tryz.func101 zaD ?_
 rw [Tryz.ntmps101]
 simp only [Tryz.f101,zag,zap]
 simp (maxSteps:=4000000) only [go_sem,AV.one,zae,zac,zad,zaq,zas,zab,czb,cza,↓reduceIte]
 rfl
def zjc:Rg:=⟨1099511627776,-1⟩
theorem zwI:zaQ Tryz.prog 100 [] (· = Enc.enc zjc):=by
 simp only [zcz]
 refine cpz P9_ok Tryz.func100 zaD ?_
 rw [Tryz.ntmps100]
 simp only [Tryz.f100,zag,zap]
 simp (maxSteps:=4000000) only [go_sem,AV.one,zae,zac,zad,zaq,zas,zab,czb,cza,↓reduceIte]
 rfl
theorem zoU {α β:Type} [Inhabited α] {l:List α} {f:β → α → β} {b:β} {i:Nat} (h:i < l.length):(l.take (i + 1)).foldl f b = f ((l.take i).foldl f b) (at_ l i):=by
 rw [zaW h,List.foldl_append]; rfl
def P10 (g:FuncId):=(zaw 101 (zbC (fun (_:Rg) (_:Int) => True) zdi) (zaw 100 (zuG zjc) (P9)):zaL) g
theorem P10_ok:zaC Tryz.prog P10:=zaj (zaM fun a b _ => zwu a b) (zaj (zmG zwI) (P9_ok))
theorem zuo (d:Option Nat):zaI P10 d = none:=(zai (by decide) d).trans ((zai (by decide) d).trans (P9_flag d))
attribute [go_sem] P10 zuo
def zkP (ls:List (List Int)) (hour:Int):Rg:=ls.foldl (fun r l => zdi r (at_ l hour.toNat)) zjc
def zs7 (ls:List (List Int)) (level:Int):Rg:=ls.foldl (fun r l => zdi r (zes l level)) zjc
def wetMany (ls:List (List Int)) (level:Int) (hour:Nat):Int:=ls.foldl (fun n l => if level < at_ l hour then n + 1 else n) 0
def verdictL (ls:List (List Int)) (level hour:Int):Int :=
 if wetMany ls level hour.toNat = ls.length then 1 else if wetMany ls level hour.toNat = 0 then 2 else 3
def ztn (ls:List (List Int)) (a b level:Int):Bool:=ls.all fun l => decide (zlE l a b ≤ level)
def dryN (ls:List (List Int)) (a b:Int):Nat → Int → Int
 | 0,n => n
 | f + 1,n => if ztn ls a b n then n else dryN ls a b f (n + 1)
def dryL (ls:List (List Int)) (a b:Int):Int:=dryN ls a b 99 0
def P11:zaL:=P10
theorem P11_app (g:FuncId):P11 g = (P10) g:=rfl
theorem P11_ok:zaC Tryz.prog P11:=P10_ok
attribute [go_sem] P11_app
theorem zun (d:Option Nat):zaI P11 d = none:=zuo d
attribute [go_sem] zun
def P12:zaL:=P11
theorem P12_app (g:FuncId):P12 g = (P11) g:=rfl
theorem P12_ok:zaC Tryz.prog P12:=P11_ok
attribute [go_sem] P12_app
theorem zum (d:Option Nat):zaI P12 d = none:=zun d
attribute [go_sem] zum
theorem zok:∀ k:Nat,k ≤ 8 → (1:Int) ≤ 2 ^ k ∧ (2:Int) ^ k ≤ 256:=by decide
theorem zmp:((IntKind.i64.bits:Nat):Int) = 64:=rfl
theorem pow_nat (k:Nat):(1 * 2 ^ k:Int) = ((2 ^ k:Nat):Int):=by simp
def rb (l:List Int) (ms:List Mk):Nat → Nat
 | 0 => 0
 | n + 1 => if zdX l (at_ ms n) then rb l ms n ||| 2 ^ n else rb l ms n
def allN (t:Tb) (n:Nat):List Int:=((zcq t).take n).map fun l => (rb l t.marks t.marks.length:Int)
def allL (t:Tb):List Int:=allN t (zcq t).length
def zv0 (all:List Int) (marks:Int):Bool:=all.any fun x => decide (((x.toNat &&& marks.toNat:Nat):Int) = marks)
theorem zw8 {α:Type} [Inhabited α] {l:List α} {p:α → Bool} {i:Nat} (h:i < l.length):(l.take (i + 1)).any p = ((l.take i).any p || p (at_ l i)):=by
 rw [zaW h,List.any_append]; simp
theorem any_at {α:Type} [Inhabited α] {l:List α} {p:α → Bool} {i:Nat} (h:i < l.length) (hp:p (at_ l i) = true):l.any p = true:=by
 rw [List.any_eq_true]; exact ⟨_,zbh h,hp⟩
def BOk (x:Int):Prop:=0 ≤ x ∧ x ≤ 511
theorem Can_call (all:List Int) (marks:Int) (h:(all.length ≤ 4096 ∧ ∀ x ∈ all,BOk x) ∧ BOk marks):zaQ Tryz.prog 111 [Enc.enc all,Enc.enc marks] (· = Enc.enc (zv0 all marks)):=by
 have h1:=h.1.1
 have h2:=h.2
 unfold BOk at h2
 simp only [zcz]
 refine cpz P12_ok Tryz.func111 zaD ?_
 rw [Tryz.ntmps111]
 simp only [Tryz.f111,zag,zap]
 simp (maxSteps:=4000000) only [go_sem,AV.one,zae,zac,zad,zaq,zas,zab,czb,cza,↓reduceIte]
 refine zbv (all.length) [] [0,1,4] (fun i => [(5,.int .i64 i)]) (fun _ m => m) (fun i => (all.take i).any (fun x => decide (((x.toNat &&& marks.toNat:Nat):Int) = marks)) = false) ?_ ?_ ?_ ?_
 ·simp
 ·simp [AV.bare,zal,zaN,zaS,zak,zat,zah,tokz1,lk,zab,zcW]
 ·intro i hi hI
  have hb:=h.1.2 _ (zbh hi)
  unfold BOk at hb
  cases c:decide ((((at_ all i).toNat &&& marks.toNat:Nat):Int) = marks) <;>
   simp (maxSteps:=4000000) only [go_sem,AV.one,zae,zac,zad,zaq,zas,zab,czb,cza,↓reduceIte,zax hi,czH.2 hi,c]
  all_goals all_goals (repeat' first | (with_reducible first | rfl | apply And.intro | assumption) | ((with_reducible show zaf _ _ = true); rfl)) <;> try first | omega | (simp only [InR]; omega)
  ·refine nxt hi ?_ ?_
   ·rw [zw8 hi,hI,c]; rfl
   ·simp [AV.bare,zal,zaN,zaS,zak,zat,zah,tokz1,lk,zab,zcW]
  ·rw [zv0,any_at hi c]
 ·intro hI
  rw [czm] at hI
  simp (maxSteps:=4000000) only [go_sem,AV.one,zae,zac,zad,zaq,zas,zab,czb,cza,↓reduceIte]
  rw [zv0,hI]
def blN (b:Nat):Nat:=if b = 0 then 0 else b.log2 + 1
def zls (b n:Nat):List Int:=((List.range n).filter fun p => b.testBit p).map fun p:Nat => (p:Int)
def zlt (b:Nat):List Int:=zls b (blN b)
theorem zv3 (b n:Nat):zls b (n + 1) = zls b n ++ (if b.testBit n then [(n:Int)] else []):=by
 simp only [zls,List.range_succ,List.filter_append,List.map_append]
 cases c:b.testBit n <;> simp [List.filter,c]
theorem zkT (b n:Nat):(zls b n).length ≤ n:=by
 have:=List.length_filter_le (fun p => b.testBit p) (List.range n)
 simpa [zls] using this
theorem blN_lt {b p:Nat} (h:p < blN b):0 < b / 2 ^ p:=by
 unfold blN at h
 split at h
 ·omega
 ·rename_i hb
  have:2 ^ p ≤ b:=(Nat.le_log2 hb).1 (by omega)
  exact Nat.div_pos this (Nat.two_pow_pos p)
theorem blN_end (b:Nat):b / 2 ^ blN b = 0:=by
 unfold blN
 split
 ·rename_i h; subst h; rfl
 ·rename_i h
  exact Nat.div_eq_of_lt ((Nat.log2_lt h).1 (by omega))
theorem blN_le {b:Nat} (h:b ≤ 511):blN b ≤ 9:=by
 unfold blN
 split
 ·omega
 ·rename_i hb
  have:=(Nat.log2_lt (k:=9) hb).2 (by omega)
  omega
theorem Bits_call (b:Int) (h:BOk b):zaQ Tryz.prog 64 [Enc.enc b] (· = Enc.enc (zlt b.toNat)):=by
 have h0:=h.1
 have h1:=h.2
 obtain ⟨b,rfl⟩:=czu h.1
 have hl:=blN_le (b:=b) (by omega)
 have hdiv:∀ p:Nat,((b:Int) / 2 ^ p) = ((b / 2 ^ p:Nat):Int):=fun p => by simp
 simp only [zcz]
 refine cpz P12_ok Tryz.func64 zaD ?_
 rw [Tryz.ntmps64]
 simp only [Tryz.f64,zag,zap]
 simp (maxSteps:=4000000) only [go_sem,AV.one,zae,zac,zad,zaq,zas,zab,czb,cza,↓reduceIte]
 refine zbv (blN b) [.slot 3 1] [0,2] (fun i => [(4,.int .i64 i),(3,.sl ((zls b i).map EncE.cs) (.own 0))]) (fun i m => m.set 0 (.tok (zls b i).length 1)) (fun _ => True) ?_ ?_ ?_ ?_
 ·trivial
 ·simp [AV.bare,zal,zaN,zaS,zak,zat,zah,tokz1,lk,zab,zcW,zls]
 ·intro i hi _
  have hw:=zkT b i
  have h3:=blN_lt hi
  have h4:(0:Int) < ((b / 2 ^ i:Nat):Int):=by omega
  have h5:=Nat.div_le_self b (2 ^ i)
  have h6:b.testBit i = decide (((b / 2 ^ i:Nat):Int) % 2 = 1):=by
   rw [Nat.testBit_eq_decide_div_mod_eq]
   congr 1
   simp only [eq_iff_iff]
   omega
  cases c:decide (((b / 2 ^ i:Nat):Int) % 2 = 1) <;>
   simp (maxSteps:=4000000) only [go_sem,AV.one,zae,zac,zad,zaq,zas,zab,czb,cza,↓reduceIte,hdiv,h4,c,zmp]
  all_goals all_goals (repeat' first | (with_reducible first | rfl | apply And.intro | assumption) | ((with_reducible show zaf _ _ = true); rfl)) <;> try first | omega | (simp only [InR]; omega)
  all_goals
   refine nxt hi trivial ?_
   rw [c] at h6
   simp [AV.bare,zal,zaN,zaS,zak,zat,zah,tokz1,lk,zab,zcW,zv3,h6]
 ·intro _
  have h3:=blN_end b
  have hw:=zkT b (blN b)
  simp (maxSteps:=4000000) only [go_sem,AV.one,zae,zac,zad,zaq,zas,zab,czb,cza,↓reduceIte,hdiv,h3,zmp]
  all_goals (repeat' first | (with_reducible first | rfl | apply And.intro | assumption) | ((with_reducible show zaf _ _ = true); rfl)) <;> try first | omega | (simp only [InR]; omega)
  rfl
def P13 (g:FuncId):=(zaw 111 (zbC (fun (all:List Int) (marks:Int) => (all.length ≤ 4096 ∧ ∀ x ∈ all,BOk x) ∧ BOk marks) zv0) (zaw 64 (zct BOk (fun b => zlt b.toNat)) (P12)):zaL) g
theorem P13_ok:zaC Tryz.prog P13:=zaj (zaM Can_call) (zaj (zbf Bits_call) (P12_ok))
theorem zul (d:Option Nat):zaI P13 d = none:=(zai (by decide) d).trans ((zai (by decide) d).trans (zum d))
attribute [go_sem] P13 zul
def zb2:List Int → List Int → Bool
 | [],[] => false
 | [],_ :: _ => true
 | _ :: _,[] => false
 | a :: r,b :: s => if a = b then zb2 r s else decide (a < b)
theorem zgD {α:Type} [Inhabited α] {l:List α} {i:Nat} (h:i < l.length):l.drop i = at_ l i :: l.drop (i + 1):=by
 rw [zdm h]; exact List.drop_eq_getElem_cons h
theorem zsM (a b:List Int) (h:a.length ≤ 4096 ∧ b.length ≤ 4096):zaQ Tryz.prog 119 [Enc.enc a,Enc.enc b] (· = Enc.enc (zb2 a b)):=by
 have h1:=h.1
 have h2:=h.2
 simp only [zcz]
 refine cpz P13_ok Tryz.func119 zaD ?_
 rw [Tryz.ntmps119]
 simp only [Tryz.f119,zag,zap]
 simp (maxSteps:=4000000) only [go_sem,AV.one,zae,zac,zad,zaq,zas,zab,czb,cza,↓reduceIte]
 refine zbv (min a.length b.length) [] [0,1,4] (fun i => [(5,.int .i64 i)]) (fun _ m => m) (fun i => zb2 (a.drop i) (b.drop i) = zb2 a b) ?_ ?_ ?_ ?_
 ·rfl
 ·simp [AV.bare,zal,zaN,zaS,zak,zat,zah,tokz1,lk,zab,zcW]
 ·intro i hi hI
  have ha:i < a.length:=by omega
  have hb:i < b.length:=by omega
  rw [zgD ha,zgD hb,zb2] at hI
  cases c:decide (at_ a i = at_ b i) <;>
   simp (maxSteps:=4000000) only [go_sem,AV.one,zae,zac,zad,zaq,zas,zab,czb,cza,↓reduceIte,zax ha,zax hb,czH.2 ha,czH.2 hb,c]
  all_goals all_goals (repeat' first | (with_reducible first | rfl | apply And.intro | assumption) | ((with_reducible show zaf _ _ = true); rfl)) <;> try first | omega | (simp only [InR]; omega)
  ·simp at c
   rw [if_neg c] at hI
   rw [← hI]
  ·simp at c
   rw [if_pos c] at hI
   refine nxt hi hI ?_
   simp [AV.bare,zal,zaN,zaS,zak,zat,zah,tokz1,lk,zab,zcW]
 ·intro hI
  have:a.drop (min a.length b.length) = [] ∨ b.drop (min a.length b.length) = []:=by
   rcases Nat.le_total a.length b.length with q | q
   ·left; exact czM (by omega)
   ·right; exact czM (by omega)
  have hr:decide ((a.length:Int) < b.length) = zb2 a b:=by
   rw [← hI]
   rcases Nat.lt_or_ge a.length b.length with q | q
   ·rw [show min a.length b.length = a.length by omega,List.drop_length,zgD q,zb2]; simpa using q
   ·rw [show min a.length b.length = b.length by omega,List.drop_length]
    have hd:decide ((a.length:Int) < b.length) = false:=by simp; omega
    rw [hd]
    cases List.drop b.length a <;> rfl
  cases c1:decide (((min a.length b.length:Nat):Int) < (a.length:Int)) <;> cases c2:decide (((min a.length b.length:Nat):Int) < (b.length:Int))
  ·simp (maxSteps:=4000000) only [go_sem,AV.one,zae,zac,zad,zaq,zas,zab,czb,cza,↓reduceIte,c1,c2,hr]
  ·simp (maxSteps:=4000000) only [go_sem,AV.one,zae,zac,zad,zaq,zas,zab,czb,cza,↓reduceIte,c1,c2,hr]
  ·simp (maxSteps:=4000000) only [go_sem,AV.one,zae,zac,zad,zaq,zas,zab,czb,cza,↓reduceIte,c1,c2,hr]
  ·simp at c1 c2; omega
def zcy (a b:List Int):Bool:=decide ((a.length:Int) < b.length) || (decide ((a.length:Int) = b.length) && zb2 a b)
def P14 (g:FuncId):=(zaw 119 (zbC (fun (a b:List Int) => a.length ≤ 4096 ∧ b.length ≤ 4096) zb2) (P13):zaL) g
theorem P14_ok:zaC Tryz.prog P14:=zaj (zaM zsM) (P13_ok)
theorem zuk (d:Option Nat):zaI P14 d = none:=(zai (by decide) d).trans (zul d)
attribute [go_sem] P14 zuk
theorem zpq (a b:List Int) (h:a.length ≤ 4096 ∧ b.length ≤ 4096):zaQ Tryz.prog 63 [Enc.enc a,Enc.enc b] (· = Enc.enc (zcy a b)):=by
 have h1:=h.1
 have h2:=h.2
 simp only [zcz]
 refine cpz P14_ok Tryz.func63 zaD ?_
 rw [Tryz.ntmps63]
 simp only [Tryz.f63,zag,zap]
 simp (maxSteps:=4000000) only [go_sem,AV.one,zae,zac,zad,zaq,zas,zab,czb,cza,↓reduceIte]
 refine ⟨fun q => ?_,?_⟩
 ·all_goals exact auz
 ·refine ⟨?_,rfl⟩
  cases decide ((a.length:Int) < b.length) <;> simp
def P15 (g:FuncId):=(zaw 63 (zbC (fun (a b:List Int) => a.length ≤ 4096 ∧ b.length ≤ 4096) zcy) (P14):zaL) g
theorem P15_ok:zaC Tryz.prog P15:=zaj (zaM zpq) (P14_ok)
theorem zuj (d:Option Nat):zaI P15 d = none:=(zai (by decide) d).trans (zuk d)
attribute [go_sem] P15 zuj
def zeQ (all:List Int):Nat → Nat → Int
 | 0,_ => -1
 | f + 1,n => if zv0 all (2 * 2 ^ n - 1) then zeQ all f (n + 1) else n
def firstL (t:Tb) (all:List Int):Int:=zeQ all t.marks.length 0
def zdQ (all:List Int) (full:Nat):Nat → List Int
 | 0 => zlt full
 | n + 1 => if zcy (zlt n) (zdQ all full n) && zv0 all ((full - (full &&& n):Nat):Int) then zlt n else zdQ all full n
def leaveL (t:Tb) (all:List Int):List Int:=zdQ all (2 ^ t.marks.length - 1) (2 ^ t.marks.length)
theorem zkU {b:Nat} (h:b ≤ 511):(zlt b).length ≤ 9:=by
 have:=zkT b (blN b)
 have:=blN_le h
 unfold zlt; omega
theorem ziQ {all:List Int} {full:Nat} (h:full ≤ 511):∀ n,n ≤ 512 → (zdQ all full n).length ≤ 9
 | 0,_ => zkU h
 | n + 1,hn => by
  unfold zdQ
  split
  ·exact zkU (by omega)
  ·exact ziQ h n (by omega)
def P16:zaL:=P15
theorem P16_app (g:FuncId):P16 g = (P15) g:=rfl
theorem zmx:zaC Tryz.prog P16:=P15_ok
attribute [go_sem] P16_app
theorem zui (d:Option Nat):zaI P16 d = none:=zuj d
attribute [go_sem] zui
theorem zqs (n lo hi:Int):zaQ Tryz.prog 157 [Enc.enc n,Enc.enc lo,Enc.enc hi] (· = Enc.enc (inB n lo hi)):=by
 simp only [zcz]
 refine cpz zmx Tryz.func157 zaD ?_
 rw [Tryz.ntmps157]
 simp only [Tryz.f157,zag,zap]
 simp (maxSteps:=4000000) only [go_sem,AV.one,zae,zac,zad,zaq,zas,zab,czb,cza,↓reduceIte]
 rfl
theorem size_call (r:Rg) (h:InR .i64 (r.hi - r.lo) ∧ InR .i64 (r.hi - r.lo + 1)):zaQ Tryz.prog 153 [Enc.enc r] (· = Enc.enc (r.hi - r.lo + 1)):=by
 simp only [zcz]
 refine cpz zmx Tryz.func153 zaD ?_
 rw [Tryz.ntmps153]
 simp only [Tryz.f153,zag,zap]
 simp (maxSteps:=4000000) only [go_sem,AV.one,zae,zac,zad,zaq,zas,zab,czb,cza,↓reduceIte]
 exact h
def ztc:List Int → Int
 | [] => 0
 | x :: r => r.foldl min x
theorem zh2 (a b:Int):ztc [a,b] = min a b:=rfl
theorem minL_snoc (l:List Int) (x:Int) (h:l ≠ []):ztc (l ++ [x]) = min (ztc l) x:=by
 cases l with
 | nil => exact absurd rfl h
 | cons y r => simp [ztc,List.foldl_append]
theorem minL_take {l:List Int} {i:Nat} (h:i + 1 < l.length):ztc (l.take (i + 1 + 1)) = min (ztc (l.take (i + 1))) (at_ l (i + 1)):=by
 rw [zaW h,minL_snoc]
 intro q
 have:=congrArg List.length q
 rw [czO,czy] at this
 omega
theorem maxL_take {l:List Int} {i:Nat} (h:i + 1 < l.length):zqp (l.take (i + 1 + 1)) = max (zqp (l.take (i + 1))) (at_ l (i + 1)):=by
 rw [zaW h,zow]
 intro q
 have:=congrArg List.length q
 rw [czO,czy] at this
 omega
theorem Min_call (l:List Int) (h:l ≠ [] ∧ l.length ≤ 4096):zaQ Tryz.prog 174 [Enc.enc l] (· = Enc.enc (ztc l)):=by
 have hl:0 < l.length:=List.length_pos_iff.2 h.1
 have h2:=h.2
 simp only [zcz]
 refine cpz zmx Tryz.func174 zaD ?_
 rw [Tryz.ntmps174]
 simp only [Tryz.f174,zag,zap]
 simp (maxSteps:=4000000) only [go_sem,AV.one,zae,zac,zad,zaq,zas,zab,czb,cza,↓reduceIte,zax hl,show ¬ ((l.length:Int) < 1) by omega,show (0:Int) < l.length by omega]
 refine zbv (l.length - 1) [] [0,2] (fun i => [(4,.int .i64 ((i + 1:Nat):Int)),(3,.int .i64 (ztc (l.take (i + 1))))]) (fun _ m => m) (fun _ => True) ?_ ?_ ?_ ?_
 ·trivial
 ·cases l with
  | nil => simp at hl
  | cons x l => simp [AV.bare,zal,zaN,zaS,zak,zat,zah,tokz1,lk,zab,zcW,ztc,at_]
 ·intro i hi _
  have hi2:i + 1 < l.length:=by omega
  simp (maxSteps:=4000000) only [go_sem,AV.one,zae,zac,zad,zaq,zas,zab,czb,cza,↓reduceIte,zax hi2,czH.2 hi2]
  all_goals (repeat' first | (with_reducible first | rfl | apply And.intro | assumption) | ((with_reducible show zaf _ _ = true); rfl)) <;> try first | omega | (simp only [InR]; omega)
  refine nxt hi trivial ?_
  have:=minL_take hi2
  simp [AV.bare,zal,zaN,zaS,zak,zat,zah,tokz1,lk,zab,zcW,this]
 ·intro _
  have hn:¬ (((l.length - 1 + 1:Nat):Int) < l.length):=by omega
  simp (maxSteps:=4000000) only [go_sem,AV.one,zae,zac,zad,zaq,zas,zab,czb,cza,↓reduceIte,hn]
  rw [cze (by omega)]
theorem Max_call (l:List Int) (h:l ≠ [] ∧ l.length ≤ 4096):zaQ Tryz.prog 177 [Enc.enc l] (· = Enc.enc (zqp l)):=by
 have hl:0 < l.length:=List.length_pos_iff.2 h.1
 have h2:=h.2
 simp only [zcz]
 refine cpz zmx Tryz.func177 zaD ?_
 rw [Tryz.ntmps177]
 simp only [Tryz.f177,zag,zap]
 simp (maxSteps:=4000000) only [go_sem,AV.one,zae,zac,zad,zaq,zas,zab,czb,cza,↓reduceIte,zax hl,show ¬ ((l.length:Int) < 1) by omega,show (0:Int) < l.length by omega]
 refine zbv (l.length - 1) [] [0,2] (fun i => [(4,.int .i64 ((i + 1:Nat):Int)),(3,.int .i64 (zqp (l.take (i + 1))))]) (fun _ m => m) (fun _ => True) ?_ ?_ ?_ ?_
 ·trivial
 ·cases l with
  | nil => simp at hl
  | cons x l => simp [AV.bare,zal,zaN,zaS,zak,zat,zah,tokz1,lk,zab,zcW,zqp,at_]
 ·intro i hi _
  have hi2:i + 1 < l.length:=by omega
  simp (maxSteps:=4000000) only [go_sem,AV.one,zae,zac,zad,zaq,zas,zab,czb,cza,↓reduceIte,zax hi2,czH.2 hi2]
  all_goals (repeat' first | (with_reducible first | rfl | apply And.intro | assumption) | ((with_reducible show zaf _ _ = true); rfl)) <;> try first | omega | (simp only [InR]; omega)
  refine nxt hi trivial ?_
  have:=maxL_take hi2
  simp [AV.bare,zal,zaN,zaS,zak,zat,zah,tokz1,lk,zab,zcW,this]
 ·intro _
  have hn:¬ (((l.length - 1 + 1:Nat):Int) < l.length):=by omega
  simp (maxSteps:=4000000) only [go_sem,AV.one,zae,zac,zad,zaq,zas,zab,czb,cza,↓reduceIte,hn]
  rw [cze (by omega)]
def zgy (l:List Int) (x:Int):Nat → Nat → Int
 | 0,_ => -1
 | f + 1,n => if x = at_ l n then n else zgy l x f (n + 1)
def zf3 (l:List Int) (x:Int):Int:=zgy l x l.length 0
theorem zwE (l:List Int) (x:Int) (h:l.length ≤ 4096):zaQ Tryz.prog 139 [Enc.enc l,Enc.enc x] (· = Enc.enc (zf3 l x)):=by
 simp only [zcz]
 refine cpz zmx Tryz.func139 zaD ?_
 rw [Tryz.ntmps139]
 simp only [Tryz.f139,zag,zap]
 simp (maxSteps:=4000000) only [go_sem,AV.one,zae,zac,zad,zaq,zas,zab,czb,cza,↓reduceIte]
 refine zbv (l.length) [] [0,1,4,7] (fun i => [(8,.int .i64 i)]) (fun _ m => m) (fun i => zgy l x (l.length - i) i = zf3 l x) ?_ ?_ ?_ ?_
 ·rfl
 ·simp [AV.bare,zal,zaN,zaS,zak,zat,zah,tokz1,lk,zab,zcW]
 ·intro i hi hI
  rw [show l.length - i = (l.length - (i + 1)) + 1 by omega,zgy] at hI
  cases c:decide (x = at_ l i) <;>
   simp (maxSteps:=4000000) only [go_sem,AV.one,zae,zac,zad,zaq,zas,zab,czb,cza,↓reduceIte,zax hi,czH.2 hi,c]
  all_goals all_goals (repeat' first | (with_reducible first | rfl | apply And.intro | assumption) | ((with_reducible show zaf _ _ = true); rfl)) <;> try first | omega | (simp only [InR]; omega)
  ·rw [if_neg (by simpa using c)] at hI
   refine nxt hi hI ?_
   simp [AV.bare,zal,zaN,zaS,zak,zat,zah,tokz1,lk,zab,zcW]
  ·rw [if_pos (by simpa using c)] at hI
   rw [← hI]
 ·intro hI
  simp (maxSteps:=4000000) only [go_sem,AV.one,zae,zac,zad,zaq,zas,zab,czb,cza,↓reduceIte]
  rw [← hI]; simp [zgy]
theorem zoN (l:List Int) (x:Int):∀ f n,f + n = l.length → (0 ≤ zgy l x f n ↔ x ∈ l.drop n)
 | 0,n,h => by rw [czM (by omega)]; simp [zgy]
 | f + 1,n,h => by
  rw [zgy,zgD (show n < l.length by omega)]
  by_cases c:x = at_ l n
  ·rw [if_pos c]; simp [c]
  ·rw [if_neg c,zoN l x f (n + 1) (by omega)]; simp [c]
theorem index_mem (l:List Int) (x:Int):decide (0 ≤ zf3 l x) = l.contains x:=by
 have:=zoN l x l.length 0 (by omega)
 rw [List.drop_zero] at this
 unfold zf3
 by_cases c:x ∈ l <;> simp [this,c]
def P17 (g:FuncId):=(zaw 157 (zd1 (fun _ _ _ => True) inB) (zaw 153 (zct (fun r:Rg => InR .i64 (r.hi - r.lo) ∧ InR .i64 (r.hi - r.lo + 1)) (fun r => r.hi - r.lo + 1)) (zaw 174 (zct (fun l:List Int => l ≠ [] ∧ l.length ≤ 4096) ztc) (zaw 177 (zct (fun l:List Int => l ≠ [] ∧ l.length ≤ 4096) zqp) (zaw 139 (zbC (fun (l:List Int) (_:Int) => l.length ≤ 4096) zf3) (P16))))):zaL) g
theorem zmw:zaC Tryz.prog P17:=zaj (zbY fun a b c _ => zqs a b c) (zaj (zbf size_call) (zaj (zbf Min_call) (zaj (zbf Max_call) (zaj (zaM zwE) (zmx)))))
theorem zuh (d:Option Nat):zaI P17 d = none:=(zai (by decide) d).trans ((zai (by decide) d).trans ((zai (by decide) d).trans ((zai (by decide) d).trans ((zai (by decide) d).trans (zui d)))))
attribute [go_sem] P17 zuh
theorem zrA (n:Int):zaQ Tryz.prog 149 [Enc.enc n] (· = Enc.enc (inB n 0 99)):=by
 simp only [zcz]
 refine cpz zmw Tryz.func149 zaD ?_
 rw [Tryz.ntmps149]
 simp only [Tryz.f149,zag,zap]
 simp (maxSteps:=4000000) only [go_sem,AV.one,zae,zac,zad,zaq,zas,zab,czb,cza,↓reduceIte]
theorem has_call (r:Rg) (n:Int):zaQ Tryz.prog 155 [Enc.enc r,Enc.enc n] (· = Enc.enc (inB n r.lo r.hi)):=by
 simp only [zcz]
 refine cpz zmw Tryz.func155 zaD ?_
 rw [Tryz.ntmps155]
 simp only [Tryz.f155,zag,zap]
 simp (maxSteps:=4000000) only [go_sem,AV.one,zae,zac,zad,zaq,zas,zab,czb,cza,↓reduceIte]
theorem zot (l:List Int) (h:l ≠ [] ∧ l.length ≤ 4096):zaQ Tryz.prog 152 [Enc.enc l] (· = Enc.enc (ztc l)):=by
 simp only [zcz]
 refine cpz zmw Tryz.func152 zaD ?_
 rw [Tryz.ntmps152]
 simp only [Tryz.f152,zag,zap]
 simp (maxSteps:=4000000) only [go_sem,AV.one,zae,zac,zad,zaq,zas,zab,czb,cza,↓reduceIte]
 exact h
theorem znL (l:List Int) (x:Int) (h:l.length ≤ 4096):zaQ Tryz.prog 96 [Enc.enc l,Enc.enc x] (· = Enc.enc (l.contains x)):=by
 simp only [zcz]
 refine cpz zmw Tryz.func96 zaD ?_
 rw [Tryz.ntmps96]
 simp only [Tryz.f96,zag,zap]
 simp (maxSteps:=4000000) only [go_sem,AV.one,zae,zac,zad,zaq,zas,zab,czb,cza,↓reduceIte]
 refine ⟨h,?_⟩
 rw [index_mem]
theorem hour_call (t:Tb) (n:Int):zaQ Tryz.prog 126 [Enc.enc t,Enc.enc n] (· = Enc.enc (inB n 0 t.last)):=by
 simp only [zcz]
 refine cpz zmw Tryz.func126 zaD ?_
 rw [Tryz.ntmps126]
 simp only [Tryz.f126,zag,zap]
 simp (maxSteps:=4000000) only [go_sem,AV.one,zae,zac,zad,zaq,zas,zab,czb,cza,↓reduceIte]
def P18 (g:FuncId):=(zaw 149 (zct (fun _ => True) (fun n => inB n 0 99)) (zaw 155 (zbC (fun (_:Rg) (_:Int) => True) (fun r n => inB n r.lo r.hi)) (zaw 152 (zct (fun l:List Int => l ≠ [] ∧ l.length ≤ 4096) ztc) (zaw 96 (zbC (fun (l:List Int) (_:Int) => l.length ≤ 4096) (fun l x => l.contains x)) (zaw 126 (zbC (fun (_:Tb) (_:Int) => True) (fun t n => inB n 0 t.last)) (P17))))):zaL) g
theorem zpu:zaC Tryz.prog P18:=zaj (zbf fun n _ => zrA n) (zaj (zaM fun r n _ => has_call r n) (zaj (zbf zot) (zaj (zaM znL) (zaj (zaM fun t n _ => hour_call t n) (zmw)))))
theorem zug (d:Option Nat):zaI P18 d = none:=(zai (by decide) d).trans ((zai (by decide) d).trans ((zai (by decide) d).trans ((zai (by decide) d).trans ((zai (by decide) d).trans (zuh d)))))
attribute [go_sem] P18 zug
theorem zvC (r:Rg):(decide (r.lo ≤ r.hi) && inB r.lo 0 99 && inB r.hi 0 99) = zbn r:=by
 rw [Bool.eq_iff_iff]; simp [inB,zbn]; omega
theorem zoP (r:Rg):zaQ Tryz.prog 148 [Enc.enc r] (· = Enc.enc (zbn r)):=by
 simp only [zcz]
 refine cpz zpu Tryz.func148 zaD ?_
 rw [Tryz.ntmps148]
 simp only [Tryz.f148,zag,zap]
 simp (maxSteps:=4000000) only [go_sem,AV.one,zae,zac,zad,zaq,zas,zab,czb,cza,↓reduceIte]
 rw [zvC]
theorem zuu (r:Rg) (n:Int):zaQ Tryz.prog 158 [Enc.enc r,Enc.enc n] (· = Enc.enc (zdi r n)):=by
 simp only [zcz]
 refine cpz zpu Tryz.func158 zaD ?_
 rw [Tryz.ntmps158]
 simp only [Tryz.f158,zag,zap]
 simp (maxSteps:=4000000) only [go_sem,AV.one,zae,zac,zad,zaq,zas,zab,czb,cza,↓reduceIte,zh2]
 exact ⟨rfl,by simp,rfl⟩
theorem zvA (t:Tb) (a b:Int):zaQ Tryz.prog 167 [Enc.enc t,Enc.enc a,Enc.enc b] (· = Enc.enc (inB a 0 t.last && inB b 0 t.last && decide (a ≤ b))):=by
 simp only [zcz]
 refine cpz zpu Tryz.func167 zaD ?_
 rw [Tryz.ntmps167]
 simp only [Tryz.f167,zag,zap]
 simp (maxSteps:=4000000) only [go_sem,AV.one,zae,zac,zad,zaq,zas,zab,czb,cza,↓reduceIte]
theorem zoO (s:Arr 10) (a b:Int) (h:0 ≤ a ∧ a ≤ b ∧ b ≤ 9):zaQ Tryz.prog 160 [Enc.enc s,Enc.enc a,Enc.enc b] (· = Enc.enc (zlE s.l a b)):=by
 have h0:=s.h
 obtain ⟨a,rfl⟩:=czu h.1
 obtain ⟨b,rfl⟩:=czu (show 0 ≤ b by omega)
 have e:((b:Int) + 1 - a).toNat = b + 1 - a:=by omega
 have hc:=zqH (l:=s.l) (off:=a) (len:=b + 1 - a) (by omega)
 have hm:((s.l.drop a).take (b + 1 - a)).length ≤ 4096:=by simp; omega
 have hn:(s.l.drop a).take (b + 1 - a) ≠ []:=by
  intro q
  have:=congrArg List.length q
  simp at this
  omega
 simp only [zcz]
 refine cpz zpu Tryz.func160 zaD ?_
 rw [Tryz.ntmps160]
 simp only [Tryz.f160,zag,zap]
 simp (maxSteps:=4000000) only [go_sem,AV.one,zae,zac,zad,zaq,zas,zab,czb,cza,↓reduceIte,e,hc]
 refine ⟨(by simp only [InR]; omega),⟨by omega,by omega,by omega,by omega⟩,⟨hn,hm⟩,?_⟩
 simp only [zlE,czF,e]
def zdy (t:Tb) (l:List Int) (out:List Int) (n:Nat):Bool:=(List.range n).all fun i => out.contains (i:Int) || zdX l (at_ t.marks i)
theorem zkd (t:Tb) (l out:List Int) (n:Nat):zdy t l out (n + 1) = (zdy t l out n && (out.contains (n:Int) || zdX l (at_ t.marks n))):=by
 simp [zdy,List.range_succ]
theorem zod {t:Tb} {l out:List Int} {n i:Nat} (h:i < n) (h1:out.contains (i:Int) = false) (h2:zdX l (at_ t.marks i) = false):zdy t l out n = false:=by
 rw [zdy,List.all_eq_false]
 exact ⟨i,by simpa using h,by simp only [h1,h2]; simp⟩
def P19 (g:FuncId):=(zaw 148 (zct (fun _ => True) zbn) (zaw 158 (zbC (fun _ _ => True) zdi) (zaw 167 (zd1 (fun _ _ _ => True) (fun (t:Tb) a b => inB a 0 t.last && inB b 0 t.last && decide (a ≤ b))) (zaw 160 (zd1 (fun (_:Arr 10) (a b:Int) => 0 ≤ a ∧ a ≤ b ∧ b ≤ 9) (fun s a b => zlE s.l a b)) (P18)))):zaL) g
theorem P19_ok:zaC Tryz.prog P19:=zaj (zbf fun n _ => zoP n) (zaj (zaM fun r n _ => zuu r n) (zaj (zbY fun t a b _ => zvA t a b) (zaj (zbY zoO) (zpu))))
theorem zuf (d:Option Nat):zaI P19 d = none:=(zai (by decide) d).trans ((zai (by decide) d).trans ((zai (by decide) d).trans ((zai (by decide) d).trans (zug d))))
attribute [go_sem] P19 zuf
theorem zuX (t:Tb) (s:Arr 10) (out:List Int) (h:(t.marks.length ≤ 4096 ∧ ∀ m ∈ t.marks,0 ≤ m.frm ∧ m.frm ≤ m.til ∧ m.til ≤ 9) ∧ out.length ≤ 4096):zaQ Tryz.prog 130 [Enc.enc t,Enc.enc s,Enc.enc out] (· = Enc.enc (zdy t s.l out t.marks.length)):=by
 have h0:=s.h
 have h1:=h.1.1
 have h2:=h.2
 simp only [zcz]
 refine cpz P19_ok Tryz.func130 zaD ?_
 rw [Tryz.ntmps130]
 simp only [Tryz.f130,zag,zap]
 simp (maxSteps:=4000000) only [go_sem,AV.one,zae,zac,zad,zaq,zas,zab,czb,cza,↓reduceIte]
 refine zbv (t.marks.length) [] [2,4,6,10,11] (fun i => [(12,.int .i64 i)]) (fun _ m => m) (fun i => zdy t s.l out i = true) ?_ ?_ ?_ ?_
 ·simp [zdy]
 ·simp [AV.bare,zal,zaN,zaS,zak,zat,zah,tokz1,lk,zab,zcW]
 ·intro i hi hI
  have hm:=h.1.2 _ (zbh hi)
  have hs:=zkd t s.l out i
  cases c1:out.contains (i:Int) <;> cases c2:zdX s.l (at_ t.marks i) <;>
   (have c2':=c2; unfold zdX at c2'; simp (maxSteps:=4000000) only [go_sem,AV.one,zae,zac,zad,zaq,zas,zab,czb,cza,↓reduceIte,zax hi,czH.2 hi,c1,c2'])
  all_goals all_goals (repeat' first | (with_reducible first | rfl | apply And.intro | assumption) | ((with_reducible show zaf _ _ = true); rfl)) <;> try first | omega | (simp only [InR]; omega)
  ·rw [zod hi c1 c2]
  all_goals
   refine nxt hi (by rw [hs,hI,c1,c2]; rfl) ?_
   simp [AV.bare,zal,zaN,zaS,zak,zat,zah,tokz1,lk,zab,zcW]
 ·intro hI
  simp (maxSteps:=4000000) only [go_sem,AV.one,zae,zac,zad,zaq,zas,zab,czb,cza,↓reduceIte]
  rw [hI]
def zbr {α:Type} [Inhabited α] (p:α → Bool) (l:List α):Nat → Nat → Int
 | 0,_ => -1
 | f + 1,n => if p (at_ l n) then n else zbr p l f (n + 1)
theorem zeO {α:Type} [Inhabited α] (p:α → Bool) (l:List α):∀ f n,f + n = l.length → decide (0 ≤ zbr p l f n) = (l.drop n).any p
 | 0,n,h => by rw [czM (by omega)]; rfl
 | f + 1,n,h => by
  rw [zbr,zgD (show n < l.length by omega),List.any_cons]
  cases c:p (at_ l n)
  ·rw [if_neg (by simp),zeO p l f (n + 1) (by omega)]; rfl
  ·rw [if_pos rfl]; simp
theorem ziW {α:Type} (p:α → Bool) (l:List α):(!l.any fun x => !p x) = l.all p:=by
 induction l with
 | nil => rfl
 | cons x l ih => rw [List.any_cons,List.all_cons,← ih]; cases p x <;> rfl
theorem mark_call (t:Tb) (m:Mk):zaQ Tryz.prog 146 [Enc.enc t,Enc.enc m] (· = Enc.enc (zeW t.last m)):=by
 simp only [zcz]
 refine cpz P19_ok Tryz.func146 zaD ?_
 rw [Tryz.ntmps146]
 simp only [Tryz.f146,zag,zap]
 simp (maxSteps:=4000000) only [go_sem,AV.one,zae,zac,zad,zaq,zas,zab,czb,cza,↓reduceIte]
 rfl
def P20 (g:FuncId):=(zaw 146 (zbC (fun _ _ => True) (fun (t:Tb) m => zeW t.last m)) (zaw 130 (zd1 (fun (t:Tb) (_:Arr 10) (out:List Int) => (t.marks.length ≤ 4096 ∧ ∀ m ∈ t.marks,0 ≤ m.frm ∧ m.frm ≤ m.til ∧ m.til ≤ 9) ∧ out.length ≤ 4096) (fun t s out => zdy t s.l out t.marks.length)) (P19)):zaL) g
theorem P20_ok:zaC Tryz.prog P20:=zaj (zaM fun t m _ => mark_call t m) (zaj (zbY zuX) (P19_ok))
theorem zue (d:Option Nat):zaI P20 d = none:=(zai (by decide) d).trans ((zai (by decide) d).trans (zuf d))
attribute [go_sem] P20 zue
theorem zwk (x:Rg) (f:FnL 148):zaQ Tryz.prog 169 [Enc.enc x,Enc.enc (RefC.mk f)] (· = Enc.enc (!zbn x)):=by
 simp only [zcz]
 refine cpz P20_ok Tryz.func169 zaD ?_
 rw [Tryz.ntmps169]
 simp only [Tryz.f169,zag,zap]
 simp (maxSteps:=4000000) only [go_sem,AV.one,zae,zac,zad,zaq,zas,zab,czb,cza,↓reduceIte]
def P21 (g:FuncId):=(zaw 169 (zbC (fun _ _ => True) (fun (x:Rg) (f:RefC (FnL 148)) => let f:=f.x; !zbn x)) (P20):zaL) g
theorem P21_ok:zaC Tryz.prog P21:=zaj (zaM fun x f _ => zwk x f.x) (P20_ok)
theorem zud (d:Option Nat):zaI P21 d = none:=(zai (by decide) d).trans (zue d)
attribute [go_sem] P21 zud
theorem zwh (l:List (Rg)) (f:FnC 169 (FnL 148)) (h:l.length ≤ 4096):zaQ Tryz.prog 178 [Enc.enc l,Enc.enc f] (· = Enc.enc (let f:=f.x; zbr (fun x => !zbn x) l l.length 0)):=by
 obtain ⟨f⟩:=f
 simp only [zcz]
 refine cpz P21_ok Tryz.func178 zaD ?_
 rw [Tryz.ntmps178]
 simp only [Tryz.f178,zag,zap]
 simp (maxSteps:=4000000) only [go_sem,AV.one,zae,zac,zad,zaq,zas,zab,czb,cza,↓reduceIte]
 refine zbv (l.length) [] [0,1,4,7] (fun i => [(8,.int .i64 i)]) (fun _ m => m) (fun i => zbr (fun x => !zbn x) l (l.length - i) i = zbr (fun x => !zbn x) l l.length 0) ?_ ?_ ?_ ?_
 ·rfl
 ·simp [AV.bare,zal,zaN,zaS,zak,zat,zah,tokz1,lk,zab,zcW]
 ·intro i hi hI
  rw [show l.length - i = (l.length - (i + 1)) + 1 by omega,zbr] at hI
  cases c:zbn (at_ l i) <;>
   simp (maxSteps:=4000000) only [go_sem,AV.one,zae,zac,zad,zaq,zas,zab,czb,cza,↓reduceIte,zax hi,czH.2 hi,c]
  all_goals all_goals (repeat' first | (with_reducible first | rfl | apply And.intro | assumption) | ((with_reducible show zaf _ _ = true); rfl)) <;> try first | omega | (simp only [InR]; omega)
  ·rw [c] at hI
   rw [← hI]; rfl
  ·rw [c] at hI
   refine nxt hi hI ?_
   simp [AV.bare,zal,zaN,zaS,zak,zat,zah,tokz1,lk,zab,zcW]
 ·intro hI
  simp (maxSteps:=4000000) only [go_sem,AV.one,zae,zac,zad,zaq,zas,zab,czb,cza,↓reduceIte]
  rw [← hI]; simp [zbr]
def P22 (g:FuncId):=(zaw 178 (zbC (fun (l:List (Rg)) (_:FnC 169 (FnL 148)) => l.length ≤ 4096) (fun l f => let f:=f.x; zbr (fun x => !zbn x) l l.length 0)) (P21):zaL) g
theorem P22_ok:zaC Tryz.prog P22:=zaj (zaM zwh) (P21_ok)
theorem zuc (d:Option Nat):zaI P22 d = none:=(zai (by decide) d).trans (zud d)
attribute [go_sem] P22 zuc
theorem zwi (l:List (Rg)) (f:FnC 169 (FnL 148)) (h:l.length ≤ 4096):zaQ Tryz.prog 168 [Enc.enc l,Enc.enc f] (· = Enc.enc (let f:=f.x; l.any (fun x => !zbn x))):=by
 obtain ⟨f⟩:=f
 simp only [zcz]
 refine cpz P22_ok Tryz.func168 zaD ?_
 rw [Tryz.ntmps168]
 simp only [Tryz.f168,zag,zap]
 simp (maxSteps:=4000000) only [go_sem,AV.one,zae,zac,zad,zaq,zas,zab,czb,cza,↓reduceIte]
 all_goals (repeat' first | (with_reducible first | rfl | apply And.intro | assumption) | ((with_reducible show zaf _ _ = true); rfl)) <;> try first | omega | (simp only [InR]; omega)
 congr 1
 exact zeO (fun x => !zbn x) l l.length 0 (by omega)
def P23 (g:FuncId):=(zaw 168 (zbC (fun (l:List (Rg)) (_:FnC 169 (FnL 148)) => l.length ≤ 4096) (fun l f => let f:=f.x; l.any (fun x => !zbn x))) (P22):zaL) g
theorem P23_ok:zaC Tryz.prog P23:=zaj (zaM zwi) (P22_ok)
theorem zub (d:Option Nat):zaI P23 d = none:=(zai (by decide) d).trans (zuc d)
attribute [go_sem] P23 zub
theorem zwj (l:List (Rg)) (f:FnL 148) (h:l.length ≤ 4096):zaQ Tryz.prog 147 [Enc.enc l,Enc.enc f] (· = Enc.enc (l.all (fun x => zbn x))):=by
 simp only [zcz]
 refine cpz P23_ok Tryz.func147 zaD ?_
 rw [Tryz.ntmps147]
 simp only [Tryz.f147,zag,zap]
 simp (maxSteps:=4000000) only [go_sem,AV.one,zae,zac,zad,zaq,zas,zab,czb,cza,↓reduceIte]
 all_goals (repeat' first | (with_reducible first | rfl | apply And.intro | assumption) | ((with_reducible show zaf _ _ = true); rfl)) <;> try first | omega | (simp only [InR]; omega)
 rw [ziW]
def P24 (g:FuncId):=(zaw 147 (zbC (fun (l:List (Rg)) (_:FnL 148) => l.length ≤ 4096) (fun l f => l.all (fun x => zbn x))) (P23):zaL) g
theorem P24_ok:zaC Tryz.prog P24:=zaj (zaM zwj) (P23_ok)
theorem zua (d:Option Nat):zaI P24 d = none:=(zai (by decide) d).trans (zub d)
attribute [go_sem] P24 zua
theorem zws (x:Int) (f:FnL 149):zaQ Tryz.prog 171 [Enc.enc x,Enc.enc (RefC.mk f)] (· = Enc.enc (!(fun n => inB n 0 99) x)):=by
 simp only [zcz]
 refine cpz P24_ok Tryz.func171 zaD ?_
 rw [Tryz.ntmps171]
 simp only [Tryz.f171,zag,zap]
 simp (maxSteps:=4000000) only [go_sem,AV.one,zae,zac,zad,zaq,zas,zab,czb,cza,↓reduceIte]
def P25 (g:FuncId):=(zaw 171 (zbC (fun _ _ => True) (fun (x:Int) (f:RefC (FnL 149)) => let f:=f.x; !(fun n => inB n 0 99) x)) (P24):zaL) g
theorem P25_ok:zaC Tryz.prog P25:=zaj (zaM fun x f _ => zws x f.x) (P24_ok)
theorem zt9 (d:Option Nat):zaI P25 d = none:=(zai (by decide) d).trans (zua d)
attribute [go_sem] P25 zt9
theorem zwp (l:List (Int)) (f:FnC 171 (FnL 149)) (h:l.length ≤ 4096):zaQ Tryz.prog 179 [Enc.enc l,Enc.enc f] (· = Enc.enc (let f:=f.x; zbr (fun x => !(fun n => inB n 0 99) x) l l.length 0)):=by
 obtain ⟨f⟩:=f
 simp only [zcz]
 refine cpz P25_ok Tryz.func179 zaD ?_
 rw [Tryz.ntmps179]
 simp only [Tryz.f179,zag,zap]
 simp (maxSteps:=4000000) only [go_sem,AV.one,zae,zac,zad,zaq,zas,zab,czb,cza,↓reduceIte]
 refine zbv (l.length) [] [0,1,4,7] (fun i => [(8,.int .i64 i)]) (fun _ m => m) (fun i => zbr (fun x => !(fun n => inB n 0 99) x) l (l.length - i) i = zbr (fun x => !(fun n => inB n 0 99) x) l l.length 0) ?_ ?_ ?_ ?_
 ·rfl
 ·simp [AV.bare,zal,zaN,zaS,zak,zat,zah,tokz1,lk,zab,zcW]
 ·intro i hi hI
  rw [show l.length - i = (l.length - (i + 1)) + 1 by omega,zbr] at hI
  cases c:(fun n => inB n 0 99) (at_ l i) <;>
   simp (maxSteps:=4000000) only [go_sem,AV.one,zae,zac,zad,zaq,zas,zab,czb,cza,↓reduceIte,zax hi,czH.2 hi,c]
  all_goals all_goals (repeat' first | (with_reducible first | rfl | apply And.intro | assumption) | ((with_reducible show zaf _ _ = true); rfl)) <;> try first | omega | (simp only [InR]; omega)
  ·rw [c] at hI
   rw [← hI]; rfl
  ·rw [c] at hI
   refine nxt hi hI ?_
   simp [AV.bare,zal,zaN,zaS,zak,zat,zah,tokz1,lk,zab,zcW]
 ·intro hI
  simp (maxSteps:=4000000) only [go_sem,AV.one,zae,zac,zad,zaq,zas,zab,czb,cza,↓reduceIte]
  rw [← hI]; simp [zbr]
def P26 (g:FuncId):=(zaw 179 (zbC (fun (l:List (Int)) (_:FnC 171 (FnL 149)) => l.length ≤ 4096) (fun l f => let f:=f.x; zbr (fun x => !(fun n => inB n 0 99) x) l l.length 0)) (P25):zaL) g
theorem P26_ok:zaC Tryz.prog P26:=zaj (zaM zwp) (P25_ok)
theorem zt8 (d:Option Nat):zaI P26 d = none:=(zai (by decide) d).trans (zt9 d)
attribute [go_sem] P26 zt8
theorem zwq (l:List (Int)) (f:FnC 171 (FnL 149)) (h:l.length ≤ 4096):zaQ Tryz.prog 170 [Enc.enc l,Enc.enc f] (· = Enc.enc (let f:=f.x; l.any (fun x => !(fun n => inB n 0 99) x))):=by
 obtain ⟨f⟩:=f
 simp only [zcz]
 refine cpz P26_ok Tryz.func170 zaD ?_
 rw [Tryz.ntmps170]
 simp only [Tryz.f170,zag,zap]
 simp (maxSteps:=4000000) only [go_sem,AV.one,zae,zac,zad,zaq,zas,zab,czb,cza,↓reduceIte]
 all_goals (repeat' first | (with_reducible first | rfl | apply And.intro | assumption) | ((with_reducible show zaf _ _ = true); rfl)) <;> try first | omega | (simp only [InR]; omega)
 congr 1
 exact zeO (fun x => !(fun n => inB n 0 99) x) l l.length 0 (by omega)
def P27 (g:FuncId):=(zaw 170 (zbC (fun (l:List (Int)) (_:FnC 171 (FnL 149)) => l.length ≤ 4096) (fun l f => let f:=f.x; l.any (fun x => !(fun n => inB n 0 99) x))) (P26):zaL) g
theorem P27_ok:zaC Tryz.prog P27:=zaj (zaM zwq) (P26_ok)
theorem zt7 (d:Option Nat):zaI P27 d = none:=(zai (by decide) d).trans (zt8 d)
attribute [go_sem] P27 zt7
theorem zwr (l:List (Int)) (f:FnL 149) (h:l.length ≤ 4096):zaQ Tryz.prog 150 [Enc.enc l,Enc.enc f] (· = Enc.enc (l.all (fun x => (fun n => inB n 0 99) x))):=by
 simp only [zcz]
 refine cpz P27_ok Tryz.func150 zaD ?_
 rw [Tryz.ntmps150]
 simp only [Tryz.f150,zag,zap]
 simp (maxSteps:=4000000) only [go_sem,AV.one,zae,zac,zad,zaq,zas,zab,czb,cza,↓reduceIte]
 all_goals (repeat' first | (with_reducible first | rfl | apply And.intro | assumption) | ((with_reducible show zaf _ _ = true); rfl)) <;> try first | omega | (simp only [InR]; omega)
 rw [ziW]
def P28 (g:FuncId):=(zaw 150 (zbC (fun (l:List (Int)) (_:FnL 149) => l.length ≤ 4096) (fun l f => l.all (fun x => (fun n => inB n 0 99) x))) (P27):zaL) g
theorem P28_ok:zaC Tryz.prog P28:=zaj (zaM zwr) (P27_ok)
theorem zt6 (d:Option Nat):zaI P28 d = none:=(zai (by decide) d).trans (zt7 d)
attribute [go_sem] P28 zt6
theorem zwo (x:Mk) (f:FnB 146 Tb):zaQ Tryz.prog 173 [Enc.enc x,Enc.enc (RefC.mk f)] (· = Enc.enc (!zeW f.x.last x)):=by
 simp only [zcz]
 refine cpz P28_ok Tryz.func173 zaD ?_
 rw [Tryz.ntmps173]
 simp only [Tryz.f173,zag,zap]
 simp (maxSteps:=4000000) only [go_sem,AV.one,zae,zac,zad,zaq,zas,zab,czb,cza,↓reduceIte]
def P29 (g:FuncId):=(zaw 173 (zbC (fun _ _ => True) (fun (x:Mk) (f:RefC (FnB 146 Tb)) => let f:=f.x; !zeW f.x.last x)) (P28):zaL) g
theorem P29_ok:zaC Tryz.prog P29:=zaj (zaM fun x f _ => zwo x f.x) (P28_ok)
theorem zt5 (d:Option Nat):zaI P29 d = none:=(zai (by decide) d).trans (zt6 d)
attribute [go_sem] P29 zt5
theorem zwl (l:List (Mk)) (f:FnC 173 (FnB 146 Tb)) (h:l.length ≤ 4096):zaQ Tryz.prog 180 [Enc.enc l,Enc.enc f] (· = Enc.enc (let f:=f.x; zbr (fun x => !zeW f.x.last x) l l.length 0)):=by
 obtain ⟨f⟩:=f
 simp only [zcz]
 refine cpz P29_ok Tryz.func180 zaD ?_
 rw [Tryz.ntmps180]
 simp only [Tryz.f180,zag,zap]
 simp (maxSteps:=4000000) only [go_sem,AV.one,zae,zac,zad,zaq,zas,zab,czb,cza,↓reduceIte]
 refine zbv (l.length) [] [0,1,4,7] (fun i => [(8,.int .i64 i)]) (fun _ m => m) (fun i => zbr (fun x => !zeW f.x.last x) l (l.length - i) i = zbr (fun x => !zeW f.x.last x) l l.length 0) ?_ ?_ ?_ ?_
 ·rfl
 ·simp [AV.bare,zal,zaN,zaS,zak,zat,zah,tokz1,lk,zab,zcW]
 ·intro i hi hI
  rw [show l.length - i = (l.length - (i + 1)) + 1 by omega,zbr] at hI
  cases c:zeW f.x.last (at_ l i) <;>
   simp (maxSteps:=4000000) only [go_sem,AV.one,zae,zac,zad,zaq,zas,zab,czb,cza,↓reduceIte,zax hi,czH.2 hi,c]
  all_goals all_goals (repeat' first | (with_reducible first | rfl | apply And.intro | assumption) | ((with_reducible show zaf _ _ = true); rfl)) <;> try first | omega | (simp only [InR]; omega)
  ·rw [c] at hI
   rw [← hI]; rfl
  ·rw [c] at hI
   refine nxt hi hI ?_
   simp [AV.bare,zal,zaN,zaS,zak,zat,zah,tokz1,lk,zab,zcW]
 ·intro hI
  simp (maxSteps:=4000000) only [go_sem,AV.one,zae,zac,zad,zaq,zas,zab,czb,cza,↓reduceIte]
  rw [← hI]; simp [zbr]
def P30 (g:FuncId):=(zaw 180 (zbC (fun (l:List (Mk)) (_:FnC 173 (FnB 146 Tb)) => l.length ≤ 4096) (fun l f => let f:=f.x; zbr (fun x => !zeW f.x.last x) l l.length 0)) (P29):zaL) g
theorem P30_ok:zaC Tryz.prog P30:=zaj (zaM zwl) (P29_ok)
theorem zt4 (d:Option Nat):zaI P30 d = none:=(zai (by decide) d).trans (zt5 d)
attribute [go_sem] P30 zt4
theorem zwm (l:List (Mk)) (f:FnC 173 (FnB 146 Tb)) (h:l.length ≤ 4096):zaQ Tryz.prog 172 [Enc.enc l,Enc.enc f] (· = Enc.enc (let f:=f.x; l.any (fun x => !zeW f.x.last x))):=by
 obtain ⟨f⟩:=f
 simp only [zcz]
 refine cpz P30_ok Tryz.func172 zaD ?_
 rw [Tryz.ntmps172]
 simp only [Tryz.f172,zag,zap]
 simp (maxSteps:=4000000) only [go_sem,AV.one,zae,zac,zad,zaq,zas,zab,czb,cza,↓reduceIte]
 all_goals (repeat' first | (with_reducible first | rfl | apply And.intro | assumption) | ((with_reducible show zaf _ _ = true); rfl)) <;> try first | omega | (simp only [InR]; omega)
 congr 1
 exact zeO (fun x => !zeW f.x.last x) l l.length 0 (by omega)
def P31 (g:FuncId):=(zaw 172 (zbC (fun (l:List (Mk)) (_:FnC 173 (FnB 146 Tb)) => l.length ≤ 4096) (fun l f => let f:=f.x; l.any (fun x => !zeW f.x.last x))) (P30):zaL) g
theorem P31_ok:zaC Tryz.prog P31:=zaj (zaM zwm) (P30_ok)
theorem zt3 (d:Option Nat):zaI P31 d = none:=(zai (by decide) d).trans (zt4 d)
attribute [go_sem] P31 zt3
theorem zwn (l:List (Mk)) (f:FnB 146 Tb) (h:l.length ≤ 4096):zaQ Tryz.prog 151 [Enc.enc l,Enc.enc f] (· = Enc.enc (l.all (fun x => zeW f.x.last x))):=by
 simp only [zcz]
 refine cpz P31_ok Tryz.func151 zaD ?_
 rw [Tryz.ntmps151]
 simp only [Tryz.f151,zag,zap]
 simp (maxSteps:=4000000) only [go_sem,AV.one,zae,zac,zad,zaq,zas,zab,czb,cza,↓reduceIte]
 all_goals (repeat' first | (with_reducible first | rfl | apply And.intro | assumption) | ((with_reducible show zaf _ _ = true); rfl)) <;> try first | omega | (simp only [InR]; omega)
 rw [ziW]
def P32 (g:FuncId):=(zaw 151 (zbC (fun (l:List (Mk)) (_:FnB 146 Tb) => l.length ≤ 4096) (fun l f => l.all (fun x => zeW f.x.last x))) (P31):zaL) g
theorem zt1:zaC Tryz.prog P32:=zaj (zaM zwn) (P31_ok)
theorem zt2 (d:Option Nat):zaI P32 d = none:=(zai (by decide) d).trans (zt3 d)
attribute [go_sem] P32 zt2
instance {α β:Type} [Enc α] [Enc β]:Enc (α × β) where
 enc p:=.tup [Enc.enc p.1,Enc.enc p.2]
 dec
  | .tup [a,b] => match (Enc.dec a:Option α),(Enc.dec b:Option β) with
   | some a,some b => some (a,b)
   | _,_ => none
  | _ => none
 law v x h:=by
  split at h
  ·split at h
   ·rename_i h1 h2
    cases h
    rw [Enc.law _ _ h1,Enc.law _ _ h2]
   ·cases h
  ·cases h
 dep:=max (Enc.dep α) (Enc.dep β) + 1
 ok x:=by
  have key:∀ n m (v:AV),zbq n v → n ≤ m → zbq m v:=by
   intro n
   induction n with
   | zero => intro m v h; simp [zbq] at h
   | succ n ih =>
    intro m v h hm
    obtain ⟨m,rfl⟩:∃ k,m = k + 1:=⟨m - 1,by omega⟩
    cases v <;> simp only [zbq] at h ⊢
    ·exact fun c hc => ih m c (h c hc) (by omega)
    ·exact fun c hc => ih m c (h c hc) (by omega)
    ·exact ⟨h.1,fun e he c hc => ih m c (h.2 e he c hc) (by omega)⟩
    ·exact fun c hc => ih m c (h c hc) (by omega)
    ·exact ⟨fun c hc => ih m c (h.1 c hc) (by omega),fun c hc => ih m c (h.2 c hc) (by omega)⟩
    ·exact fun c hc => ih m c (h c hc) (by omega)
  simp only [zbq,czn,czk,or_false,forall_eq_or_imp,forall_eq]
  exact ⟨key _ _ _ (Enc.ok x.1) (by omega),key _ _ _ (Enc.ok x.2) (by omega)⟩
theorem zaa {α β:Type} [Enc α] [Enc β] (p:α × β):Enc.enc p = .tup [Enc.enc p.1,Enc.enc p.2]:=rfl
theorem zdu (k:IntKind) (n:Int):(AV.int k n).one = true:=rfl
def zdf (t:Tb) (l:List Int) (h:Int):Bool:=decide (h = 0) || inB (at_ l h.toNat - at_ l (h - 1).toNat) (-t.step) t.step
theorem near_call (t:Tb) (s:Arr 10) (h:Int) (hp:((0 ≤ t.step ∧ t.step ≤ 99) ∧ 0 ≤ h ∧ h ≤ 9) ∧ (0 ≤ at_ s.l h.toNat ∧ at_ s.l h.toNat ≤ 99) ∧ (h ≠ 0 → 0 ≤ at_ s.l (h - 1).toNat ∧ at_ s.l (h - 1).toNat ≤ 99)) :
  zaQ Tryz.prog 156 [Enc.enc t,Enc.enc s,Enc.enc h] (· = Enc.enc (zdf t s.l h)):=by
 have h0:=s.h
 have e1:=zft (l:=s.l) (i:=h.toNat) (by omega)
 have e2:=zft (l:=s.l) (i:=(h - 1).toNat) (by omega)
 cases c:decide (h = 0)
 ·have hq:=hp.2.2 (by simpa using c)
  simp only [zcz]
  refine cpz zt1 Tryz.func156 zaD ?_
  rw [Tryz.ntmps156]
  simp only [Tryz.f156,zag,zap]
  simp (maxSteps:=4000000) only [go_sem,AV.one,zae,zac,zad,zaq,zas,zab,czb,cza,↓reduceIte,e1,e2,c]
  all_goals (repeat' first | (with_reducible first | rfl | apply And.intro | assumption) | ((with_reducible show zaf _ _ = true); rfl)) <;> try first | omega | (simp only [InR]; omega)
  ·simp at c; omega
  ·simp [zdf,c]
 ·simp only [zcz]
  refine cpz zt1 Tryz.func156 zaD ?_
  rw [Tryz.ntmps156]
  simp only [Tryz.f156,zag,zap]
  simp (maxSteps:=4000000) only [go_sem,AV.one,zae,zac,zad,zaq,zas,zab,czb,cza,↓reduceIte,e1,e2,c]
  all_goals (repeat' first | (with_reducible first | rfl | apply And.intro | assumption) | ((with_reducible show zaf _ _ = true); rfl)) <;> try first | omega | (simp only [InR]; omega)
  simp [zdf,c]
theorem wet_call (t:Tb) (s:Arr 10) (level:Int) (h:0 ≤ t.last ∧ t.last ≤ 9):zaQ Tryz.prog 116 [Enc.enc t,Enc.enc s,Enc.enc level] (· = Enc.enc (zlB s.l level (t.last + 1).toNat)):=by
 have h0:=s.h
 obtain ⟨k,hk⟩:=czu h.1
 have e:(t.last + 1 - 0).toNat = k + 1:=by omega
 have e':(t.last + 1).toNat = k + 1:=by omega
 rw [e']
 simp only [zcz]
 refine cpz zt1 Tryz.func116 zaD ?_
 rw [Tryz.ntmps116]
 simp only [Tryz.f116,zag,zap]
 simp (maxSteps:=4000000) only [go_sem,AV.one,zae,zac,zad,zaq,zas,zab,czb,cza,↓reduceIte,e]
 refine ⟨(by simp only [InR]; omega),⟨by omega,by omega,by omega⟩,?_⟩
 refine zbv (k + 1) [.slot 6 1] [2,12,13] (fun i => [(14,.int .i64 i),(6,.sl ((zlB s.l level i).map EncE.cs) (.own 2))]) (fun i m => m.set 2 (.tok (zlB s.l level i).length 1)) (fun _ => True) ?_ ?_ ?_ ?_
 ·trivial
 ·simp [AV.bare,zal,zaN,zaS,zak,zat,zah,tokz1,lk,zab,zcW,zlB]
 ·intro i hi _
  have hw:=zmA s.l level i
  have e1:=zft (l:=s.l) (i:=i) (by omega)
  cases c:decide (level < at_ s.l i) <;>
   simp (maxSteps:=4000000) only [go_sem,AV.one,zae,zac,zad,zaq,zas,zab,czb,cza,↓reduceIte,e1,czH.2 hi,c]
  all_goals all_goals (repeat' first | (with_reducible first | rfl | apply And.intro | assumption) | ((with_reducible show zaf _ _ = true); rfl)) <;> try first | omega | (simp only [InR]; omega)
  all_goals
   refine nxt hi trivial ?_
   simp at c
   simp [AV.bare,zal,zaN,zaS,zak,zat,zah,tokz1,lk,zab,zcW,wetN_succ,c]
   try (intro q; omega)
   try omega
 ·intro _
  simp (maxSteps:=4000000) only [go_sem,AV.one,zae,zac,zad,zaq,zas,zab,czb,cza,↓reduceIte]
def P33 (g:FuncId):=(zaw 156 (zd1 (fun (t:Tb) (s:Arr 10) (h:Int) => ((0 ≤ t.step ∧ t.step ≤ 99) ∧ 0 ≤ h ∧ h ≤ 9) ∧ (0 ≤ at_ s.l h.toNat ∧ at_ s.l h.toNat ≤ 99) ∧ (h ≠ 0 → 0 ≤ at_ s.l (h - 1).toNat ∧ at_ s.l (h - 1).toNat ≤ 99)) (fun t s h => zdf t s.l h)) (zaw 116 (zd1 (fun (t:Tb) (_:Arr 10) (_:Int) => 0 ≤ t.last ∧ t.last ≤ 9) (fun t s level => zlB s.l level (t.last + 1).toNat)) (P32)):zaL) g
theorem P33_ok:zaC Tryz.prog P33:=zaj (zbY near_call) (zaj (zbY wet_call) (zt1))
theorem zt0 (d:Option Nat):zaI P33 d = none:=(zai (by decide) d).trans ((zai (by decide) d).trans (zt2 d))
attribute [go_sem] P33 zt0
structure VOk (t:Tb):Prop where
 hok:HOk t
 mok:MOk t
 last:(t.heights.length:Int) = t.last + 1
 lv:t.levels.length ≤ 6
 lvb:∀ x ∈ t.levels,0 ≤ x ∧ x ≤ 99
 many:zc8 t.heights ≤ 2000
 some:zcq t ≠ []
theorem VOk.l0 {t:Tb} (h:VOk t):0 ≤ t.last + 1:=by have:=h.last; omega
theorem VOk.l9 {t:Tb} (h:VOk t):t.last ≤ 9:=by have:=h.last; have:=h.hok.len; omega
def zdj (l:List Int):List Int:=l.take 10 ++ List.replicate (10 - l.length) 0
def zfg (l:List Int):Arr 10:=⟨zdj l,by simp [zdj]; omega⟩
def zeroA10:Arr 10:=⟨List.replicate 10 0,by simp⟩
theorem zhe {l:List Int} {i:Nat} (h:i < l.length) (h10:i < 10):at_ (zdj l) i = at_ l i:=by
 unfold zdj
 rw [zlv (by simp; omega)]
 simp [at_,List.getD,h10]
def zdg (t:Tb) (l:List Int):Arr 10 × Bool:=if (l.length:Int) = t.last + 1 then (zfg l,za4 t l) else (zeroA10,false)
theorem zkm {t:Tb} {l:List Int} {i:Nat} (hi:i < l.length) (h10:i < 10):zcE t.step (l.take (i + 1)) = (zcE t.step (l.take i) && zdf t (zdj l) i):=by
 cases i with
 | zero =>
  cases l with
  | nil => simp at hi
  | cons x l => simp [zcE,zdf]
 | succ i =>
  rw [zlV _ _ _ hi]
  congr 1
  have e0:((i + 1:Nat):Int).toNat = i + 1:=by omega
  have e1:(((i + 1:Nat):Int) - 1).toNat = i:=by omega
  unfold zdf
  rw [e0,e1,zhe hi h10,zhe (show i < l.length by omega) (by omega),Bool.eq_iff_iff]
  simp [inB]
  omega
theorem zm7 {t:Tb} {l:List Int} {i:Nat} (hi:i < l.length) (h10:i < 10) (h:zdf t (zdj l) i = false):za4 t l = false:=by
 cases c:za4 t l
 ·rfl
 ·simp only [za4,czl] at c
  have:=ziL t.step l (i + 1) c.2.2
  rw [zkm hi h10,h] at this
  simp at this
theorem zro (t:Tb) (l:List Int) (h:(HOk t ∧ (t.heights.length:Int) = t.last + 1 ∧ 0 ≤ t.last) ∧ l.length ≤ 4096):zaQ Tryz.prog 115 [Enc.enc t,Enc.enc l] (· = Enc.enc (zdg t l)):=by
 obtain ⟨⟨hok,hl,h0⟩,hl4⟩:=h
 have hl9:t.last ≤ 9:=by have:=hok.len; omega
 have hz:=hok.s0
 have hz1:=hok.s1
 simp only [zaa]
 cases c:decide ((l.length:Int) = t.last + 1)
 ·have e:zdg t l = (zeroA10,false):=by unfold zdg; rw [if_neg (by simpa using c)]
  rw [e]
  simp only [zcz]
  refine cpz P33_ok Tryz.func115 zaD ?_
  rw [Tryz.ntmps115]
  simp only [Tryz.f115,zag,zap]
  simp (maxSteps:=4000000) only [go_sem,AV.one,zae,zac,zad,zaq,zas,zab,czb,cza,↓reduceIte,c]
  all_goals (repeat' first | (with_reducible first | rfl | apply And.intro | assumption) | ((with_reducible show zaf _ _ = true); rfl)) <;> try first | omega | (simp only [InR]; omega)
  all_goals rfl
 ·have e:zdg t l = (zfg l,za4 t l):=by unfold zdg; rw [if_pos (by simpa using c)]
  rw [e]
  have hlen:(l.length:Int) = t.last + 1:=by simpa using c
  have e10:(((10:Nat):Int) - 0).toNat = 10:=rfl
  have hflat:(List.take 10 (List.map EncE.cs l)).flatten ++ List.drop (List.take 10 (List.map EncE.cs l)).flatten.length
    [AV.int IntKind.i64 0,AV.int IntKind.i64 0,AV.int IntKind.i64 0,AV.int IntKind.i64 0,AV.int IntKind.i64 0,AV.int IntKind.i64 0,AV.int IntKind.i64 0,AV.int IntKind.i64 0,AV.int IntKind.i64 0,AV.int IntKind.i64 0] = (zfg l).l.map (AV.int .i64):=by
   rw [← List.map_take,flat_ints,show [AV.int IntKind.i64 0,AV.int IntKind.i64 0,AV.int IntKind.i64 0,AV.int IntKind.i64 0,AV.int IntKind.i64 0,AV.int IntKind.i64 0,AV.int IntKind.i64 0,AV.int IntKind.i64 0,AV.int IntKind.i64 0,AV.int IntKind.i64 0] = (List.replicate 10 (0:Int)).map (AV.int .i64) from rfl,← List.map_drop,← List.map_append,List.drop_replicate]
   unfold zfg zdj
   simp
   omega
  have hp:=(zfg l).h
  have hd:(zfg l).l.drop 10 = []:=czM (by omega)
  have hps:(zfg l).l = zdj l:=rfl
  simp only [zcz]
  refine cpz P33_ok Tryz.func115 zaD ?_
  rw [Tryz.ntmps115]
  simp only [Tryz.f115,zag,zap]
  simp (maxSteps:=4000000) only [go_sem,zae,zac,zad,zaq,zas,zab,czb,cza,↓reduceIte,c,e10,hflat,zdu]
  refine ⟨(by simp only [InR]; omega),⟨by omega,by omega⟩,?_,?_⟩
  ·intro x hx c hc
   obtain ⟨y,_,rfl⟩:=czx.1 hx
   simp only [zel,czn,czk,or_false] at hc
   subst hc
   exact ⟨rfl,rfl⟩
  refine zbv (l.length) [] [2,4,5,18,19] (fun i => [(20,.int .i64 i)]) (fun _ m => m) (fun i => ((zhD l t.heights).take i).all id = true ∧ zcE t.step (l.take i) = true) ?_ ?_ ?_ ?_
  ·simp [zcE]
  ·simp [AV.bare,zal,zaN,zaS,zak,zat,zah,tokz1,lk,zab,zcW]
  ·intro i hi hI
   have h2:i < t.heights.length:=by omega
   have h3:i < (zhD l t.heights).length:=by rw [ze0]; omega
   have hz3:=zhh hi h2
   have hat:=zhe hi (by omega)
   have hr:=hok.h _ (zbh h2)
   have hnr:=zkm (t:=t) hi (by omega)
   rw [← hps] at hat hnr
   have hprev:(i:Int) ≠ 0 → 0 ≤ at_ (zfg l).l ((i:Int) - 1).toNat ∧ at_ (zfg l).l ((i:Int) - 1).toNat ≤ 99:=by
    intro q
    have e1:((i:Int) - 1).toNat = i - 1:=by omega
    have hz4:=zhh (show i - 1 < l.length by omega) (show i - 1 < t.heights.length by omega)
    have hr2:=hok.h _ (zbh (show i - 1 < t.heights.length by omega))
    have hm:at_ (zhD l t.heights) (i - 1) = true:=by
     have:=czG.1 hI.1 (at_ (zhD l t.heights) (i - 1)) (by
      rw [zdm (show i - 1 < (zhD l t.heights).length by omega)]
      exact List.mem_take_iff_getElem.2 ⟨i - 1,by omega,rfl⟩)
     exact this
    rw [hz4] at hm
    have:=(zbJ _ _ _).1 hm
    rw [e1,hps,zhe (show i - 1 < l.length by omega) (by omega)]
    omega
   cases c1:inB (at_ l i) (at_ t.heights i).lo (at_ t.heights i).hi
   ·simp (maxSteps:=4000000) only [go_sem,zae,zac,zad,zaq,zas,zab,czb,cza,↓reduceIte,zax hi,zax h2,czH.2 hi,c1,hp,hd,zdu]
    all_goals (repeat' first | (with_reducible first | rfl | apply And.intro | assumption) | ((with_reducible show zaf _ _ = true); rfl)) <;> try first | omega | (simp only [InR]; omega)
    rw [za4,zf5 h3 (by rw [hz3,c1]; rfl)]; rfl
   ·have g1:=(zbJ _ _ _).1 c1
    have g2:0 ≤ at_ (zfg l).l i ∧ at_ (zfg l).l i ≤ 99:=by rw [hat]; omega
    cases c2:zdf t (zfg l).l i
    all_goals
     simp (maxSteps:=4000000) only [go_sem,zae,zac,zad,zaq,zas,zab,czb,cza,↓reduceIte,zax hi,zax h2,czH.2 hi,c1,c2,hp,hd,zdu]
     all_goals (repeat' first | (with_reducible first | rfl | apply And.intro | assumption) | ((with_reducible show zaf _ _ = true); rfl)) <;> try first | omega | (simp only [InR]; omega)
    ·rw [zm7 hi (by omega) c2]
    ·refine nxt hi ⟨?_,?_⟩ ?_
     ·rw [zed h3,hI.1,hz3,c1]; rfl
     ·rw [hnr,hI.2,c2]; rfl
     ·simp [AV.bare,zal,zaN,zaS,zak,zat,zah,tokz1,lk,zab,zcW]
  ·intro hI
   simp (maxSteps:=4000000) only [go_sem,zae,zac,zad,zaq,zas,zab,czb,cza,↓reduceIte,hp,hd,zdu]
   all_goals (repeat' first | (with_reducible first | rfl | apply And.intro | assumption) | ((with_reducible show zaf _ _ = true); rfl)) <;> try first | omega | (simp only [InR]; omega)
   have e1:(zhD l t.heights).take l.length = zhD l t.heights:=cze (by rw [ze0]; omega)
   rw [e1,czm] at hI
   rw [za4,hI.1,hI.2]
   simp; omega
def P34 (g:FuncId):=(zaw 115 (zbC (fun (t:Tb) (l:List Int) => (HOk t ∧ (t.heights.length:Int) = t.last + 1 ∧ 0 ≤ t.last) ∧ l.length ≤ 4096) zdg) (P33):zaL) g
theorem zpt:zaC Tryz.prog P34:=zaj (zaM zro) (P33_ok)
theorem ztZ (d:Option Nat):zaI P34 d = none:=(zai (by decide) d).trans (zt0 d)
attribute [go_sem] P34 ztZ
end Go.Proofs
