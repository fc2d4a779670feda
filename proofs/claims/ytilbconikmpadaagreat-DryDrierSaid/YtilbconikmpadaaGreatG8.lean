/- The texts S5, S6, S7, S8, S9, joined. -/
import Derived.Test.YtilbconikmpadaaGreatG7
set_option linter.all false
namespace Go.Proofs
open Go.Fs
set_option maxHeartbeats 1000000
set_option maxRecDepth 8000
def P9 (g:FuncId):=(zaz 69 (zcM (fun t => HOk t ∧ MOk t) zaR) (P8):zaJ) g
theorem P9_ok:zaA Tryz.prog P9:=zai (zbi zrh) (P8_ok)
theorem P9_flag (d:Option Nat):zaG P9 d = none:=(zag (by decide) d).trans (P8_flag d)
attribute [go_sem] P9 P9_flag
def zei (l:List Int) (level:Int):Int :=
 match zgR l level with
 | [] => l.length
 | w :: _ => w
def zdt (r:Rg) (n:Int):Rg:=⟨min r.lo n,max r.hi n⟩
theorem zu3 (r:Rg) (n:Int):zaQ Tryz.prog 101 [Enc.enc r,Enc.enc n] (· = Enc.enc (zdt r n)):=by
 simp only [zcq]
 refine cpz P9_ok Tryz.func101 zaC ?_
 rw [Tryz.ntmps101]
 simp only [Tryz.f101,zah,zam]
 simp (maxSteps:=4000000) only [go_sem,AV.one,zae,zac,zad,zan,zaq,zaa,czb,cza,↓reduceIte]
 rfl
def zj6:Rg:=⟨1099511627776,-1⟩
theorem zvh:zaQ Tryz.prog 100 [] (· = Enc.enc zj6):=by
 simp only [zcq]
 refine cpz P9_ok Tryz.func100 zaC ?_
 rw [Tryz.ntmps100]
 simp only [Tryz.f100,zah,zam]
 simp (maxSteps:=4000000) only [go_sem,AV.one,zae,zac,zad,zan,zaq,zaa,czb,cza,↓reduceIte]
 rfl
theorem zj2 {α β:Type} [Inhabited α] {l:List α} {f:β → α → β} {b:β} {i:Nat} (h:i < l.length):(l.take (i + 1)).foldl f b = f ((l.take i).foldl f b) (at_ l i):=by
 rw [zaW h,List.foldl_append]; rfl
def P10 (g:FuncId):=(zaz 101 (zbE (fun (_:Rg) (_:Int) => True) zdt) (zaz 100 (ztq zj6) (P9)):zaJ) g
theorem P10_ok:zaA Tryz.prog P10:=zai (zaM fun a b _ => zu3 a b) (zai (zlK zvh) (P9_ok))
theorem ztb (d:Option Nat):zaG P10 d = none:=(zag (by decide) d).trans ((zag (by decide) d).trans (P9_flag d))
attribute [go_sem] P10 ztb
def zim (ls:List (List Int)) (hour:Int):Rg:=ls.foldl (fun r l => zdt r (at_ l hour.toNat)) zj6
def zrX (ls:List (List Int)) (level:Int):Rg:=ls.foldl (fun r l => zdt r (zei l level)) zj6
def zgW (ls:List (List Int)) (level:Int) (hour:Nat):Int:=ls.foldl (fun n l => if level < at_ l hour then n + 1 else n) 0
def zlE (ls:List (List Int)) (level hour:Int):Int :=
 if zgW ls level hour.toNat = ls.length then 1 else if zgW ls level hour.toNat = 0 then 2 else 3
def zsb (ls:List (List Int)) (a b level:Int):Bool:=ls.all fun l => decide (zkS l a b ≤ level)
def dryN (ls:List (List Int)) (a b:Int):Nat → Int → Int
 | 0,n => n
 | f + 1,n => if zsb ls a b n then n else dryN ls a b f (n + 1)
def dryL (ls:List (List Int)) (a b:Int):Int:=dryN ls a b 99 0
def P11:zaJ:=P10
theorem P11_app (g:FuncId):P11 g = (P10) g:=rfl
theorem P11_ok:zaA Tryz.prog P11:=P10_ok
attribute [go_sem] P11_app
theorem zta (d:Option Nat):zaG P11 d = none:=ztb d
attribute [go_sem] zta
def P12:zaJ:=P11
theorem P12_app (g:FuncId):P12 g = (P11) g:=rfl
theorem P12_ok:zaA Tryz.prog P12:=P11_ok
attribute [go_sem] P12_app
theorem zs9 (d:Option Nat):zaG P12 d = none:=zta d
attribute [go_sem] zs9
theorem bits64:((IntKind.i64.bits:Nat):Int) = 64:=rfl
def rb (l:List Int) (ms:List Mk):Nat → Nat
 | 0 => 0
 | n + 1 => if zdQ l (at_ ms n) then rb l ms n ||| 2 ^ n else rb l ms n
def allN (t:Tb) (n:Nat):List Int:=((zce t).take n).map fun l => (rb l t.marks t.marks.length:Int)
def allL (t:Tb):List Int:=allN t (zce t).length
def canB (all:List Int) (marks:Int):Bool:=all.any fun x => decide (((x.toNat &&& marks.toNat:Nat):Int) = marks)
theorem any_take {α:Type} [Inhabited α] {l:List α} {p:α → Bool} {i:Nat} (h:i < l.length):(l.take (i + 1)).any p = ((l.take i).any p || p (at_ l i)):=by
 rw [zaW h,List.any_append]; simp
theorem any_at {α:Type} [Inhabited α] {l:List α} {p:α → Bool} {i:Nat} (h:i < l.length) (hp:p (at_ l i) = true):l.any p = true:=by
 rw [List.any_eq_true]; exact ⟨_,zbs h,hp⟩
def BOk (x:Int):Prop:=0 ≤ x ∧ x ≤ 511
theorem Can_call (all:List Int) (marks:Int) (h:(all.length ≤ 4096 ∧ ∀ x ∈ all,BOk x) ∧ BOk marks):zaQ Tryz.prog 111 [Enc.enc all,Enc.enc marks] (· = Enc.enc (canB all marks)):=by
 have h1:=h.1.1
 have h2:=h.2
 unfold BOk at h2
 simp only [zcq]
 refine cpz P12_ok Tryz.func111 zaC ?_
 rw [Tryz.ntmps111]
 simp only [Tryz.f111,zah,zam]
 simp (maxSteps:=4000000) only [go_sem,AV.one,zae,zac,zad,zan,zaq,zaa,czb,cza,↓reduceIte]
 refine zbG (all.length) [] [0,1,4] (fun i => [(5,.int .i64 i)]) (fun _ m => m) (fun i => (all.take i).any (fun x => decide (((x.toNat &&& marks.toNat:Nat):Int) = marks)) = false) ?_ ?_ ?_ ?_
 ·simp
 ·simp [AV.bare,zal,zaN,zaS,zak,zas,zaf,tokz1,lk,zaa,zcI]
 ·intro i hi hI
  have hb:=h.1.2 _ (zbs hi)
  unfold BOk at hb
  cases c:decide ((((at_ all i).toNat &&& marks.toNat:Nat):Int) = marks) <;>
   simp (maxSteps:=4000000) only [go_sem,AV.one,zae,zac,zad,zan,zaq,zaa,czb,cza,↓reduceIte,zar hi,czH.2 hi,c]
  all_goals all_goals (repeat' first | (with_reducible first | rfl | apply And.intro | assumption) | ((with_reducible show zaj _ _ = true); rfl)) <;> try first | omega | (simp only [InR]; omega)
  ·refine nxt hi ?_ ?_
   ·rw [any_take hi,hI,c]; rfl
   ·simp [AV.bare,zal,zaN,zaS,zak,zas,zaf,tokz1,lk,zaa,zcI]
  ·rw [canB,any_at hi c]
 ·intro hI
  rw [czm] at hI
  simp (maxSteps:=4000000) only [go_sem,AV.one,zae,zac,zad,zan,zaq,zaa,czb,cza,↓reduceIte]
  rw [canB,hI]
def blN (b:Nat):Nat:=if b = 0 then 0 else b.log2 + 1
def zkK (b n:Nat):List Int:=((List.range n).filter fun p => b.testBit p).map fun p:Nat => (p:Int)
def zqX (b:Nat):List Int:=zkK b (blN b)
theorem zuC (b n:Nat):zkK b (n + 1) = zkK b n ++ (if b.testBit n then [(n:Int)] else []):=by
 simp only [zkK,List.range_succ,List.filter_append,List.map_append]
 cases c:b.testBit n <;> simp [List.filter,c]
theorem zn7 (b n:Nat):(zkK b n).length ≤ n:=by
 have:=List.length_filter_le (fun p => b.testBit p) (List.range n)
 simpa [zkK] using this
theorem blN_lt {b p:Nat} (h:p < blN b):0 < b / 2 ^ p:=by
 unfold blN at h
 split at h
 ·omega
 ·rename_i hb
  have:2 ^ p ≤ b:=(Nat.le_log2 hb).1 (by omega)
  exact Nat.div_pos this (Nat.two_pow_pos p)
theorem blN_end (b:Nat):b / 2 ^ blN b = 0:=by
 unfold blN
 split
 ·rename_i h; subst h; rfl
 ·rename_i h
  exact Nat.div_eq_of_lt ((Nat.log2_lt h).1 (by omega))
theorem blN_le {b:Nat} (h:b ≤ 511):blN b ≤ 9:=by
 unfold blN
 split
 ·omega
 ·rename_i hb
  have:=(Nat.log2_lt (k:=9) hb).2 (by omega)
  omega
theorem Bits_call (b:Int) (h:BOk b):zaQ Tryz.prog 64 [Enc.enc b] (· = Enc.enc (zqX b.toNat)):=by
 have h0:=h.1
 have h1:=h.2
 obtain ⟨b,rfl⟩:=czu h.1
 have hl:=blN_le (b:=b) (by omega)
 have hdiv:∀ p:Nat,((b:Int) / 2 ^ p) = ((b / 2 ^ p:Nat):Int):=fun p => by simp
 simp only [zcq]
 refine cpz P12_ok Tryz.func64 zaC ?_
 rw [Tryz.ntmps64]
 simp only [Tryz.f64,zah,zam]
 simp (maxSteps:=4000000) only [go_sem,AV.one,zae,zac,zad,zan,zaq,zaa,czb,cza,↓reduceIte]
 refine zbG (blN b) [.slot 3 1] [0,2] (fun i => [(4,.int .i64 i),(3,.sl ((zkK b i).map EncE.cs) (.own 0))]) (fun i m => m.set 0 (.tok (zkK b i).length 1)) (fun _ => True) ?_ ?_ ?_ ?_
 ·trivial
 ·simp [AV.bare,zal,zaN,zaS,zak,zas,zaf,tokz1,lk,zaa,zcI,zkK]
 ·intro i hi _
  have hw:=zn7 b i
  have h3:=blN_lt hi
  have h4:(0:Int) < ((b / 2 ^ i:Nat):Int):=by omega
  have h5:=Nat.div_le_self b (2 ^ i)
  have h6:b.testBit i = decide (((b / 2 ^ i:Nat):Int) % 2 = 1):=by
   rw [Nat.testBit_eq_decide_div_mod_eq]
   congr 1
   simp only [eq_iff_iff]
   omega
  cases c:decide (((b / 2 ^ i:Nat):Int) % 2 = 1) <;>
   simp (maxSteps:=4000000) only [go_sem,AV.one,zae,zac,zad,zan,zaq,zaa,czb,cza,↓reduceIte,hdiv,h4,c,bits64]
  all_goals all_goals (repeat' first | (with_reducible first | rfl | apply And.intro | assumption) | ((with_reducible show zaj _ _ = true); rfl)) <;> try first | omega | (simp only [InR]; omega)
  all_goals
   refine nxt hi trivial ?_
   rw [c] at h6
   simp [AV.bare,zal,zaN,zaS,zak,zas,zaf,tokz1,lk,zaa,zcI,zuC,h6]
 ·intro _
  have h3:=blN_end b
  have hw:=zn7 b (blN b)
  simp (maxSteps:=4000000) only [go_sem,AV.one,zae,zac,zad,zan,zaq,zaa,czb,cza,↓reduceIte,hdiv,h3,bits64]
  all_goals (repeat' first | (with_reducible first | rfl | apply And.intro | assumption) | ((with_reducible show zaj _ _ = true); rfl)) <;> try first | omega | (simp only [InR]; omega)
  rfl
def P13 (g:FuncId):=(zaz 111 (zbE (fun (all:List Int) (marks:Int) => (all.length ≤ 4096 ∧ ∀ x ∈ all,BOk x) ∧ BOk marks) canB) (zaz 64 (zcM BOk (fun b => zqX b.toNat)) (P12)):zaJ) g
theorem P13_ok:zaA Tryz.prog P13:=zai (zaM Can_call) (zai (zbi Bits_call) (P12_ok))
theorem zs8 (d:Option Nat):zaG P13 d = none:=(zag (by decide) d).trans ((zag (by decide) d).trans (zs9 d))
attribute [go_sem] P13 zs8
def zb1:List Int → List Int → Bool
 | [],[] => false
 | [],_ :: _ => true
 | _ :: _,[] => false
 | a :: r,b :: s => if a = b then zb1 r s else decide (a < b)
theorem zgj {α:Type} [Inhabited α] {l:List α} {i:Nat} (h:i < l.length):l.drop i = at_ l i :: l.drop (i + 1):=by
 rw [zdi h]; exact List.drop_eq_getElem_cons h
theorem zrC (a b:List Int) (h:a.length ≤ 4096 ∧ b.length ≤ 4096):zaQ Tryz.prog 119 [Enc.enc a,Enc.enc b] (· = Enc.enc (zb1 a b)):=by
 have h1:=h.1
 have h2:=h.2
 simp only [zcq]
 refine cpz P13_ok Tryz.func119 zaC ?_
 rw [Tryz.ntmps119]
 simp only [Tryz.f119,zah,zam]
 simp (maxSteps:=4000000) only [go_sem,AV.one,zae,zac,zad,zan,zaq,zaa,czb,cza,↓reduceIte]
 refine zbG (min a.length b.length) [] [0,1,4] (fun i => [(5,.int .i64 i)]) (fun _ m => m) (fun i => zb1 (a.drop i) (b.drop i) = zb1 a b) ?_ ?_ ?_ ?_
 ·rfl
 ·simp [AV.bare,zal,zaN,zaS,zak,zas,zaf,tokz1,lk,zaa,zcI]
 ·intro i hi hI
  have ha:i < a.length:=by omega
  have hb:i < b.length:=by omega
  rw [zgj ha,zgj hb,zb1] at hI
  cases c:decide (at_ a i = at_ b i) <;>
   simp (maxSteps:=4000000) only [go_sem,AV.one,zae,zac,zad,zan,zaq,zaa,czb,cza,↓reduceIte,zar ha,zar hb,czH.2 ha,czH.2 hb,c]
  all_goals all_goals (repeat' first | (with_reducible first | rfl | apply And.intro | assumption) | ((with_reducible show zaj _ _ = true); rfl)) <;> try first | omega | (simp only [InR]; omega)
  ·simp at c
   rw [if_neg c] at hI
   rw [← hI]
  ·simp at c
   rw [if_pos c] at hI
   refine nxt hi hI ?_
   simp [AV.bare,zal,zaN,zaS,zak,zas,zaf,tokz1,lk,zaa,zcI]
 ·intro hI
  have:a.drop (min a.length b.length) = [] ∨ b.drop (min a.length b.length) = []:=by
   rcases Nat.le_total a.length b.length with q | q
   ·left; exact czM (by omega)
   ·right; exact czM (by omega)
  have hr:decide ((a.length:Int) < b.length) = zb1 a b:=by
   rw [← hI]
   rcases Nat.lt_or_ge a.length b.length with q | q
   ·rw [show min a.length b.length = a.length by omega,List.drop_length,zgj q,zb1]; simpa using q
   ·rw [show min a.length b.length = b.length by omega,List.drop_length]
    have hd:decide ((a.length:Int) < b.length) = false:=by simp; omega
    rw [hd]
    cases List.drop b.length a <;> rfl
  cases c1:decide (((min a.length b.length:Nat):Int) < (a.length:Int)) <;> cases c2:decide (((min a.length b.length:Nat):Int) < (b.length:Int))
  ·simp (maxSteps:=4000000) only [go_sem,AV.one,zae,zac,zad,zan,zaq,zaa,czb,cza,↓reduceIte,c1,c2,hr]
  ·simp (maxSteps:=4000000) only [go_sem,AV.one,zae,zac,zad,zan,zaq,zaa,czb,cza,↓reduceIte,c1,c2,hr]
  ·simp (maxSteps:=4000000) only [go_sem,AV.one,zae,zac,zad,zan,zaq,zaa,czb,cza,↓reduceIte,c1,c2,hr]
  ·simp at c1 c2; omega
def zcN (a b:List Int):Bool:=decide ((a.length:Int) < b.length) || (decide ((a.length:Int) = b.length) && zb1 a b)
def P14 (g:FuncId):=(zaz 119 (zbE (fun (a b:List Int) => a.length ≤ 4096 ∧ b.length ≤ 4096) zb1) (P13):zaJ) g
theorem P14_ok:zaA Tryz.prog P14:=zai (zaM zrC) (P13_ok)
theorem zs7 (d:Option Nat):zaG P14 d = none:=(zag (by decide) d).trans (zs8 d)
attribute [go_sem] P14 zs7
theorem zol (a b:List Int) (h:a.length ≤ 4096 ∧ b.length ≤ 4096):zaQ Tryz.prog 63 [Enc.enc a,Enc.enc b] (· = Enc.enc (zcN a b)):=by
 have h1:=h.1
 have h2:=h.2
 simp only [zcq]
 refine cpz P14_ok Tryz.func63 zaC ?_
 rw [Tryz.ntmps63]
 simp only [Tryz.f63,zah,zam]
 simp (maxSteps:=4000000) only [go_sem,AV.one,zae,zac,zad,zan,zaq,zaa,czb,cza,↓reduceIte]
 refine ⟨fun q => ?_,?_⟩
 ·all_goals exact auz
 ·refine ⟨?_,rfl⟩
  cases decide ((a.length:Int) < b.length) <;> simp
def P15 (g:FuncId):=(zaz 63 (zbE (fun (a b:List Int) => a.length ≤ 4096 ∧ b.length ≤ 4096) zcN) (P14):zaJ) g
theorem P15_ok:zaA Tryz.prog P15:=zai (zaM zol) (P14_ok)
theorem zs6 (d:Option Nat):zaG P15 d = none:=(zag (by decide) d).trans (zs7 d)
attribute [go_sem] P15 zs6
def firstN (all:List Int):Nat → Nat → Int
 | 0,_ => -1
 | f + 1,n => if canB all (2 * 2 ^ n - 1) then firstN all f (n + 1) else n
def firstL (t:Tb) (all:List Int):Int:=firstN all t.marks.length 0
def zhN (all:List Int) (full:Nat):Nat → List Int
 | 0 => zqX full
 | n + 1 => if zcN (zqX n) (zhN all full n) && canB all ((full - (full &&& n):Nat):Int) then zqX n else zhN all full n
def leaveL (t:Tb) (all:List Int):List Int:=zhN all (2 ^ t.marks.length - 1) (2 ^ t.marks.length)
def P16:zaJ:=P15
theorem P16_app (g:FuncId):P16 g = (P15) g:=rfl
theorem zlC:zaA Tryz.prog P16:=P15_ok
attribute [go_sem] P16_app
theorem zs5 (d:Option Nat):zaG P16 d = none:=zs6 d
attribute [go_sem] zs5
theorem zpm (n lo hi:Int):zaQ Tryz.prog 157 [Enc.enc n,Enc.enc lo,Enc.enc hi] (· = Enc.enc (inB n lo hi)):=by
 simp only [zcq]
 refine cpz zlC Tryz.func157 zaC ?_
 rw [Tryz.ntmps157]
 simp only [Tryz.f157,zah,zam]
 simp (maxSteps:=4000000) only [go_sem,AV.one,zae,zac,zad,zan,zaq,zaa,czb,cza,↓reduceIte]
 rfl
theorem size_call (r:Rg) (h:InR .i64 (r.hi - r.lo) ∧ InR .i64 (r.hi - r.lo + 1)):zaQ Tryz.prog 153 [Enc.enc r] (· = Enc.enc (r.hi - r.lo + 1)):=by
 simp only [zcq]
 refine cpz zlC Tryz.func153 zaC ?_
 rw [Tryz.ntmps153]
 simp only [Tryz.f153,zah,zam]
 simp (maxSteps:=4000000) only [go_sem,AV.one,zae,zac,zad,zan,zaq,zaa,czb,cza,↓reduceIte]
 exact h
def zr2:List Int → Int
 | [] => 0
 | x :: r => r.foldl min x
theorem zhE (a b:Int):zr2 [a,b] = min a b:=rfl
theorem minL_snoc (l:List Int) (x:Int) (h:l ≠ []):zr2 (l ++ [x]) = min (zr2 l) x:=by
 cases l with
 | nil => exact absurd rfl h
 | cons y r => simp [zr2,List.foldl_append]
theorem minL_take {l:List Int} {i:Nat} (h:i + 1 < l.length):zr2 (l.take (i + 1 + 1)) = min (zr2 (l.take (i + 1))) (at_ l (i + 1)):=by
 rw [zaW h,minL_snoc]
 intro q
 have:=congrArg List.length q
 rw [czO,czy] at this
 omega
theorem maxL_take {l:List Int} {i:Nat} (h:i + 1 < l.length):zpj (l.take (i + 1 + 1)) = max (zpj (l.take (i + 1))) (at_ l (i + 1)):=by
 rw [zaW h,znp]
 intro q
 have:=congrArg List.length q
 rw [czO,czy] at this
 omega
theorem Min_call (l:List Int) (h:l ≠ [] ∧ l.length ≤ 4096):zaQ Tryz.prog 174 [Enc.enc l] (· = Enc.enc (zr2 l)):=by
 have hl:0 < l.length:=List.length_pos_iff.2 h.1
 have h2:=h.2
 simp only [zcq]
 refine cpz zlC Tryz.func174 zaC ?_
 rw [Tryz.ntmps174]
 simp only [Tryz.f174,zah,zam]
 simp (maxSteps:=4000000) only [go_sem,AV.one,zae,zac,zad,zan,zaq,zaa,czb,cza,↓reduceIte,zar hl,show ¬ ((l.length:Int) < 1) by omega,show (0:Int) < l.length by omega]
 refine zbG (l.length - 1) [] [0,2] (fun i => [(4,.int .i64 ((i + 1:Nat):Int)),(3,.int .i64 (zr2 (l.take (i + 1))))]) (fun _ m => m) (fun _ => True) ?_ ?_ ?_ ?_
 ·trivial
 ·cases l with
  | nil => simp at hl
  | cons x l => simp [AV.bare,zal,zaN,zaS,zak,zas,zaf,tokz1,lk,zaa,zcI,zr2,at_]
 ·intro i hi _
  have hi2:i + 1 < l.length:=by omega
  simp (maxSteps:=4000000) only [go_sem,AV.one,zae,zac,zad,zan,zaq,zaa,czb,cza,↓reduceIte,zar hi2,czH.2 hi2]
  all_goals (repeat' first | (with_reducible first | rfl | apply And.intro | assumption) | ((with_reducible show zaj _ _ = true); rfl)) <;> try first | omega | (simp only [InR]; omega)
  refine nxt hi trivial ?_
  have:=minL_take hi2
  simp [AV.bare,zal,zaN,zaS,zak,zas,zaf,tokz1,lk,zaa,zcI,this]
 ·intro _
  have hn:¬ (((l.length - 1 + 1:Nat):Int) < l.length):=by omega
  simp (maxSteps:=4000000) only [go_sem,AV.one,zae,zac,zad,zan,zaq,zaa,czb,cza,↓reduceIte,hn]
  rw [cze (by omega)]
theorem Max_call (l:List Int) (h:l ≠ [] ∧ l.length ≤ 4096):zaQ Tryz.prog 177 [Enc.enc l] (· = Enc.enc (zpj l)):=by
 have hl:0 < l.length:=List.length_pos_iff.2 h.1
 have h2:=h.2
 simp only [zcq]
 refine cpz zlC Tryz.func177 zaC ?_
 rw [Tryz.ntmps177]
 simp only [Tryz.f177,zah,zam]
 simp (maxSteps:=4000000) only [go_sem,AV.one,zae,zac,zad,zan,zaq,zaa,czb,cza,↓reduceIte,zar hl,show ¬ ((l.length:Int) < 1) by omega,show (0:Int) < l.length by omega]
 refine zbG (l.length - 1) [] [0,2] (fun i => [(4,.int .i64 ((i + 1:Nat):Int)),(3,.int .i64 (zpj (l.take (i + 1))))]) (fun _ m => m) (fun _ => True) ?_ ?_ ?_ ?_
 ·trivial
 ·cases l with
  | nil => simp at hl
  | cons x l => simp [AV.bare,zal,zaN,zaS,zak,zas,zaf,tokz1,lk,zaa,zcI,zpj,at_]
 ·intro i hi _
  have hi2:i + 1 < l.length:=by omega
  simp (maxSteps:=4000000) only [go_sem,AV.one,zae,zac,zad,zan,zaq,zaa,czb,cza,↓reduceIte,zar hi2,czH.2 hi2]
  all_goals (repeat' first | (with_reducible first | rfl | apply And.intro | assumption) | ((with_reducible show zaj _ _ = true); rfl)) <;> try first | omega | (simp only [InR]; omega)
  refine nxt hi trivial ?_
  have:=maxL_take hi2
  simp [AV.bare,zal,zaN,zaS,zak,zas,zaf,tokz1,lk,zaa,zcI,this]
 ·intro _
  have hn:¬ (((l.length - 1 + 1:Nat):Int) < l.length):=by omega
  simp (maxSteps:=4000000) only [go_sem,AV.one,zae,zac,zad,zan,zaq,zaa,czb,cza,↓reduceIte,hn]
  rw [cze (by omega)]
def zge (l:List Int) (x:Int):Nat → Nat → Int
 | 0,_ => -1
 | f + 1,n => if x = at_ l n then n else zge l x f (n + 1)
def zfL (l:List Int) (x:Int):Int:=zge l x l.length 0
theorem zvd (l:List Int) (x:Int) (h:l.length ≤ 4096):zaQ Tryz.prog 139 [Enc.enc l,Enc.enc x] (· = Enc.enc (zfL l x)):=by
 simp only [zcq]
 refine cpz zlC Tryz.func139 zaC ?_
 rw [Tryz.ntmps139]
 simp only [Tryz.f139,zah,zam]
 simp (maxSteps:=4000000) only [go_sem,AV.one,zae,zac,zad,zan,zaq,zaa,czb,cza,↓reduceIte]
 refine zbG (l.length) [] [0,1,4,7] (fun i => [(8,.int .i64 i)]) (fun _ m => m) (fun i => zge l x (l.length - i) i = zfL l x) ?_ ?_ ?_ ?_
 ·rfl
 ·simp [AV.bare,zal,zaN,zaS,zak,zas,zaf,tokz1,lk,zaa,zcI]
 ·intro i hi hI
  rw [show l.length - i = (l.length - (i + 1)) + 1 by omega,zge] at hI
  cases c:decide (x = at_ l i) <;>
   simp (maxSteps:=4000000) only [go_sem,AV.one,zae,zac,zad,zan,zaq,zaa,czb,cza,↓reduceIte,zar hi,czH.2 hi,c]
  all_goals all_goals (repeat' first | (with_reducible first | rfl | apply And.intro | assumption) | ((with_reducible show zaj _ _ = true); rfl)) <;> try first | omega | (simp only [InR]; omega)
  ·rw [if_neg (by simpa using c)] at hI
   refine nxt hi hI ?_
   simp [AV.bare,zal,zaN,zaS,zak,zas,zaf,tokz1,lk,zaa,zcI]
  ·rw [if_pos (by simpa using c)] at hI
   rw [← hI]
 ·intro hI
  simp (maxSteps:=4000000) only [go_sem,AV.one,zae,zac,zad,zan,zaq,zaa,czb,cza,↓reduceIte]
  rw [← hI]; simp [zge]
theorem znG (l:List Int) (x:Int):∀ f n,f + n = l.length → (0 ≤ zge l x f n ↔ x ∈ l.drop n)
 | 0,n,h => by rw [czM (by omega)]; simp [zge]
 | f + 1,n,h => by
  rw [zge,zgj (show n < l.length by omega)]
  by_cases c:x = at_ l n
  ·rw [if_pos c]; simp [c]
  ·rw [if_neg c,znG l x f (n + 1) (by omega)]; simp [c]
theorem index_mem (l:List Int) (x:Int):decide (0 ≤ zfL l x) = l.contains x:=by
 have:=znG l x l.length 0 (by omega)
 rw [List.drop_zero] at this
 unfold zfL
 by_cases c:x ∈ l <;> simp [this,c]
def P17 (g:FuncId):=(zaz 157 (zeb (fun _ _ _ => True) inB) (zaz 153 (zcM (fun r:Rg => InR .i64 (r.hi - r.lo) ∧ InR .i64 (r.hi - r.lo + 1)) (fun r => r.hi - r.lo + 1)) (zaz 174 (zcM (fun l:List Int => l ≠ [] ∧ l.length ≤ 4096) zr2) (zaz 177 (zcM (fun l:List Int => l ≠ [] ∧ l.length ≤ 4096) zpj) (zaz 139 (zbE (fun (l:List Int) (_:Int) => l.length ≤ 4096) zfL) (P16))))):zaJ) g
theorem zkq:zaA Tryz.prog P17:=zai (zb6 fun a b c _ => zpm a b c) (zai (zbi size_call) (zai (zbi Min_call) (zai (zbi Max_call) (zai (zaM zvd) (zlC)))))
theorem zs4 (d:Option Nat):zaG P17 d = none:=(zag (by decide) d).trans ((zag (by decide) d).trans ((zag (by decide) d).trans ((zag (by decide) d).trans ((zag (by decide) d).trans (zs5 d)))))
attribute [go_sem] P17 zs4
theorem zql (n:Int):zaQ Tryz.prog 149 [Enc.enc n] (· = Enc.enc (inB n 0 99)):=by
 simp only [zcq]
 refine cpz zkq Tryz.func149 zaC ?_
 rw [Tryz.ntmps149]
 simp only [Tryz.f149,zah,zam]
 simp (maxSteps:=4000000) only [go_sem,AV.one,zae,zac,zad,zan,zaq,zaa,czb,cza,↓reduceIte]
theorem has_call (r:Rg) (n:Int):zaQ Tryz.prog 155 [Enc.enc r,Enc.enc n] (· = Enc.enc (inB n r.lo r.hi)):=by
 simp only [zcq]
 refine cpz zkq Tryz.func155 zaC ?_
 rw [Tryz.ntmps155]
 simp only [Tryz.f155,zah,zam]
 simp (maxSteps:=4000000) only [go_sem,AV.one,zae,zac,zad,zan,zaq,zaa,czb,cza,↓reduceIte]
theorem znm (l:List Int) (h:l ≠ [] ∧ l.length ≤ 4096):zaQ Tryz.prog 152 [Enc.enc l] (· = Enc.enc (zr2 l)):=by
 simp only [zcq]
 refine cpz zkq Tryz.func152 zaC ?_
 rw [Tryz.ntmps152]
 simp only [Tryz.f152,zah,zam]
 simp (maxSteps:=4000000) only [go_sem,AV.one,zae,zac,zad,zan,zaq,zaa,czb,cza,↓reduceIte]
 exact h
theorem zmG (l:List Int) (x:Int) (h:l.length ≤ 4096):zaQ Tryz.prog 96 [Enc.enc l,Enc.enc x] (· = Enc.enc (l.contains x)):=by
 simp only [zcq]
 refine cpz zkq Tryz.func96 zaC ?_
 rw [Tryz.ntmps96]
 simp only [Tryz.f96,zah,zam]
 simp (maxSteps:=4000000) only [go_sem,AV.one,zae,zac,zad,zan,zaq,zaa,czb,cza,↓reduceIte]
 refine ⟨h,?_⟩
 rw [index_mem]
theorem hour_call (t:Tb) (n:Int):zaQ Tryz.prog 126 [Enc.enc t,Enc.enc n] (· = Enc.enc (inB n 0 t.last)):=by
 simp only [zcq]
 refine cpz zkq Tryz.func126 zaC ?_
 rw [Tryz.ntmps126]
 simp only [Tryz.f126,zah,zam]
 simp (maxSteps:=4000000) only [go_sem,AV.one,zae,zac,zad,zan,zaq,zaa,czb,cza,↓reduceIte]
theorem row_call (t:Tb) (n:Int) (h:t.levels.length ≤ 4096):zaQ Tryz.prog 123 [Enc.enc t,Enc.enc n] (· = Enc.enc (inB n 0 (t.levels.length - 1))):=by
 simp only [zcq]
 refine cpz zkq Tryz.func123 zaC ?_
 rw [Tryz.ntmps123]
 simp only [Tryz.f123,zah,zam]
 simp (maxSteps:=4000000) only [go_sem,AV.one,zae,zac,zad,zan,zaq,zaa,czb,cza,↓reduceIte]
 all_goals exact auz
def P18 (g:FuncId):=(zaz 149 (zcM (fun _ => True) (fun n => inB n 0 99)) (zaz 155 (zbE (fun (_:Rg) (_:Int) => True) (fun r n => inB n r.lo r.hi)) (zaz 152 (zcM (fun l:List Int => l ≠ [] ∧ l.length ≤ 4096) zr2) (zaz 96 (zbE (fun (l:List Int) (_:Int) => l.length ≤ 4096) (fun l x => l.contains x)) (zaz 126 (zbE (fun (_:Tb) (_:Int) => True) (fun t n => inB n 0 t.last)) (zaz 123 (zbE (fun (t:Tb) (_:Int) => t.levels.length ≤ 4096) (fun t n => inB n 0 (t.levels.length - 1))) (P17)))))):zaJ) g
theorem zoo:zaA Tryz.prog P18:=zai (zbi fun n _ => zql n) (zai (zaM fun r n _ => has_call r n) (zai (zbi znm) (zai (zaM zmG) (zai (zaM fun t n _ => hour_call t n) (zai (zaM row_call) (zkq))))))
theorem zs3 (d:Option Nat):zaG P18 d = none:=(zag (by decide) d).trans ((zag (by decide) d).trans ((zag (by decide) d).trans ((zag (by decide) d).trans ((zag (by decide) d).trans ((zag (by decide) d).trans (zs4 d))))))
attribute [go_sem] P18 zs3
theorem zuc (r:Rg):(decide (r.lo ≤ r.hi) && inB r.lo 0 99 && inB r.hi 0 99) = zbm r:=by
 rw [Bool.eq_iff_iff]; simp [inB,zbm]; omega
theorem znJ (r:Rg):zaQ Tryz.prog 148 [Enc.enc r] (· = Enc.enc (zbm r)):=by
 simp only [zcq]
 refine cpz zoo Tryz.func148 zaC ?_
 rw [Tryz.ntmps148]
 simp only [Tryz.f148,zah,zam]
 simp (maxSteps:=4000000) only [go_sem,AV.one,zae,zac,zad,zan,zaq,zaa,czb,cza,↓reduceIte]
 rw [zuc]
theorem ztg (r:Rg) (n:Int):zaQ Tryz.prog 158 [Enc.enc r,Enc.enc n] (· = Enc.enc (zdt r n)):=by
 simp only [zcq]
 refine cpz zoo Tryz.func158 zaC ?_
 rw [Tryz.ntmps158]
 simp only [Tryz.f158,zah,zam]
 simp (maxSteps:=4000000) only [go_sem,AV.one,zae,zac,zad,zan,zaq,zaa,czb,cza,↓reduceIte,zhE]
 exact ⟨rfl,by simp,rfl⟩
theorem zua (t:Tb) (a b:Int):zaQ Tryz.prog 167 [Enc.enc t,Enc.enc a,Enc.enc b] (· = Enc.enc (inB a 0 t.last && inB b 0 t.last && decide (a ≤ b))):=by
 simp only [zcq]
 refine cpz zoo Tryz.func167 zaC ?_
 rw [Tryz.ntmps167]
 simp only [Tryz.f167,zah,zam]
 simp (maxSteps:=4000000) only [go_sem,AV.one,zae,zac,zad,zan,zaq,zaa,czb,cza,↓reduceIte]
theorem znI (s:Arr 10) (a b:Int) (h:0 ≤ a ∧ a ≤ b ∧ b ≤ 9):zaQ Tryz.prog 160 [Enc.enc s,Enc.enc a,Enc.enc b] (· = Enc.enc (zkS s.l a b)):=by
 have h0:=s.h
 obtain ⟨a,rfl⟩:=czu h.1
 obtain ⟨b,rfl⟩:=czu (show 0 ≤ b by omega)
 have e:((b:Int) + 1 - a).toNat = b + 1 - a:=by omega
 have hc:=zpD (l:=s.l) (off:=a) (len:=b + 1 - a) (by omega)
 have hm:((s.l.drop a).take (b + 1 - a)).length ≤ 4096:=by simp; omega
 have hn:(s.l.drop a).take (b + 1 - a) ≠ []:=by
  intro q
  have:=congrArg List.length q
  simp at this
  omega
 simp only [zcq]
 refine cpz zoo Tryz.func160 zaC ?_
 rw [Tryz.ntmps160]
 simp only [Tryz.f160,zah,zam]
 simp (maxSteps:=4000000) only [go_sem,AV.one,zae,zac,zad,zan,zaq,zaa,czb,cza,↓reduceIte,e,hc]
 refine ⟨(by simp only [InR]; omega),⟨by omega,by omega,by omega,by omega⟩,⟨hn,hm⟩,?_⟩
 simp only [zkS,czF,e]
def zdv (t:Tb) (l:List Int) (out:List Int) (n:Nat):Bool:=(List.range n).all fun i => out.contains (i:Int) || zdQ l (at_ t.marks i)
theorem zjB (t:Tb) (l out:List Int) (n:Nat):zdv t l out (n + 1) = (zdv t l out n && (out.contains (n:Int) || zdQ l (at_ t.marks n))):=by
 simp [zdv,List.range_succ]
theorem zm9 {t:Tb} {l out:List Int} {n i:Nat} (h:i < n) (h1:out.contains (i:Int) = false) (h2:zdQ l (at_ t.marks i) = false):zdv t l out n = false:=by
 rw [zdv,List.all_eq_false]
 exact ⟨i,by simpa using h,by simp only [h1,h2]; simp⟩
def P19 (g:FuncId):=(zaz 148 (zcM (fun _ => True) zbm) (zaz 158 (zbE (fun _ _ => True) zdt) (zaz 167 (zeb (fun _ _ _ => True) (fun (t:Tb) a b => inB a 0 t.last && inB b 0 t.last && decide (a ≤ b))) (zaz 160 (zeb (fun (_:Arr 10) (a b:Int) => 0 ≤ a ∧ a ≤ b ∧ b ≤ 9) (fun s a b => zkS s.l a b)) (P18)))):zaJ) g
theorem P19_ok:zaA Tryz.prog P19:=zai (zbi fun n _ => znJ n) (zai (zaM fun r n _ => ztg r n) (zai (zb6 fun t a b _ => zua t a b) (zai (zb6 znI) (zoo))))
theorem zs2 (d:Option Nat):zaG P19 d = none:=(zag (by decide) d).trans ((zag (by decide) d).trans ((zag (by decide) d).trans ((zag (by decide) d).trans (zs3 d))))
attribute [go_sem] P19 zs2
theorem ztG (t:Tb) (s:Arr 10) (out:List Int) (h:(t.marks.length ≤ 4096 ∧ ∀ m ∈ t.marks,0 ≤ m.frm ∧ m.frm ≤ m.til ∧ m.til ≤ 9) ∧ out.length ≤ 4096):zaQ Tryz.prog 130 [Enc.enc t,Enc.enc s,Enc.enc out] (· = Enc.enc (zdv t s.l out t.marks.length)):=by
 have h0:=s.h
 have h1:=h.1.1
 have h2:=h.2
 simp only [zcq]
 refine cpz P19_ok Tryz.func130 zaC ?_
 rw [Tryz.ntmps130]
 simp only [Tryz.f130,zah,zam]
 simp (maxSteps:=4000000) only [go_sem,AV.one,zae,zac,zad,zan,zaq,zaa,czb,cza,↓reduceIte]
 refine zbG (t.marks.length) [] [2,4,6,10,11] (fun i => [(12,.int .i64 i)]) (fun _ m => m) (fun i => zdv t s.l out i = true) ?_ ?_ ?_ ?_
 ·simp [zdv]
 ·simp [AV.bare,zal,zaN,zaS,zak,zas,zaf,tokz1,lk,zaa,zcI]
 ·intro i hi hI
  have hm:=h.1.2 _ (zbs hi)
  have hs:=zjB t s.l out i
  cases c1:out.contains (i:Int) <;> cases c2:zdQ s.l (at_ t.marks i) <;>
   (have c2':=c2; unfold zdQ at c2'; simp (maxSteps:=4000000) only [go_sem,AV.one,zae,zac,zad,zan,zaq,zaa,czb,cza,↓reduceIte,zar hi,czH.2 hi,c1,c2'])
  all_goals all_goals (repeat' first | (with_reducible first | rfl | apply And.intro | assumption) | ((with_reducible show zaj _ _ = true); rfl)) <;> try first | omega | (simp only [InR]; omega)
  ·rw [zm9 hi c1 c2]
  all_goals
   refine nxt hi (by rw [hs,hI,c1,c2]; rfl) ?_
   simp [AV.bare,zal,zaN,zaS,zak,zas,zaf,tokz1,lk,zaa,zcI]
 ·intro hI
  simp (maxSteps:=4000000) only [go_sem,AV.one,zae,zac,zad,zan,zaq,zaa,czb,cza,↓reduceIte]
  rw [hI]
def zbr {α:Type} [Inhabited α] (p:α → Bool) (l:List α):Nat → Nat → Int
 | 0,_ => -1
 | f + 1,n => if p (at_ l n) then n else zbr p l f (n + 1)
theorem zeF {α:Type} [Inhabited α] (p:α → Bool) (l:List α):∀ f n,f + n = l.length → decide (0 ≤ zbr p l f n) = (l.drop n).any p
 | 0,n,h => by rw [czM (by omega)]; rfl
 | f + 1,n,h => by
  rw [zbr,zgj (show n < l.length by omega),List.any_cons]
  cases c:p (at_ l n)
  ·rw [if_neg (by simp),zeF p l f (n + 1) (by omega)]; rfl
  ·rw [if_pos rfl]; simp
theorem zio {α:Type} (p:α → Bool) (l:List α):(!l.any fun x => !p x) = l.all p:=by
 induction l with
 | nil => rfl
 | cons x l ih => rw [List.any_cons,List.all_cons,← ih]; cases p x <;> rfl
theorem mark_call (t:Tb) (m:Mk):zaQ Tryz.prog 146 [Enc.enc t,Enc.enc m] (· = Enc.enc (zeL t.last m)):=by
 simp only [zcq]
 refine cpz P19_ok Tryz.func146 zaC ?_
 rw [Tryz.ntmps146]
 simp only [Tryz.f146,zah,zam]
 simp (maxSteps:=4000000) only [go_sem,AV.one,zae,zac,zad,zan,zaq,zaa,czb,cza,↓reduceIte]
 rfl
def P20 (g:FuncId):=(zaz 146 (zbE (fun _ _ => True) (fun (t:Tb) m => zeL t.last m)) (zaz 130 (zeb (fun (t:Tb) (_:Arr 10) (out:List Int) => (t.marks.length ≤ 4096 ∧ ∀ m ∈ t.marks,0 ≤ m.frm ∧ m.frm ≤ m.til ∧ m.til ≤ 9) ∧ out.length ≤ 4096) (fun t s out => zdv t s.l out t.marks.length)) (P19)):zaJ) g
theorem P20_ok:zaA Tryz.prog P20:=zai (zaM fun t m _ => mark_call t m) (zai (zb6 ztG) (P19_ok))
theorem zs1 (d:Option Nat):zaG P20 d = none:=(zag (by decide) d).trans ((zag (by decide) d).trans (zs2 d))
attribute [go_sem] P20 zs1
theorem zuT (x:Rg) (f:FnL 148):zaQ Tryz.prog 169 [Enc.enc x,Enc.enc (RefC.mk f)] (· = Enc.enc (!zbm x)):=by
 simp only [zcq]
 refine cpz P20_ok Tryz.func169 zaC ?_
 rw [Tryz.ntmps169]
 simp only [Tryz.f169,zah,zam]
 simp (maxSteps:=4000000) only [go_sem,AV.one,zae,zac,zad,zan,zaq,zaa,czb,cza,↓reduceIte]
def P21 (g:FuncId):=(zaz 169 (zbE (fun _ _ => True) (fun (x:Rg) (f:RefC (FnL 148)) => let f:=f.x; !zbm x)) (P20):zaJ) g
theorem P21_ok:zaA Tryz.prog P21:=zai (zaM fun x f _ => zuT x f.x) (P20_ok)
theorem zsZ (d:Option Nat):zaG P21 d = none:=(zag (by decide) d).trans (zs1 d)
attribute [go_sem] P21 zsZ
theorem zuQ (l:List (Rg)) (f:FnC 169 (FnL 148)) (h:l.length ≤ 4096):zaQ Tryz.prog 178 [Enc.enc l,Enc.enc f] (· = Enc.enc (let f:=f.x; zbr (fun x => !zbm x) l l.length 0)):=by
 obtain ⟨f⟩:=f
 simp only [zcq]
 refine cpz P21_ok Tryz.func178 zaC ?_
 rw [Tryz.ntmps178]
 simp only [Tryz.f178,zah,zam]
 simp (maxSteps:=4000000) only [go_sem,AV.one,zae,zac,zad,zan,zaq,zaa,czb,cza,↓reduceIte]
 refine zbG (l.length) [] [0,1,4,7] (fun i => [(8,.int .i64 i)]) (fun _ m => m) (fun i => zbr (fun x => !zbm x) l (l.length - i) i = zbr (fun x => !zbm x) l l.length 0) ?_ ?_ ?_ ?_
 ·rfl
 ·simp [AV.bare,zal,zaN,zaS,zak,zas,zaf,tokz1,lk,zaa,zcI]
 ·intro i hi hI
  rw [show l.length - i = (l.length - (i + 1)) + 1 by omega,zbr] at hI
  cases c:zbm (at_ l i) <;>
   simp (maxSteps:=4000000) only [go_sem,AV.one,zae,zac,zad,zan,zaq,zaa,czb,cza,↓reduceIte,zar hi,czH.2 hi,c]
  all_goals all_goals (repeat' first | (with_reducible first | rfl | apply And.intro | assumption) | ((with_reducible show zaj _ _ = true); rfl)) <;> try first | omega | (simp only [InR]; omega)
  ·rw [c] at hI
   rw [← hI]; rfl
  ·rw [c] at hI
   refine nxt hi hI ?_
   simp [AV.bare,zal,zaN,zaS,zak,zas,zaf,tokz1,lk,zaa,zcI]
 ·intro hI
  simp (maxSteps:=4000000) only [go_sem,AV.one,zae,zac,zad,zan,zaq,zaa,czb,cza,↓reduceIte]
  rw [← hI]; simp [zbr]
def P22 (g:FuncId):=(zaz 178 (zbE (fun (l:List (Rg)) (_:FnC 169 (FnL 148)) => l.length ≤ 4096) (fun l f => let f:=f.x; zbr (fun x => !zbm x) l l.length 0)) (P21):zaJ) g
theorem P22_ok:zaA Tryz.prog P22:=zai (zaM zuQ) (P21_ok)
theorem zsY (d:Option Nat):zaG P22 d = none:=(zag (by decide) d).trans (zsZ d)
attribute [go_sem] P22 zsY
theorem zuR (l:List (Rg)) (f:FnC 169 (FnL 148)) (h:l.length ≤ 4096):zaQ Tryz.prog 168 [Enc.enc l,Enc.enc f] (· = Enc.enc (let f:=f.x; l.any (fun x => !zbm x))):=by
 obtain ⟨f⟩:=f
 simp only [zcq]
 refine cpz P22_ok Tryz.func168 zaC ?_
 rw [Tryz.ntmps168]
 simp only [Tryz.f168,zah,zam]
 simp (maxSteps:=4000000) only [go_sem,AV.one,zae,zac,zad,zan,zaq,zaa,czb,cza,↓reduceIte]
 all_goals (repeat' first | (with_reducible first | rfl | apply And.intro | assumption) | ((with_reducible show zaj _ _ = true); rfl)) <;> try first | omega | (simp only [InR]; omega)
 congr 1
 exact zeF (fun x => !zbm x) l l.length 0 (by omega)
def P23 (g:FuncId):=(zaz 168 (zbE (fun (l:List (Rg)) (_:FnC 169 (FnL 148)) => l.length ≤ 4096) (fun l f => let f:=f.x; l.any (fun x => !zbm x))) (P22):zaJ) g
theorem P23_ok:zaA Tryz.prog P23:=zai (zaM zuR) (P22_ok)
theorem zsX (d:Option Nat):zaG P23 d = none:=(zag (by decide) d).trans (zsY d)
attribute [go_sem] P23 zsX
theorem zuS (l:List (Rg)) (f:FnL 148) (h:l.length ≤ 4096):zaQ Tryz.prog 147 [Enc.enc l,Enc.enc f] (· = Enc.enc (l.all (fun x => zbm x))):=by
 simp only [zcq]
 refine cpz P23_ok Tryz.func147 zaC ?_
 rw [Tryz.ntmps147]
 simp only [Tryz.f147,zah,zam]
 simp (maxSteps:=4000000) only [go_sem,AV.one,zae,zac,zad,zan,zaq,zaa,czb,cza,↓reduceIte]
 all_goals (repeat' first | (with_reducible first | rfl | apply And.intro | assumption) | ((with_reducible show zaj _ _ = true); rfl)) <;> try first | omega | (simp only [InR]; omega)
 rw [zio]
def P24 (g:FuncId):=(zaz 147 (zbE (fun (l:List (Rg)) (_:FnL 148) => l.length ≤ 4096) (fun l f => l.all (fun x => zbm x))) (P23):zaJ) g
theorem P24_ok:zaA Tryz.prog P24:=zai (zaM zuS) (P23_ok)
theorem zsW (d:Option Nat):zaG P24 d = none:=(zag (by decide) d).trans (zsX d)
attribute [go_sem] P24 zsW
theorem zu1 (x:Int) (f:FnL 149):zaQ Tryz.prog 171 [Enc.enc x,Enc.enc (RefC.mk f)] (· = Enc.enc (!(fun n => inB n 0 99) x)):=by
 simp only [zcq]
 refine cpz P24_ok Tryz.func171 zaC ?_
 rw [Tryz.ntmps171]
 simp only [Tryz.f171,zah,zam]
 simp (maxSteps:=4000000) only [go_sem,AV.one,zae,zac,zad,zan,zaq,zaa,czb,cza,↓reduceIte]
def P25 (g:FuncId):=(zaz 171 (zbE (fun _ _ => True) (fun (x:Int) (f:RefC (FnL 149)) => let f:=f.x; !(fun n => inB n 0 99) x)) (P24):zaJ) g
theorem P25_ok:zaA Tryz.prog P25:=zai (zaM fun x f _ => zu1 x f.x) (P24_ok)
theorem zsV (d:Option Nat):zaG P25 d = none:=(zag (by decide) d).trans (zsW d)
attribute [go_sem] P25 zsV
theorem zuY (l:List (Int)) (f:FnC 171 (FnL 149)) (h:l.length ≤ 4096):zaQ Tryz.prog 179 [Enc.enc l,Enc.enc f] (· = Enc.enc (let f:=f.x; zbr (fun x => !(fun n => inB n 0 99) x) l l.length 0)):=by
 obtain ⟨f⟩:=f
 simp only [zcq]
 refine cpz P25_ok Tryz.func179 zaC ?_
 rw [Tryz.ntmps179]
 simp only [Tryz.f179,zah,zam]
 simp (maxSteps:=4000000) only [go_sem,AV.one,zae,zac,zad,zan,zaq,zaa,czb,cza,↓reduceIte]
 refine zbG (l.length) [] [0,1,4,7] (fun i => [(8,.int .i64 i)]) (fun _ m => m) (fun i => zbr (fun x => !(fun n => inB n 0 99) x) l (l.length - i) i = zbr (fun x => !(fun n => inB n 0 99) x) l l.length 0) ?_ ?_ ?_ ?_
 ·rfl
 ·simp [AV.bare,zal,zaN,zaS,zak,zas,zaf,tokz1,lk,zaa,zcI]
 ·intro i hi hI
  rw [show l.length - i = (l.length - (i + 1)) + 1 by omega,zbr] at hI
  cases c:(fun n => inB n 0 99) (at_ l i) <;>
   simp (maxSteps:=4000000) only [go_sem,AV.one,zae,zac,zad,zan,zaq,zaa,czb,cza,↓reduceIte,zar hi,czH.2 hi,c]
  all_goals all_goals (repeat' first | (with_reducible first | rfl | apply And.intro | assumption) | ((with_reducible show zaj _ _ = true); rfl)) <;> try first | omega | (simp only [InR]; omega)
  ·rw [c] at hI
   rw [← hI]; rfl
  ·rw [c] at hI
   refine nxt hi hI ?_
   simp [AV.bare,zal,zaN,zaS,zak,zas,zaf,tokz1,lk,zaa,zcI]
 ·intro hI
  simp (maxSteps:=4000000) only [go_sem,AV.one,zae,zac,zad,zan,zaq,zaa,czb,cza,↓reduceIte]
  rw [← hI]; simp [zbr]
def P26 (g:FuncId):=(zaz 179 (zbE (fun (l:List (Int)) (_:FnC 171 (FnL 149)) => l.length ≤ 4096) (fun l f => let f:=f.x; zbr (fun x => !(fun n => inB n 0 99) x) l l.length 0)) (P25):zaJ) g
theorem P26_ok:zaA Tryz.prog P26:=zai (zaM zuY) (P25_ok)
theorem zsU (d:Option Nat):zaG P26 d = none:=(zag (by decide) d).trans (zsV d)
attribute [go_sem] P26 zsU
theorem zuZ (l:List (Int)) (f:FnC 171 (FnL 149)) (h:l.length ≤ 4096):zaQ Tryz.prog 170 [Enc.enc l,Enc.enc f] (· = Enc.enc (let f:=f.x; l.any (fun x => !(fun n => inB n 0 99) x))):=by
 obtain ⟨f⟩:=f
 simp only [zcq]
 refine cpz P26_ok Tryz.func170 zaC ?_
 rw [Tryz.ntmps170]
 simp only [Tryz.f170,zah,zam]
 simp (maxSteps:=4000000) only [go_sem,AV.one,zae,zac,zad,zan,zaq,zaa,czb,cza,↓reduceIte]
 all_goals (repeat' first | (with_reducible first | rfl | apply And.intro | assumption) | ((with_reducible show zaj _ _ = true); rfl)) <;> try first | omega | (simp only [InR]; omega)
 congr 1
 exact zeF (fun x => !(fun n => inB n 0 99) x) l l.length 0 (by omega)
def P27 (g:FuncId):=(zaz 170 (zbE (fun (l:List (Int)) (_:FnC 171 (FnL 149)) => l.length ≤ 4096) (fun l f => let f:=f.x; l.any (fun x => !(fun n => inB n 0 99) x))) (P26):zaJ) g
theorem P27_ok:zaA Tryz.prog P27:=zai (zaM zuZ) (P26_ok)
theorem zsT (d:Option Nat):zaG P27 d = none:=(zag (by decide) d).trans (zsU d)
attribute [go_sem] P27 zsT
theorem zu0 (l:List (Int)) (f:FnL 149) (h:l.length ≤ 4096):zaQ Tryz.prog 150 [Enc.enc l,Enc.enc f] (· = Enc.enc (l.all (fun x => (fun n => inB n 0 99) x))):=by
 simp only [zcq]
 refine cpz P27_ok Tryz.func150 zaC ?_
 rw [Tryz.ntmps150]
 simp only [Tryz.f150,zah,zam]
 simp (maxSteps:=4000000) only [go_sem,AV.one,zae,zac,zad,zan,zaq,zaa,czb,cza,↓reduceIte]
 all_goals (repeat' first | (with_reducible first | rfl | apply And.intro | assumption) | ((with_reducible show zaj _ _ = true); rfl)) <;> try first | omega | (simp only [InR]; omega)
 rw [zio]
def P28 (g:FuncId):=(zaz 150 (zbE (fun (l:List (Int)) (_:FnL 149) => l.length ≤ 4096) (fun l f => l.all (fun x => (fun n => inB n 0 99) x))) (P27):zaJ) g
theorem P28_ok:zaA Tryz.prog P28:=zai (zaM zu0) (P27_ok)
theorem zsS (d:Option Nat):zaG P28 d = none:=(zag (by decide) d).trans (zsT d)
attribute [go_sem] P28 zsS
theorem zuX (x:Mk) (f:FnB 146 Tb):zaQ Tryz.prog 173 [Enc.enc x,Enc.enc (RefC.mk f)] (· = Enc.enc (!zeL f.x.last x)):=by
 simp only [zcq]
 refine cpz P28_ok Tryz.func173 zaC ?_
 rw [Tryz.ntmps173]
 simp only [Tryz.f173,zah,zam]
 simp (maxSteps:=4000000) only [go_sem,AV.one,zae,zac,zad,zan,zaq,zaa,czb,cza,↓reduceIte]
def P29 (g:FuncId):=(zaz 173 (zbE (fun _ _ => True) (fun (x:Mk) (f:RefC (FnB 146 Tb)) => let f:=f.x; !zeL f.x.last x)) (P28):zaJ) g
theorem P29_ok:zaA Tryz.prog P29:=zai (zaM fun x f _ => zuX x f.x) (P28_ok)
theorem zsR (d:Option Nat):zaG P29 d = none:=(zag (by decide) d).trans (zsS d)
attribute [go_sem] P29 zsR
theorem zuU (l:List (Mk)) (f:FnC 173 (FnB 146 Tb)) (h:l.length ≤ 4096):zaQ Tryz.prog 180 [Enc.enc l,Enc.enc f] (· = Enc.enc (let f:=f.x; zbr (fun x => !zeL f.x.last x) l l.length 0)):=by
 obtain ⟨f⟩:=f
 simp only [zcq]
 refine cpz P29_ok Tryz.func180 zaC ?_
 rw [Tryz.ntmps180]
 simp only [Tryz.f180,zah,zam]
 simp (maxSteps:=4000000) only [go_sem,AV.one,zae,zac,zad,zan,zaq,zaa,czb,cza,↓reduceIte]
 refine zbG (l.length) [] [0,1,4,7] (fun i => [(8,.int .i64 i)]) (fun _ m => m) (fun i => zbr (fun x => !zeL f.x.last x) l (l.length - i) i = zbr (fun x => !zeL f.x.last x) l l.length 0) ?_ ?_ ?_ ?_
 ·rfl
 ·simp [AV.bare,zal,zaN,zaS,zak,zas,zaf,tokz1,lk,zaa,zcI]
 ·intro i hi hI
  rw [show l.length - i = (l.length - (i + 1)) + 1 by omega,zbr] at hI
  cases c:zeL f.x.last (at_ l i) <;>
   simp (maxSteps:=4000000) only [go_sem,AV.one,zae,zac,zad,zan,zaq,zaa,czb,cza,↓reduceIte,zar hi,czH.2 hi,c]
  all_goals all_goals (repeat' first | (with_reducible first | rfl | apply And.intro | assumption) | ((with_reducible show zaj _ _ = true); rfl)) <;> try first | omega | (simp only [InR]; omega)
  ·rw [c] at hI
   rw [← hI]; rfl
  ·rw [c] at hI
   refine nxt hi hI ?_
   simp [AV.bare,zal,zaN,zaS,zak,zas,zaf,tokz1,lk,zaa,zcI]
 ·intro hI
  simp (maxSteps:=4000000) only [go_sem,AV.one,zae,zac,zad,zan,zaq,zaa,czb,cza,↓reduceIte]
  rw [← hI]; simp [zbr]
def P30 (g:FuncId):=(zaz 180 (zbE (fun (l:List (Mk)) (_:FnC 173 (FnB 146 Tb)) => l.length ≤ 4096) (fun l f => let f:=f.x; zbr (fun x => !zeL f.x.last x) l l.length 0)) (P29):zaJ) g
theorem P30_ok:zaA Tryz.prog P30:=zai (zaM zuU) (P29_ok)
theorem zsQ (d:Option Nat):zaG P30 d = none:=(zag (by decide) d).trans (zsR d)
attribute [go_sem] P30 zsQ
theorem zuV (l:List (Mk)) (f:FnC 173 (FnB 146 Tb)) (h:l.length ≤ 4096):zaQ Tryz.prog 172 [Enc.enc l,Enc.enc f] (· = Enc.enc (let f:=f.x; l.any (fun x => !zeL f.x.last x))):=by
 obtain ⟨f⟩:=f
 simp only [zcq]
 refine cpz P30_ok Tryz.func172 zaC ?_
 rw [Tryz.ntmps172]
 simp only [Tryz.f172,zah,zam]
 simp (maxSteps:=4000000) only [go_sem,AV.one,zae,zac,zad,zan,zaq,zaa,czb,cza,↓reduceIte]
 all_goals (repeat' first | (with_reducible first | rfl | apply And.intro | assumption) | ((with_reducible show zaj _ _ = true); rfl)) <;> try first | omega | (simp only [InR]; omega)
 congr 1
 exact zeF (fun x => !zeL f.x.last x) l l.length 0 (by omega)
def P31 (g:FuncId):=(zaz 172 (zbE (fun (l:List (Mk)) (_:FnC 173 (FnB 146 Tb)) => l.length ≤ 4096) (fun l f => let f:=f.x; l.any (fun x => !zeL f.x.last x))) (P30):zaJ) g
theorem P31_ok:zaA Tryz.prog P31:=zai (zaM zuV) (P30_ok)
theorem zsP (d:Option Nat):zaG P31 d = none:=(zag (by decide) d).trans (zsQ d)
attribute [go_sem] P31 zsP
theorem zuW (l:List (Mk)) (f:FnB 146 Tb) (h:l.length ≤ 4096):zaQ Tryz.prog 151 [Enc.enc l,Enc.enc f] (· = Enc.enc (l.all (fun x => zeL f.x.last x))):=by
 simp only [zcq]
 refine cpz P31_ok Tryz.func151 zaC ?_
 rw [Tryz.ntmps151]
 simp only [Tryz.f151,zah,zam]
 simp (maxSteps:=4000000) only [go_sem,AV.one,zae,zac,zad,zan,zaq,zaa,czb,cza,↓reduceIte]
 all_goals (repeat' first | (with_reducible first | rfl | apply And.intro | assumption) | ((with_reducible show zaj _ _ = true); rfl)) <;> try first | omega | (simp only [InR]; omega)
 rw [zio]
def P32 (g:FuncId):=(zaz 151 (zbE (fun (l:List (Mk)) (_:FnB 146 Tb) => l.length ≤ 4096) (fun l f => l.all (fun x => zeL f.x.last x))) (P31):zaJ) g
theorem zsN:zaA Tryz.prog P32:=zai (zaM zuW) (P31_ok)
theorem zsO (d:Option Nat):zaG P32 d = none:=(zag (by decide) d).trans (zsP d)
attribute [go_sem] P32 zsO
instance {α β:Type} [Enc α] [Enc β]:Enc (α × β) where
 enc p:=.tup [Enc.enc p.1,Enc.enc p.2]
 dec
  | .tup [a,b] => match (Enc.dec a:Option α),(Enc.dec b:Option β) with
   | some a,some b => some (a,b)
   | _,_ => none
  | _ => none
 law v x h:=by
  split at h
  ·split at h
   ·rename_i h1 h2
    cases h
    rw [Enc.law _ _ h1,Enc.law _ _ h2]
   ·cases h
  ·cases h
 dep:=max (Enc.dep α) (Enc.dep β) + 1
 ok x:=by
  have key:∀ n m (v:AV),zbp n v → n ≤ m → zbp m v:=by
   intro n
   induction n with
   | zero => intro m v h; simp [zbp] at h
   | succ n ih =>
    intro m v h hm
    obtain ⟨m,rfl⟩:∃ k,m = k + 1:=⟨m - 1,by omega⟩
    cases v <;> simp only [zbp] at h ⊢
    ·exact fun c hc => ih m c (h c hc) (by omega)
    ·exact fun c hc => ih m c (h c hc) (by omega)
    ·exact ⟨h.1,fun e he c hc => ih m c (h.2 e he c hc) (by omega)⟩
    ·exact fun c hc => ih m c (h c hc) (by omega)
    ·exact ⟨fun c hc => ih m c (h.1 c hc) (by omega),fun c hc => ih m c (h.2 c hc) (by omega)⟩
    ·exact fun c hc => ih m c (h c hc) (by omega)
  simp only [zbp,czn,czk,or_false,forall_eq_or_imp,forall_eq]
  exact ⟨key _ _ _ (Enc.ok x.1) (by omega),key _ _ _ (Enc.ok x.2) (by omega)⟩
theorem zab {α β:Type} [Enc α] [Enc β] (p:α × β):Enc.enc p = .tup [Enc.enc p.1,Enc.enc p.2]:=rfl
theorem zcB (k:IntKind) (n:Int):(AV.int k n).one = true:=rfl
def zdc (t:Tb) (l:List Int) (h:Int):Bool:=decide (h = 0) || inB (at_ l h.toNat - at_ l (h - 1).toNat) (-t.step) t.step
theorem near_call (t:Tb) (s:Arr 10) (h:Int) (hp:((0 ≤ t.step ∧ t.step ≤ 99) ∧ 0 ≤ h ∧ h ≤ 9) ∧ (0 ≤ at_ s.l h.toNat ∧ at_ s.l h.toNat ≤ 99) ∧ (h ≠ 0 → 0 ≤ at_ s.l (h - 1).toNat ∧ at_ s.l (h - 1).toNat ≤ 99)) :
  zaQ Tryz.prog 156 [Enc.enc t,Enc.enc s,Enc.enc h] (· = Enc.enc (zdc t s.l h)):=by
 have h0:=s.h
 have e1:=zff (l:=s.l) (i:=h.toNat) (by omega)
 have e2:=zff (l:=s.l) (i:=(h - 1).toNat) (by omega)
 cases c:decide (h = 0)
 ·have hq:=hp.2.2 (by simpa using c)
  simp only [zcq]
  refine cpz zsN Tryz.func156 zaC ?_
  rw [Tryz.ntmps156]
  simp only [Tryz.f156,zah,zam]
  simp (maxSteps:=4000000) only [go_sem,AV.one,zae,zac,zad,zan,zaq,zaa,czb,cza,↓reduceIte,e1,e2,c]
  all_goals (repeat' first | (with_reducible first | rfl | apply And.intro | assumption) | ((with_reducible show zaj _ _ = true); rfl)) <;> try first | omega | (simp only [InR]; omega)
  ·simp at c; omega
  ·simp [zdc,c]
 ·simp only [zcq]
  refine cpz zsN Tryz.func156 zaC ?_
  rw [Tryz.ntmps156]
  simp only [Tryz.f156,zah,zam]
  simp (maxSteps:=4000000) only [go_sem,AV.one,zae,zac,zad,zan,zaq,zaa,czb,cza,↓reduceIte,e1,e2,c]
  all_goals (repeat' first | (with_reducible first | rfl | apply And.intro | assumption) | ((with_reducible show zaj _ _ = true); rfl)) <;> try first | omega | (simp only [InR]; omega)
  simp [zdc,c]
theorem wet_call (t:Tb) (s:Arr 10) (level:Int) (h:0 ≤ t.last ∧ t.last ≤ 9):zaQ Tryz.prog 116 [Enc.enc t,Enc.enc s,Enc.enc level] (· = Enc.enc (zky s.l level (t.last + 1).toNat)):=by
 have h0:=s.h
 obtain ⟨k,hk⟩:=czu h.1
 have e:(t.last + 1 - 0).toNat = k + 1:=by omega
 have e':(t.last + 1).toNat = k + 1:=by omega
 rw [e']
 simp only [zcq]
 refine cpz zsN Tryz.func116 zaC ?_
 rw [Tryz.ntmps116]
 simp only [Tryz.f116,zah,zam]
 simp (maxSteps:=4000000) only [go_sem,AV.one,zae,zac,zad,zan,zaq,zaa,czb,cza,↓reduceIte,e]
 refine ⟨(by simp only [InR]; omega),⟨by omega,by omega,by omega⟩,?_⟩
 refine zbG (k + 1) [.slot 6 1] [2,12,13] (fun i => [(14,.int .i64 i),(6,.sl ((zky s.l level i).map EncE.cs) (.own 2))]) (fun i m => m.set 2 (.tok (zky s.l level i).length 1)) (fun _ => True) ?_ ?_ ?_ ?_
 ·trivial
 ·simp [AV.bare,zal,zaN,zaS,zak,zas,zaf,tokz1,lk,zaa,zcI,zky]
 ·intro i hi _
  have hw:=zi0 s.l level i
  have e1:=zff (l:=s.l) (i:=i) (by omega)
  cases c:decide (level < at_ s.l i) <;>
   simp (maxSteps:=4000000) only [go_sem,AV.one,zae,zac,zad,zan,zaq,zaa,czb,cza,↓reduceIte,e1,czH.2 hi,c]
  all_goals all_goals (repeat' first | (with_reducible first | rfl | apply And.intro | assumption) | ((with_reducible show zaj _ _ = true); rfl)) <;> try first | omega | (simp only [InR]; omega)
  all_goals
   refine nxt hi trivial ?_
   simp at c
   simp [AV.bare,zal,zaN,zaS,zak,zas,zaf,tokz1,lk,zaa,zcI,wetN_succ,c]
   try (intro q; omega)
   try omega
 ·intro _
  simp (maxSteps:=4000000) only [go_sem,AV.one,zae,zac,zad,zan,zaq,zaa,czb,cza,↓reduceIte]
def P33 (g:FuncId):=(zaz 156 (zeb (fun (t:Tb) (s:Arr 10) (h:Int) => ((0 ≤ t.step ∧ t.step ≤ 99) ∧ 0 ≤ h ∧ h ≤ 9) ∧ (0 ≤ at_ s.l h.toNat ∧ at_ s.l h.toNat ≤ 99) ∧ (h ≠ 0 → 0 ≤ at_ s.l (h - 1).toNat ∧ at_ s.l (h - 1).toNat ≤ 99)) (fun t s h => zdc t s.l h)) (zaz 116 (zeb (fun (t:Tb) (_:Arr 10) (_:Int) => 0 ≤ t.last ∧ t.last ≤ 9) (fun t s level => zky s.l level (t.last + 1).toNat)) (P32)):zaJ) g
theorem P33_ok:zaA Tryz.prog P33:=zai (zb6 near_call) (zai (zb6 wet_call) (zsN))
theorem zsM (d:Option Nat):zaG P33 d = none:=(zag (by decide) d).trans ((zag (by decide) d).trans (zsO d))
attribute [go_sem] P33 zsM
structure VOk (t:Tb):Prop where
 hok:HOk t
 mok:MOk t
 last:(t.heights.length:Int) = t.last + 1
 lv:t.levels.length ≤ 6
 lvb:∀ x ∈ t.levels,0 ≤ x ∧ x ≤ 99
 many:zc5 t.heights ≤ 2000
 some:zce t ≠ []
theorem VOk.l0 {t:Tb} (h:VOk t):0 ≤ t.last + 1:=by have:=h.last; omega
theorem VOk.l9 {t:Tb} (h:VOk t):t.last ≤ 9:=by have:=h.last; have:=h.hok.len; omega
def zdf (l:List Int):List Int:=l.take 10 ++ List.replicate (10 - l.length) 0
def ze4 (l:List Int):Arr 10:=⟨zdf l,by simp [zdf]; omega⟩
def zeroA10:Arr 10:=⟨List.replicate 10 0,by simp⟩
theorem zgS {l:List Int} {i:Nat} (h:i < l.length) (h10:i < 10):at_ (zdf l) i = at_ l i:=by
 unfold zdf
 rw [zkM (by simp; omega)]
 simp [at_,List.getD,h10]
def zdd (t:Tb) (l:List Int):Arr 10 × Bool:=if (l.length:Int) = t.last + 1 then (ze4 l,za8 t l) else (zeroA10,false)
theorem zjK {t:Tb} {l:List Int} {i:Nat} (hi:i < l.length) (h10:i < 10):zcC t.step (l.take (i + 1)) = (zcC t.step (l.take i) && zdc t (zdf l) i):=by
 cases i with
 | zero =>
  cases l with
  | nil => simp at hi
  | cons x l => simp [zcC,zdc]
 | succ i =>
  rw [zk8 _ _ _ hi]
  congr 1
  have e0:((i + 1:Nat):Int).toNat = i + 1:=by omega
  have e1:(((i + 1:Nat):Int) - 1).toNat = i:=by omega
  unfold zdc
  rw [e0,e1,zgS hi h10,zgS (show i < l.length by omega) (by omega),Bool.eq_iff_iff]
  simp [inB]
  omega
theorem zl9 {t:Tb} {l:List Int} {i:Nat} (hi:i < l.length) (h10:i < 10) (h:zdc t (zdf l) i = false):za8 t l = false:=by
 cases c:za8 t l
 ·rfl
 ·simp only [za8,czl] at c
  have:=zie t.step l (i + 1) c.2.2
  rw [zjK hi h10,h] at this
  simp at this
theorem zqc (t:Tb) (l:List Int) (h:(HOk t ∧ (t.heights.length:Int) = t.last + 1 ∧ 0 ≤ t.last) ∧ l.length ≤ 4096):zaQ Tryz.prog 115 [Enc.enc t,Enc.enc l] (· = Enc.enc (zdd t l)):=by
 obtain ⟨⟨hok,hl,h0⟩,hl4⟩:=h
 have hl9:t.last ≤ 9:=by have:=hok.len; omega
 have hz:=hok.s0
 have hz1:=hok.s1
 simp only [zab]
 cases c:decide ((l.length:Int) = t.last + 1)
 ·have e:zdd t l = (zeroA10,false):=by unfold zdd; rw [if_neg (by simpa using c)]
  rw [e]
  simp only [zcq]
  refine cpz P33_ok Tryz.func115 zaC ?_
  rw [Tryz.ntmps115]
  simp only [Tryz.f115,zah,zam]
  simp (maxSteps:=4000000) only [go_sem,AV.one,zae,zac,zad,zan,zaq,zaa,czb,cza,↓reduceIte,c]
  all_goals (repeat' first | (with_reducible first | rfl | apply And.intro | assumption) | ((with_reducible show zaj _ _ = true); rfl)) <;> try first | omega | (simp only [InR]; omega)
  all_goals rfl
 ·have e:zdd t l = (ze4 l,za8 t l):=by unfold zdd; rw [if_pos (by simpa using c)]
  rw [e]
  have hlen:(l.length:Int) = t.last + 1:=by simpa using c
  have e10:(((10:Nat):Int) - 0).toNat = 10:=rfl
  have hflat:(List.take 10 (List.map EncE.cs l)).flatten ++ List.drop (List.take 10 (List.map EncE.cs l)).flatten.length
    [AV.int IntKind.i64 0,AV.int IntKind.i64 0,AV.int IntKind.i64 0,AV.int IntKind.i64 0,AV.int IntKind.i64 0,AV.int IntKind.i64 0,AV.int IntKind.i64 0,AV.int IntKind.i64 0,AV.int IntKind.i64 0,AV.int IntKind.i64 0] = (ze4 l).l.map (AV.int .i64):=by
   rw [← List.map_take,flat_ints,show [AV.int IntKind.i64 0,AV.int IntKind.i64 0,AV.int IntKind.i64 0,AV.int IntKind.i64 0,AV.int IntKind.i64 0,AV.int IntKind.i64 0,AV.int IntKind.i64 0,AV.int IntKind.i64 0,AV.int IntKind.i64 0,AV.int IntKind.i64 0] = (List.replicate 10 (0:Int)).map (AV.int .i64) from rfl,← List.map_drop,← List.map_append,List.drop_replicate]
   unfold ze4 zdf
   simp
   omega
  have hp:=(ze4 l).h
  have hd:(ze4 l).l.drop 10 = []:=czM (by omega)
  have hps:(ze4 l).l = zdf l:=rfl
  simp only [zcq]
  refine cpz P33_ok Tryz.func115 zaC ?_
  rw [Tryz.ntmps115]
  simp only [Tryz.f115,zah,zam]
  simp (maxSteps:=4000000) only [go_sem,zae,zac,zad,zan,zaq,zaa,czb,cza,↓reduceIte,c,e10,hflat,zcB]
  refine ⟨(by simp only [InR]; omega),⟨by omega,by omega⟩,?_,?_⟩
  ·intro x hx c hc
   obtain ⟨y,_,rfl⟩:=czx.1 hx
   simp only [zeg,czn,czk,or_false] at hc
   subst hc
   exact ⟨rfl,rfl⟩
  refine zbG (l.length) [] [2,4,5,18,19] (fun i => [(20,.int .i64 i)]) (fun _ m => m) (fun i => ((zhf l t.heights).take i).all id = true ∧ zcC t.step (l.take i) = true) ?_ ?_ ?_ ?_
  ·simp [zcC]
  ·simp [AV.bare,zal,zaN,zaS,zak,zas,zaf,tokz1,lk,zaa,zcI]
  ·intro i hi hI
   have h2:i < t.heights.length:=by omega
   have h3:i < (zhf l t.heights).length:=by rw [zeN]; omega
   have hz3:=zgV hi h2
   have hat:=zgS hi (by omega)
   have hr:=hok.h _ (zbs h2)
   have hnr:=zjK (t:=t) hi (by omega)
   rw [← hps] at hat hnr
   have hprev:(i:Int) ≠ 0 → 0 ≤ at_ (ze4 l).l ((i:Int) - 1).toNat ∧ at_ (ze4 l).l ((i:Int) - 1).toNat ≤ 99:=by
    intro q
    have e1:((i:Int) - 1).toNat = i - 1:=by omega
    have hz4:=zgV (show i - 1 < l.length by omega) (show i - 1 < t.heights.length by omega)
    have hr2:=hok.h _ (zbs (show i - 1 < t.heights.length by omega))
    have hm:at_ (zhf l t.heights) (i - 1) = true:=by
     have:=czG.1 hI.1 (at_ (zhf l t.heights) (i - 1)) (by
      rw [zdi (show i - 1 < (zhf l t.heights).length by omega)]
      exact List.mem_take_iff_getElem.2 ⟨i - 1,by omega,rfl⟩)
     exact this
    rw [hz4] at hm
    have:=(zbL _ _ _).1 hm
    rw [e1,hps,zgS (show i - 1 < l.length by omega) (by omega)]
    omega
   cases c1:inB (at_ l i) (at_ t.heights i).lo (at_ t.heights i).hi
   ·simp (maxSteps:=4000000) only [go_sem,zae,zac,zad,zan,zaq,zaa,czb,cza,↓reduceIte,zar hi,zar h2,czH.2 hi,c1,hp,hd,zcB]
    all_goals (repeat' first | (with_reducible first | rfl | apply And.intro | assumption) | ((with_reducible show zaj _ _ = true); rfl)) <;> try first | omega | (simp only [InR]; omega)
    rw [za8,zfO h3 (by rw [hz3,c1]; rfl)]; rfl
   ·have g1:=(zbL _ _ _).1 c1
    have g2:0 ≤ at_ (ze4 l).l i ∧ at_ (ze4 l).l i ≤ 99:=by rw [hat]; omega
    cases c2:zdc t (ze4 l).l i
    all_goals
     simp (maxSteps:=4000000) only [go_sem,zae,zac,zad,zan,zaq,zaa,czb,cza,↓reduceIte,zar hi,zar h2,czH.2 hi,c1,c2,hp,hd,zcB]
     all_goals (repeat' first | (with_reducible first | rfl | apply And.intro | assumption) | ((with_reducible show zaj _ _ = true); rfl)) <;> try first | omega | (simp only [InR]; omega)
    ·rw [zl9 hi (by omega) c2]
    ·refine nxt hi ⟨?_,?_⟩ ?_
     ·rw [zd4 h3,hI.1,hz3,c1]; rfl
     ·rw [hnr,hI.2,c2]; rfl
     ·simp [AV.bare,zal,zaN,zaS,zak,zas,zaf,tokz1,lk,zaa,zcI]
  ·intro hI
   simp (maxSteps:=4000000) only [go_sem,zae,zac,zad,zan,zaq,zaa,czb,cza,↓reduceIte,hp,hd,zcB]
   all_goals (repeat' first | (with_reducible first | rfl | apply And.intro | assumption) | ((with_reducible show zaj _ _ = true); rfl)) <;> try first | omega | (simp only [InR]; omega)
   have e1:(zhf l t.heights).take l.length = zhf l t.heights:=cze (by rw [zeN]; omega)
   rw [e1,czm] at hI
   rw [za8,hI.1,hI.2]
   simp; omega
def P34 (g:FuncId):=(zaz 115 (zbE (fun (t:Tb) (l:List Int) => (HOk t ∧ (t.heights.length:Int) = t.last + 1 ∧ 0 ≤ t.last) ∧ l.length ≤ 4096) zdd) (P33):zaJ) g
theorem zon:zaA Tryz.prog P34:=zai (zaM zqc) (P33_ok)
theorem zsL (d:Option Nat):zaG P34 d = none:=(zag (by decide) d).trans (zsM d)
attribute [go_sem] P34 zsL
end Go.Proofs
