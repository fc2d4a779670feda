/- The texts S5, S6, S7, S8, S9, joined. -/
import Derived.Test.YtilbconikmpadaaGreatG7
set_option linter.all false
namespace Go.Proofs
open Go.Fs
set_option maxHeartbeats 1000000
set_option maxRecDepth 8000
def P9 (g:FuncId):=(zas 69 (zcC (fun t => HOk t ∧ MOk t) zaS) (P8):zaJ) g
theorem P9_ok:zaz Tryz.prog P9:=zah (zbj zqT) (P8_ok)
theorem P9_flag (d:Option Nat):zaF P9 d = none:=(zag (by decide) d).trans (P8_flag d)
attribute [go_sem] P9 P9_flag
def zeh (l:List Int) (level:Int):Int :=
 match zgP l level with
 | [] => l.length
 | w :: _ => w
def zdt (r:Rg) (n:Int):Rg:=⟨min r.lo n,max r.hi n⟩
theorem zuG (r:Rg) (n:Int):zaP Tryz.prog 101 [Enc.enc r,Enc.enc n] (· = Enc.enc (zdt r n)):=by
 simp only [zcp]
 refine cpz P9_ok Tryz.func101 zaB ?_
 rw [Tryz.ntmps101]
 simp only [Tryz.f101,zai,zam]
 simp (maxSteps:=4000000) only [go_sem,AV.one,zae,zac,zad,zan,zaq,zaa,czb,cza,↓reduceIte]
 rfl
def zjX:Rg:=⟨1099511627776,-1⟩
theorem zuU:zaP Tryz.prog 100 [] (· = Enc.enc zjX):=by
 simp only [zcp]
 refine cpz P9_ok Tryz.func100 zaB ?_
 rw [Tryz.ntmps100]
 simp only [Tryz.f100,zai,zam]
 simp (maxSteps:=4000000) only [go_sem,AV.one,zae,zac,zad,zan,zaq,zaa,czb,cza,↓reduceIte]
 rfl
theorem zjU {α β:Type} [Inhabited α] {l:List α} {f:β → α → β} {b:β} {i:Nat} (h:i < l.length):(l.take (i + 1)).foldl f b = f ((l.take i).foldl f b) (at_ l i):=by
 rw [zaV h,List.foldl_append]; rfl
def P10 (g:FuncId):=(zas 101 (zbF (fun (_:Rg) (_:Int) => True) zdt) (zas 100 (zs2 zjX) (P9)):zaJ) g
theorem P10_ok:zaz Tryz.prog P10:=zah (zaM fun a b _ => zuG a b) (zah (zlw zuU) (P9_ok))
theorem zsN (d:Option Nat):zaF P10 d = none:=(zag (by decide) d).trans ((zag (by decide) d).trans (P9_flag d))
attribute [go_sem] P10 zsN
def zih (ls:List (List Int)) (hour:Int):Rg:=ls.foldl (fun r l => zdt r (at_ l hour.toNat)) zjX
def zrz (ls:List (List Int)) (level:Int):Rg:=ls.foldl (fun r l => zdt r (zeh l level)) zjX
def zgU (ls:List (List Int)) (level:Int) (hour:Nat):Int:=ls.foldl (fun n l => if level < at_ l hour then n + 1 else n) 0
def zlq (ls:List (List Int)) (level hour:Int):Int :=
 if zgU ls level hour.toNat = ls.length then 1 else if zgU ls level hour.toNat = 0 then 2 else 3
def zrN (ls:List (List Int)) (a b level:Int):Bool:=ls.all fun l => decide (zkJ l a b ≤ level)
def dryN (ls:List (List Int)) (a b:Int):Nat → Int → Int
 | 0,n => n
 | f + 1,n => if zrN ls a b n then n else dryN ls a b f (n + 1)
def dryL (ls:List (List Int)) (a b:Int):Int:=dryN ls a b 99 0
def P11:zaJ:=P10
theorem P11_app (g:FuncId):P11 g = (P10) g:=rfl
theorem P11_ok:zaz Tryz.prog P11:=P10_ok
attribute [go_sem] P11_app
theorem zsM (d:Option Nat):zaF P11 d = none:=zsN d
attribute [go_sem] zsM
def P12:zaJ:=P11
theorem P12_app (g:FuncId):P12 g = (P11) g:=rfl
theorem P12_ok:zaz Tryz.prog P12:=P11_ok
attribute [go_sem] P12_app
theorem zsL (d:Option Nat):zaF P12 d = none:=zsM d
attribute [go_sem] zsL
theorem bits64:((IntKind.i64.bits:Nat):Int) = 64:=rfl
def rb (l:List Int) (ms:List Mk):Nat → Nat
 | 0 => 0
 | n + 1 => if zdP l (at_ ms n) then rb l ms n ||| 2 ^ n else rb l ms n
def allN (t:Tb) (n:Nat):List Int:=((zcG t).take n).map fun l => (rb l t.marks t.marks.length:Int)
def allL (t:Tb):List Int:=allN t (zcG t).length
def canB (all:List Int) (marks:Int):Bool:=all.any fun x => decide (((x.toNat &&& marks.toNat:Nat):Int) = marks)
theorem any_take {α:Type} [Inhabited α] {l:List α} {p:α → Bool} {i:Nat} (h:i < l.length):(l.take (i + 1)).any p = ((l.take i).any p || p (at_ l i)):=by
 rw [zaV h,List.any_append]; simp
theorem any_at {α:Type} [Inhabited α] {l:List α} {p:α → Bool} {i:Nat} (h:i < l.length) (hp:p (at_ l i) = true):l.any p = true:=by
 rw [List.any_eq_true]; exact ⟨_,zbv h,hp⟩
def BOk (x:Int):Prop:=0 ≤ x ∧ x ≤ 511
theorem Can_call (all:List Int) (marks:Int) (h:(all.length ≤ 4096 ∧ ∀ x ∈ all,BOk x) ∧ BOk marks):zaP Tryz.prog 111 [Enc.enc all,Enc.enc marks] (· = Enc.enc (canB all marks)):=by
 have h1:=h.1.1
 have h2:=h.2
 unfold BOk at h2
 simp only [zcp]
 refine cpz P12_ok Tryz.func111 zaB ?_
 rw [Tryz.ntmps111]
 simp only [Tryz.f111,zai,zam]
 simp (maxSteps:=4000000) only [go_sem,AV.one,zae,zac,zad,zan,zaq,zaa,czb,cza,↓reduceIte]
 refine zbG (all.length) [] [0,1,4] (fun i => [(5,.int .i64 i)]) (fun _ m => m) (fun i => (all.take i).any (fun x => decide (((x.toNat &&& marks.toNat:Nat):Int) = marks)) = false) ?_ ?_ ?_ ?_
 ·simp
 ·simp [AV.bare,zal,zaN,zaR,zak,zar,zaf,tokz1,lk,zaa,zcL]
 ·intro i hi hI
  have hb:=h.1.2 _ (zbv hi)
  unfold BOk at hb
  cases c:decide ((((at_ all i).toNat &&& marks.toNat:Nat):Int) = marks) <;>
   simp (maxSteps:=4000000) only [go_sem,AV.one,zae,zac,zad,zan,zaq,zaa,czb,cza,↓reduceIte,zax hi,czH.2 hi,c]
  all_goals all_goals (repeat' first | (with_reducible first | rfl | apply And.intro | assumption) | ((with_reducible show zaj _ _ = true); rfl)) <;> try first | omega | (simp only [InR]; omega)
  ·refine nxt hi ?_ ?_
   ·rw [any_take hi,hI,c]; rfl
   ·simp [AV.bare,zal,zaN,zaR,zak,zar,zaf,tokz1,lk,zaa,zcL]
  ·rw [canB,any_at hi c]
 ·intro hI
  rw [czm] at hI
  simp (maxSteps:=4000000) only [go_sem,AV.one,zae,zac,zad,zan,zaq,zaa,czb,cza,↓reduceIte]
  rw [canB,hI]
def blN (b:Nat):Nat:=if b = 0 then 0 else b.log2 + 1
def zkB (b n:Nat):List Int:=((List.range n).filter fun p => b.testBit p).map fun p:Nat => (p:Int)
def zqz (b:Nat):List Int:=zkB b (blN b)
theorem zuf (b n:Nat):zkB b (n + 1) = zkB b n ++ (if b.testBit n then [(n:Int)] else []):=by
 simp only [zkB,List.range_succ,List.filter_append,List.map_append]
 cases c:b.testBit n <;> simp [List.filter,c]
theorem znM (b n:Nat):(zkB b n).length ≤ n:=by
 have:=List.length_filter_le (fun p => b.testBit p) (List.range n)
 simpa [zkB] using this
theorem blN_lt {b p:Nat} (h:p < blN b):0 < b / 2 ^ p:=by
 unfold blN at h
 split at h
 ·omega
 ·rename_i hb
  have:2 ^ p ≤ b:=(Nat.le_log2 hb).1 (by omega)
  exact Nat.div_pos this (Nat.two_pow_pos p)
theorem blN_end (b:Nat):b / 2 ^ blN b = 0:=by
 unfold blN
 split
 ·rename_i h; subst h; rfl
 ·rename_i h
  exact Nat.div_eq_of_lt ((Nat.log2_lt h).1 (by omega))
theorem blN_le {b:Nat} (h:b ≤ 511):blN b ≤ 9:=by
 unfold blN
 split
 ·omega
 ·rename_i hb
  have:=(Nat.log2_lt (k:=9) hb).2 (by omega)
  omega
theorem Bits_call (b:Int) (h:BOk b):zaP Tryz.prog 64 [Enc.enc b] (· = Enc.enc (zqz b.toNat)):=by
 have h0:=h.1
 have h1:=h.2
 obtain ⟨b,rfl⟩:=czu h.1
 have hl:=blN_le (b:=b) (by omega)
 have hdiv:∀ p:Nat,((b:Int) / 2 ^ p) = ((b / 2 ^ p:Nat):Int):=fun p => by simp
 simp only [zcp]
 refine cpz P12_ok Tryz.func64 zaB ?_
 rw [Tryz.ntmps64]
 simp only [Tryz.f64,zai,zam]
 simp (maxSteps:=4000000) only [go_sem,AV.one,zae,zac,zad,zan,zaq,zaa,czb,cza,↓reduceIte]
 refine zbG (blN b) [.slot 3 1] [0,2] (fun i => [(4,.int .i64 i),(3,.sl ((zkB b i).map EncE.cs) (.own 0))]) (fun i m => m.set 0 (.tok (zkB b i).length 1)) (fun _ => True) ?_ ?_ ?_ ?_
 ·trivial
 ·simp [AV.bare,zal,zaN,zaR,zak,zar,zaf,tokz1,lk,zaa,zcL,zkB]
 ·intro i hi _
  have hw:=znM b i
  have h3:=blN_lt hi
  have h4:(0:Int) < ((b / 2 ^ i:Nat):Int):=by omega
  have h5:=Nat.div_le_self b (2 ^ i)
  have h6:b.testBit i = decide (((b / 2 ^ i:Nat):Int) % 2 = 1):=by
   rw [Nat.testBit_eq_decide_div_mod_eq]
   congr 1
   simp only [eq_iff_iff]
   omega
  cases c:decide (((b / 2 ^ i:Nat):Int) % 2 = 1) <;>
   simp (maxSteps:=4000000) only [go_sem,AV.one,zae,zac,zad,zan,zaq,zaa,czb,cza,↓reduceIte,hdiv,h4,c,bits64]
  all_goals all_goals (repeat' first | (with_reducible first | rfl | apply And.intro | assumption) | ((with_reducible show zaj _ _ = true); rfl)) <;> try first | omega | (simp only [InR]; omega)
  all_goals
   refine nxt hi trivial ?_
   rw [c] at h6
   simp [AV.bare,zal,zaN,zaR,zak,zar,zaf,tokz1,lk,zaa,zcL,zuf,h6]
 ·intro _
  have h3:=blN_end b
  have hw:=znM b (blN b)
  simp (maxSteps:=4000000) only [go_sem,AV.one,zae,zac,zad,zan,zaq,zaa,czb,cza,↓reduceIte,hdiv,h3,bits64]
  all_goals (repeat' first | (with_reducible first | rfl | apply And.intro | assumption) | ((with_reducible show zaj _ _ = true); rfl)) <;> try first | omega | (simp only [InR]; omega)
  rfl
def P13 (g:FuncId):=(zas 111 (zbF (fun (all:List Int) (marks:Int) => (all.length ≤ 4096 ∧ ∀ x ∈ all,BOk x) ∧ BOk marks) canB) (zas 64 (zcC BOk (fun b => zqz b.toNat)) (P12)):zaJ) g
theorem P13_ok:zaz Tryz.prog P13:=zah (zaM Can_call) (zah (zbj Bits_call) (P12_ok))
theorem zsK (d:Option Nat):zaF P13 d = none:=(zag (by decide) d).trans ((zag (by decide) d).trans (zsL d))
attribute [go_sem] P13 zsK
def zb2:List Int → List Int → Bool
 | [],[] => false
 | [],_ :: _ => true
 | _ :: _,[] => false
 | a :: r,b :: s => if a = b then zb2 r s else decide (a < b)
theorem zgl {α:Type} [Inhabited α] {l:List α} {i:Nat} (h:i < l.length):l.drop i = at_ l i :: l.drop (i + 1):=by
 rw [zdk h]; exact List.drop_eq_getElem_cons h
theorem zrd (a b:List Int) (h:a.length ≤ 4096 ∧ b.length ≤ 4096):zaP Tryz.prog 119 [Enc.enc a,Enc.enc b] (· = Enc.enc (zb2 a b)):=by
 have h1:=h.1
 have h2:=h.2
 simp only [zcp]
 refine cpz P13_ok Tryz.func119 zaB ?_
 rw [Tryz.ntmps119]
 simp only [Tryz.f119,zai,zam]
 simp (maxSteps:=4000000) only [go_sem,AV.one,zae,zac,zad,zan,zaq,zaa,czb,cza,↓reduceIte]
 refine zbG (min a.length b.length) [] [0,1,4] (fun i => [(5,.int .i64 i)]) (fun _ m => m) (fun i => zb2 (a.drop i) (b.drop i) = zb2 a b) ?_ ?_ ?_ ?_
 ·rfl
 ·simp [AV.bare,zal,zaN,zaR,zak,zar,zaf,tokz1,lk,zaa,zcL]
 ·intro i hi hI
  have ha:i < a.length:=by omega
  have hb:i < b.length:=by omega
  rw [zgl ha,zgl hb,zb2] at hI
  cases c:decide (at_ a i = at_ b i) <;>
   simp (maxSteps:=4000000) only [go_sem,AV.one,zae,zac,zad,zan,zaq,zaa,czb,cza,↓reduceIte,zax ha,zax hb,czH.2 ha,czH.2 hb,c]
  all_goals all_goals (repeat' first | (with_reducible first | rfl | apply And.intro | assumption) | ((with_reducible show zaj _ _ = true); rfl)) <;> try first | omega | (simp only [InR]; omega)
  ·simp at c
   rw [if_neg c] at hI
   rw [← hI]
  ·simp at c
   rw [if_pos c] at hI
   refine nxt hi hI ?_
   simp [AV.bare,zal,zaN,zaR,zak,zar,zaf,tokz1,lk,zaa,zcL]
 ·intro hI
  have:a.drop (min a.length b.length) = [] ∨ b.drop (min a.length b.length) = []:=by
   rcases Nat.le_total a.length b.length with q | q
   ·left; exact czM (by omega)
   ·right; exact czM (by omega)
  have hr:decide ((a.length:Int) < b.length) = zb2 a b:=by
   rw [← hI]
   rcases Nat.lt_or_ge a.length b.length with q | q
   ·rw [show min a.length b.length = a.length by omega,List.drop_length,zgl q,zb2]; simpa using q
   ·rw [show min a.length b.length = b.length by omega,List.drop_length]
    have hd:decide ((a.length:Int) < b.length) = false:=by simp; omega
    rw [hd]
    cases List.drop b.length a <;> rfl
  cases c1:decide (((min a.length b.length:Nat):Int) < (a.length:Int)) <;> cases c2:decide (((min a.length b.length:Nat):Int) < (b.length:Int))
  ·simp (maxSteps:=4000000) only [go_sem,AV.one,zae,zac,zad,zan,zaq,zaa,czb,cza,↓reduceIte,c1,c2,hr]
  ·simp (maxSteps:=4000000) only [go_sem,AV.one,zae,zac,zad,zan,zaq,zaa,czb,cza,↓reduceIte,c1,c2,hr]
  ·simp (maxSteps:=4000000) only [go_sem,AV.one,zae,zac,zad,zan,zaq,zaa,czb,cza,↓reduceIte,c1,c2,hr]
  ·simp at c1 c2; omega
def zcP (a b:List Int):Bool:=decide ((a.length:Int) < b.length) || (decide ((a.length:Int) = b.length) && zb2 a b)
def P14 (g:FuncId):=(zas 119 (zbF (fun (a b:List Int) => a.length ≤ 4096 ∧ b.length ≤ 4096) zb2) (P13):zaJ) g
theorem P14_ok:zaz Tryz.prog P14:=zah (zaM zrd) (P13_ok)
theorem zsJ (d:Option Nat):zaF P14 d = none:=(zag (by decide) d).trans (zsK d)
attribute [go_sem] P14 zsJ
theorem zn0 (a b:List Int) (h:a.length ≤ 4096 ∧ b.length ≤ 4096):zaP Tryz.prog 63 [Enc.enc a,Enc.enc b] (· = Enc.enc (zcP a b)):=by
 have h1:=h.1
 have h2:=h.2
 simp only [zcp]
 refine cpz P14_ok Tryz.func63 zaB ?_
 rw [Tryz.ntmps63]
 simp only [Tryz.f63,zai,zam]
 simp (maxSteps:=4000000) only [go_sem,AV.one,zae,zac,zad,zan,zaq,zaa,czb,cza,↓reduceIte]
 refine ⟨fun q => ?_,?_⟩
 ·all_goals exact auz
 ·refine ⟨?_,rfl⟩
  cases decide ((a.length:Int) < b.length) <;> simp
def P15 (g:FuncId):=(zas 63 (zbF (fun (a b:List Int) => a.length ≤ 4096 ∧ b.length ≤ 4096) zcP) (P14):zaJ) g
theorem P15_ok:zaz Tryz.prog P15:=zah (zaM zn0) (P14_ok)
theorem zsI (d:Option Nat):zaF P15 d = none:=(zag (by decide) d).trans (zsJ d)
attribute [go_sem] P15 zsI
def firstN (all:List Int):Nat → Nat → Int
 | 0,_ => -1
 | f + 1,n => if canB all (2 * 2 ^ n - 1) then firstN all f (n + 1) else n
def firstL (t:Tb) (all:List Int):Int:=firstN all t.marks.length 0
def zhI (all:List Int) (full:Nat):Nat → List Int
 | 0 => zqz full
 | n + 1 => if zcP (zqz n) (zhI all full n) && canB all ((full - (full &&& n):Nat):Int) then zqz n else zhI all full n
def leaveL (t:Tb) (all:List Int):List Int:=zhI all (2 ^ t.marks.length - 1) (2 ^ t.marks.length)
def P16:zaJ:=P15
theorem P16_app (g:FuncId):P16 g = (P15) g:=rfl
theorem zlo:zaz Tryz.prog P16:=P15_ok
attribute [go_sem] P16_app
theorem zsH (d:Option Nat):zaF P16 d = none:=zsI d
attribute [go_sem] zsH
theorem zo0 (n lo hi:Int):zaP Tryz.prog 157 [Enc.enc n,Enc.enc lo,Enc.enc hi] (· = Enc.enc (inB n lo hi)):=by
 simp only [zcp]
 refine cpz zlo Tryz.func157 zaB ?_
 rw [Tryz.ntmps157]
 simp only [Tryz.f157,zai,zam]
 simp (maxSteps:=4000000) only [go_sem,AV.one,zae,zac,zad,zan,zaq,zaa,czb,cza,↓reduceIte]
 rfl
theorem size_call (r:Rg) (h:InR .i64 (r.hi - r.lo) ∧ InR .i64 (r.hi - r.lo + 1)):zaP Tryz.prog 153 [Enc.enc r] (· = Enc.enc (r.hi - r.lo + 1)):=by
 simp only [zcp]
 refine cpz zlo Tryz.func153 zaB ?_
 rw [Tryz.ntmps153]
 simp only [Tryz.f153,zai,zam]
 simp (maxSteps:=4000000) only [go_sem,AV.one,zae,zac,zad,zan,zaq,zaa,czb,cza,↓reduceIte]
 exact h
def zrD:List Int → Int
 | [] => 0
 | x :: r => r.foldl min x
theorem zhz (a b:Int):zrD [a,b] = min a b:=rfl
theorem minL_snoc (l:List Int) (x:Int) (h:l ≠ []):zrD (l ++ [x]) = min (zrD l) x:=by
 cases l with
 | nil => exact absurd rfl h
 | cons y r => simp [zrD,List.foldl_append]
theorem minL_take {l:List Int} {i:Nat} (h:i + 1 < l.length):zrD (l.take (i + 1 + 1)) = min (zrD (l.take (i + 1))) (at_ l (i + 1)):=by
 rw [zaV h,minL_snoc]
 intro q
 have:=congrArg List.length q
 rw [czO,czy] at this
 omega
theorem maxL_take {l:List Int} {i:Nat} (h:i + 1 < l.length):zoX (l.take (i + 1 + 1)) = max (zoX (l.take (i + 1))) (at_ l (i + 1)):=by
 rw [zaV h,zm7]
 intro q
 have:=congrArg List.length q
 rw [czO,czy] at this
 omega
theorem Min_call (l:List Int) (h:l ≠ [] ∧ l.length ≤ 4096):zaP Tryz.prog 174 [Enc.enc l] (· = Enc.enc (zrD l)):=by
 have hl:0 < l.length:=List.length_pos_iff.2 h.1
 have h2:=h.2
 simp only [zcp]
 refine cpz zlo Tryz.func174 zaB ?_
 rw [Tryz.ntmps174]
 simp only [Tryz.f174,zai,zam]
 simp (maxSteps:=4000000) only [go_sem,AV.one,zae,zac,zad,zan,zaq,zaa,czb,cza,↓reduceIte,zax hl,show ¬ ((l.length:Int) < 1) by omega,show (0:Int) < l.length by omega]
 refine zbG (l.length - 1) [] [0,2] (fun i => [(4,.int .i64 ((i + 1:Nat):Int)),(3,.int .i64 (zrD (l.take (i + 1))))]) (fun _ m => m) (fun _ => True) ?_ ?_ ?_ ?_
 ·trivial
 ·cases l with
  | nil => simp at hl
  | cons x l => simp [AV.bare,zal,zaN,zaR,zak,zar,zaf,tokz1,lk,zaa,zcL,zrD,at_]
 ·intro i hi _
  have hi2:i + 1 < l.length:=by omega
  simp (maxSteps:=4000000) only [go_sem,AV.one,zae,zac,zad,zan,zaq,zaa,czb,cza,↓reduceIte,zax hi2,czH.2 hi2]
  all_goals (repeat' first | (with_reducible first | rfl | apply And.intro | assumption) | ((with_reducible show zaj _ _ = true); rfl)) <;> try first | omega | (simp only [InR]; omega)
  refine nxt hi trivial ?_
  have:=minL_take hi2
  simp [AV.bare,zal,zaN,zaR,zak,zar,zaf,tokz1,lk,zaa,zcL,this]
 ·intro _
  have hn:¬ (((l.length - 1 + 1:Nat):Int) < l.length):=by omega
  simp (maxSteps:=4000000) only [go_sem,AV.one,zae,zac,zad,zan,zaq,zaa,czb,cza,↓reduceIte,hn]
  rw [cze (by omega)]
theorem Max_call (l:List Int) (h:l ≠ [] ∧ l.length ≤ 4096):zaP Tryz.prog 177 [Enc.enc l] (· = Enc.enc (zoX l)):=by
 have hl:0 < l.length:=List.length_pos_iff.2 h.1
 have h2:=h.2
 simp only [zcp]
 refine cpz zlo Tryz.func177 zaB ?_
 rw [Tryz.ntmps177]
 simp only [Tryz.f177,zai,zam]
 simp (maxSteps:=4000000) only [go_sem,AV.one,zae,zac,zad,zan,zaq,zaa,czb,cza,↓reduceIte,zax hl,show ¬ ((l.length:Int) < 1) by omega,show (0:Int) < l.length by omega]
 refine zbG (l.length - 1) [] [0,2] (fun i => [(4,.int .i64 ((i + 1:Nat):Int)),(3,.int .i64 (zoX (l.take (i + 1))))]) (fun _ m => m) (fun _ => True) ?_ ?_ ?_ ?_
 ·trivial
 ·cases l with
  | nil => simp at hl
  | cons x l => simp [AV.bare,zal,zaN,zaR,zak,zar,zaf,tokz1,lk,zaa,zcL,zoX,at_]
 ·intro i hi _
  have hi2:i + 1 < l.length:=by omega
  simp (maxSteps:=4000000) only [go_sem,AV.one,zae,zac,zad,zan,zaq,zaa,czb,cza,↓reduceIte,zax hi2,czH.2 hi2]
  all_goals (repeat' first | (with_reducible first | rfl | apply And.intro | assumption) | ((with_reducible show zaj _ _ = true); rfl)) <;> try first | omega | (simp only [InR]; omega)
  refine nxt hi trivial ?_
  have:=maxL_take hi2
  simp [AV.bare,zal,zaN,zaR,zak,zar,zaf,tokz1,lk,zaa,zcL,this]
 ·intro _
  have hn:¬ (((l.length - 1 + 1:Nat):Int) < l.length):=by omega
  simp (maxSteps:=4000000) only [go_sem,AV.one,zae,zac,zad,zan,zaq,zaa,czb,cza,↓reduceIte,hn]
  rw [cze (by omega)]
def zge (l:List Int) (x:Int):Nat → Nat → Int
 | 0,_ => -1
 | f + 1,n => if x = at_ l n then n else zge l x f (n + 1)
def zfK (l:List Int) (x:Int):Int:=zge l x l.length 0
theorem zuQ (l:List Int) (x:Int) (h:l.length ≤ 4096):zaP Tryz.prog 139 [Enc.enc l,Enc.enc x] (· = Enc.enc (zfK l x)):=by
 simp only [zcp]
 refine cpz zlo Tryz.func139 zaB ?_
 rw [Tryz.ntmps139]
 simp only [Tryz.f139,zai,zam]
 simp (maxSteps:=4000000) only [go_sem,AV.one,zae,zac,zad,zan,zaq,zaa,czb,cza,↓reduceIte]
 refine zbG (l.length) [] [0,1,4,7] (fun i => [(8,.int .i64 i)]) (fun _ m => m) (fun i => zge l x (l.length - i) i = zfK l x) ?_ ?_ ?_ ?_
 ·rfl
 ·simp [AV.bare,zal,zaN,zaR,zak,zar,zaf,tokz1,lk,zaa,zcL]
 ·intro i hi hI
  rw [show l.length - i = (l.length - (i + 1)) + 1 by omega,zge] at hI
  cases c:decide (x = at_ l i) <;>
   simp (maxSteps:=4000000) only [go_sem,AV.one,zae,zac,zad,zan,zaq,zaa,czb,cza,↓reduceIte,zax hi,czH.2 hi,c]
  all_goals all_goals (repeat' first | (with_reducible first | rfl | apply And.intro | assumption) | ((with_reducible show zaj _ _ = true); rfl)) <;> try first | omega | (simp only [InR]; omega)
  ·rw [if_neg (by simpa using c)] at hI
   refine nxt hi hI ?_
   simp [AV.bare,zal,zaN,zaR,zak,zar,zaf,tokz1,lk,zaa,zcL]
  ·rw [if_pos (by simpa using c)] at hI
   rw [← hI]
 ·intro hI
  simp (maxSteps:=4000000) only [go_sem,AV.one,zae,zac,zad,zan,zaq,zaa,czb,cza,↓reduceIte]
  rw [← hI]; simp [zge]
theorem zno (l:List Int) (x:Int):∀ f n,f + n = l.length → (0 ≤ zge l x f n ↔ x ∈ l.drop n)
 | 0,n,h => by rw [czM (by omega)]; simp [zge]
 | f + 1,n,h => by
  rw [zge,zgl (show n < l.length by omega)]
  by_cases c:x = at_ l n
  ·rw [if_pos c]; simp [c]
  ·rw [if_neg c,zno l x f (n + 1) (by omega)]; simp [c]
theorem index_mem (l:List Int) (x:Int):decide (0 ≤ zfK l x) = l.contains x:=by
 have:=zno l x l.length 0 (by omega)
 rw [List.drop_zero] at this
 unfold zfK
 by_cases c:x ∈ l <;> simp [this,c]
def P17 (g:FuncId):=(zas 157 (zec (fun _ _ _ => True) inB) (zas 153 (zcC (fun r:Rg => InR .i64 (r.hi - r.lo) ∧ InR .i64 (r.hi - r.lo + 1)) (fun r => r.hi - r.lo + 1)) (zas 174 (zcC (fun l:List Int => l ≠ [] ∧ l.length ≤ 4096) zrD) (zas 177 (zcC (fun l:List Int => l ≠ [] ∧ l.length ≤ 4096) zoX) (zas 139 (zbF (fun (l:List Int) (_:Int) => l.length ≤ 4096) zfK) (P16))))):zaJ) g
theorem zkg:zaz Tryz.prog P17:=zah (zb8 fun a b c _ => zo0 a b c) (zah (zbj size_call) (zah (zbj Min_call) (zah (zbj Max_call) (zah (zaM zuQ) (zlo)))))
theorem zsG (d:Option Nat):zaF P17 d = none:=(zag (by decide) d).trans ((zag (by decide) d).trans ((zag (by decide) d).trans ((zag (by decide) d).trans ((zag (by decide) d).trans (zsH d)))))
attribute [go_sem] P17 zsG
theorem zpZ (n:Int):zaP Tryz.prog 149 [Enc.enc n] (· = Enc.enc (inB n 0 99)):=by
 simp only [zcp]
 refine cpz zkg Tryz.func149 zaB ?_
 rw [Tryz.ntmps149]
 simp only [Tryz.f149,zai,zam]
 simp (maxSteps:=4000000) only [go_sem,AV.one,zae,zac,zad,zan,zaq,zaa,czb,cza,↓reduceIte]
theorem has_call (r:Rg) (n:Int):zaP Tryz.prog 155 [Enc.enc r,Enc.enc n] (· = Enc.enc (inB n r.lo r.hi)):=by
 simp only [zcp]
 refine cpz zkg Tryz.func155 zaB ?_
 rw [Tryz.ntmps155]
 simp only [Tryz.f155,zai,zam]
 simp (maxSteps:=4000000) only [go_sem,AV.one,zae,zac,zad,zan,zaq,zaa,czb,cza,↓reduceIte]
theorem zm4 (l:List Int) (h:l ≠ [] ∧ l.length ≤ 4096):zaP Tryz.prog 152 [Enc.enc l] (· = Enc.enc (zrD l)):=by
 simp only [zcp]
 refine cpz zkg Tryz.func152 zaB ?_
 rw [Tryz.ntmps152]
 simp only [Tryz.f152,zai,zam]
 simp (maxSteps:=4000000) only [go_sem,AV.one,zae,zac,zad,zan,zaq,zaa,czb,cza,↓reduceIte]
 exact h
theorem zmq (l:List Int) (x:Int) (h:l.length ≤ 4096):zaP Tryz.prog 96 [Enc.enc l,Enc.enc x] (· = Enc.enc (l.contains x)):=by
 simp only [zcp]
 refine cpz zkg Tryz.func96 zaB ?_
 rw [Tryz.ntmps96]
 simp only [Tryz.f96,zai,zam]
 simp (maxSteps:=4000000) only [go_sem,AV.one,zae,zac,zad,zan,zaq,zaa,czb,cza,↓reduceIte]
 refine ⟨h,?_⟩
 rw [index_mem]
theorem hour_call (t:Tb) (n:Int):zaP Tryz.prog 126 [Enc.enc t,Enc.enc n] (· = Enc.enc (inB n 0 t.last)):=by
 simp only [zcp]
 refine cpz zkg Tryz.func126 zaB ?_
 rw [Tryz.ntmps126]
 simp only [Tryz.f126,zai,zam]
 simp (maxSteps:=4000000) only [go_sem,AV.one,zae,zac,zad,zan,zaq,zaa,czb,cza,↓reduceIte]
theorem row_call (t:Tb) (n:Int) (h:t.levels.length ≤ 4096):zaP Tryz.prog 123 [Enc.enc t,Enc.enc n] (· = Enc.enc (inB n 0 (t.levels.length - 1))):=by
 simp only [zcp]
 refine cpz zkg Tryz.func123 zaB ?_
 rw [Tryz.ntmps123]
 simp only [Tryz.f123,zai,zam]
 simp (maxSteps:=4000000) only [go_sem,AV.one,zae,zac,zad,zan,zaq,zaa,czb,cza,↓reduceIte]
 all_goals exact auz
def P18 (g:FuncId):=(zas 149 (zcC (fun _ => True) (fun n => inB n 0 99)) (zas 155 (zbF (fun (_:Rg) (_:Int) => True) (fun r n => inB n r.lo r.hi)) (zas 152 (zcC (fun l:List Int => l ≠ [] ∧ l.length ≤ 4096) zrD) (zas 96 (zbF (fun (l:List Int) (_:Int) => l.length ≤ 4096) (fun l x => l.contains x)) (zas 126 (zbF (fun (_:Tb) (_:Int) => True) (fun t n => inB n 0 t.last)) (zas 123 (zbF (fun (t:Tb) (_:Int) => t.levels.length ≤ 4096) (fun t n => inB n 0 (t.levels.length - 1))) (P17)))))):zaJ) g
theorem zn3:zaz Tryz.prog P18:=zah (zbj fun n _ => zpZ n) (zah (zaM fun r n _ => has_call r n) (zah (zbj zm4) (zah (zaM zmq) (zah (zaM fun t n _ => hour_call t n) (zah (zaM row_call) (zkg))))))
theorem zsF (d:Option Nat):zaF P18 d = none:=(zag (by decide) d).trans ((zag (by decide) d).trans ((zag (by decide) d).trans ((zag (by decide) d).trans ((zag (by decide) d).trans ((zag (by decide) d).trans (zsG d))))))
attribute [go_sem] P18 zsF
theorem ztP (r:Rg):(decide (r.lo ≤ r.hi) && inB r.lo 0 99 && inB r.hi 0 99) = zbo r:=by
 rw [Bool.eq_iff_iff]; simp [inB,zbo]; omega
theorem znq (r:Rg):zaP Tryz.prog 148 [Enc.enc r] (· = Enc.enc (zbo r)):=by
 simp only [zcp]
 refine cpz zn3 Tryz.func148 zaB ?_
 rw [Tryz.ntmps148]
 simp only [Tryz.f148,zai,zam]
 simp (maxSteps:=4000000) only [go_sem,AV.one,zae,zac,zad,zan,zaq,zaa,czb,cza,↓reduceIte]
 rw [ztP]
theorem zsS (r:Rg) (n:Int):zaP Tryz.prog 158 [Enc.enc r,Enc.enc n] (· = Enc.enc (zdt r n)):=by
 simp only [zcp]
 refine cpz zn3 Tryz.func158 zaB ?_
 rw [Tryz.ntmps158]
 simp only [Tryz.f158,zai,zam]
 simp (maxSteps:=4000000) only [go_sem,AV.one,zae,zac,zad,zan,zaq,zaa,czb,cza,↓reduceIte,zhz]
 exact ⟨rfl,by simp,rfl⟩
theorem ztN (t:Tb) (a b:Int):zaP Tryz.prog 167 [Enc.enc t,Enc.enc a,Enc.enc b] (· = Enc.enc (inB a 0 t.last && inB b 0 t.last && decide (a ≤ b))):=by
 simp only [zcp]
 refine cpz zn3 Tryz.func167 zaB ?_
 rw [Tryz.ntmps167]
 simp only [Tryz.f167,zai,zam]
 simp (maxSteps:=4000000) only [go_sem,AV.one,zae,zac,zad,zan,zaq,zaa,czb,cza,↓reduceIte]
theorem znp (s:Arr 10) (a b:Int) (h:0 ≤ a ∧ a ≤ b ∧ b ≤ 9):zaP Tryz.prog 160 [Enc.enc s,Enc.enc a,Enc.enc b] (· = Enc.enc (zkJ s.l a b)):=by
 have h0:=s.h
 obtain ⟨a,rfl⟩:=czu h.1
 obtain ⟨b,rfl⟩:=czu (show 0 ≤ b by omega)
 have e:((b:Int) + 1 - a).toNat = b + 1 - a:=by omega
 have hc:=zph (l:=s.l) (off:=a) (len:=b + 1 - a) (by omega)
 have hm:((s.l.drop a).take (b + 1 - a)).length ≤ 4096:=by simp; omega
 have hn:(s.l.drop a).take (b + 1 - a) ≠ []:=by
  intro q
  have:=congrArg List.length q
  simp at this
  omega
 simp only [zcp]
 refine cpz zn3 Tryz.func160 zaB ?_
 rw [Tryz.ntmps160]
 simp only [Tryz.f160,zai,zam]
 simp (maxSteps:=4000000) only [go_sem,AV.one,zae,zac,zad,zan,zaq,zaa,czb,cza,↓reduceIte,e,hc]
 refine ⟨(by simp only [InR]; omega),⟨by omega,by omega,by omega,by omega⟩,⟨hn,hm⟩,?_⟩
 simp only [zkJ,czF,e]
def zdv (t:Tb) (l:List Int) (out:List Int) (n:Nat):Bool:=(List.range n).all fun i => out.contains (i:Int) || zdP l (at_ t.marks i)
theorem zjx (t:Tb) (l out:List Int) (n:Nat):zdv t l out (n + 1) = (zdv t l out n && (out.contains (n:Int) || zdP l (at_ t.marks n))):=by
 simp [zdv,List.range_succ]
theorem zmS {t:Tb} {l out:List Int} {n i:Nat} (h:i < n) (h1:out.contains (i:Int) = false) (h2:zdP l (at_ t.marks i) = false):zdv t l out n = false:=by
 rw [zdv,List.all_eq_false]
 exact ⟨i,by simpa using h,by simp only [h1,h2]; simp⟩
def P19 (g:FuncId):=(zas 148 (zcC (fun _ => True) zbo) (zas 158 (zbF (fun _ _ => True) zdt) (zas 167 (zec (fun _ _ _ => True) (fun (t:Tb) a b => inB a 0 t.last && inB b 0 t.last && decide (a ≤ b))) (zas 160 (zec (fun (_:Arr 10) (a b:Int) => 0 ≤ a ∧ a ≤ b ∧ b ≤ 9) (fun s a b => zkJ s.l a b)) (P18)))):zaJ) g
theorem P19_ok:zaz Tryz.prog P19:=zah (zbj fun n _ => znq n) (zah (zaM fun r n _ => zsS r n) (zah (zb8 fun t a b _ => ztN t a b) (zah (zb8 znp) (zn3))))
theorem zsE (d:Option Nat):zaF P19 d = none:=(zag (by decide) d).trans ((zag (by decide) d).trans ((zag (by decide) d).trans ((zag (by decide) d).trans (zsF d))))
attribute [go_sem] P19 zsE
theorem zti (t:Tb) (s:Arr 10) (out:List Int) (h:(t.marks.length ≤ 4096 ∧ ∀ m ∈ t.marks,0 ≤ m.frm ∧ m.frm ≤ m.til ∧ m.til ≤ 9) ∧ out.length ≤ 4096):zaP Tryz.prog 130 [Enc.enc t,Enc.enc s,Enc.enc out] (· = Enc.enc (zdv t s.l out t.marks.length)):=by
 have h0:=s.h
 have h1:=h.1.1
 have h2:=h.2
 simp only [zcp]
 refine cpz P19_ok Tryz.func130 zaB ?_
 rw [Tryz.ntmps130]
 simp only [Tryz.f130,zai,zam]
 simp (maxSteps:=4000000) only [go_sem,AV.one,zae,zac,zad,zan,zaq,zaa,czb,cza,↓reduceIte]
 refine zbG (t.marks.length) [] [2,4,6,10,11] (fun i => [(12,.int .i64 i)]) (fun _ m => m) (fun i => zdv t s.l out i = true) ?_ ?_ ?_ ?_
 ·simp [zdv]
 ·simp [AV.bare,zal,zaN,zaR,zak,zar,zaf,tokz1,lk,zaa,zcL]
 ·intro i hi hI
  have hm:=h.1.2 _ (zbv hi)
  have hs:=zjx t s.l out i
  cases c1:out.contains (i:Int) <;> cases c2:zdP s.l (at_ t.marks i) <;>
   (have c2':=c2; unfold zdP at c2'; simp (maxSteps:=4000000) only [go_sem,AV.one,zae,zac,zad,zan,zaq,zaa,czb,cza,↓reduceIte,zax hi,czH.2 hi,c1,c2'])
  all_goals all_goals (repeat' first | (with_reducible first | rfl | apply And.intro | assumption) | ((with_reducible show zaj _ _ = true); rfl)) <;> try first | omega | (simp only [InR]; omega)
  ·rw [zmS hi c1 c2]
  all_goals
   refine nxt hi (by rw [hs,hI,c1,c2]; rfl) ?_
   simp [AV.bare,zal,zaN,zaR,zak,zar,zaf,tokz1,lk,zaa,zcL]
 ·intro hI
  simp (maxSteps:=4000000) only [go_sem,AV.one,zae,zac,zad,zan,zaq,zaa,czb,cza,↓reduceIte]
  rw [hI]
def zbt {α:Type} [Inhabited α] (p:α → Bool) (l:List α):Nat → Nat → Int
 | 0,_ => -1
 | f + 1,n => if p (at_ l n) then n else zbt p l f (n + 1)
theorem zeC {α:Type} [Inhabited α] (p:α → Bool) (l:List α):∀ f n,f + n = l.length → decide (0 ≤ zbt p l f n) = (l.drop n).any p
 | 0,n,h => by rw [czM (by omega)]; rfl
 | f + 1,n,h => by
  rw [zbt,zgl (show n < l.length by omega),List.any_cons]
  cases c:p (at_ l n)
  ·rw [if_neg (by simp),zeC p l f (n + 1) (by omega)]; rfl
  ·rw [if_pos rfl]; simp
theorem zij {α:Type} (p:α → Bool) (l:List α):(!l.any fun x => !p x) = l.all p:=by
 induction l with
 | nil => rfl
 | cons x l ih => rw [List.any_cons,List.all_cons,← ih]; cases p x <;> rfl
theorem mark_call (t:Tb) (m:Mk):zaP Tryz.prog 146 [Enc.enc t,Enc.enc m] (· = Enc.enc (zeH t.last m)):=by
 simp only [zcp]
 refine cpz P19_ok Tryz.func146 zaB ?_
 rw [Tryz.ntmps146]
 simp only [Tryz.f146,zai,zam]
 simp (maxSteps:=4000000) only [go_sem,AV.one,zae,zac,zad,zan,zaq,zaa,czb,cza,↓reduceIte]
 rfl
def P20 (g:FuncId):=(zas 146 (zbF (fun _ _ => True) (fun (t:Tb) m => zeH t.last m)) (zas 130 (zec (fun (t:Tb) (_:Arr 10) (out:List Int) => (t.marks.length ≤ 4096 ∧ ∀ m ∈ t.marks,0 ≤ m.frm ∧ m.frm ≤ m.til ∧ m.til ≤ 9) ∧ out.length ≤ 4096) (fun t s out => zdv t s.l out t.marks.length)) (P19)):zaJ) g
theorem P20_ok:zaz Tryz.prog P20:=zah (zaM fun t m _ => mark_call t m) (zah (zb8 zti) (P19_ok))
theorem zsD (d:Option Nat):zaF P20 d = none:=(zag (by decide) d).trans ((zag (by decide) d).trans (zsE d))
attribute [go_sem] P20 zsD
theorem zuw (x:Rg) (f:FnL 148):zaP Tryz.prog 169 [Enc.enc x,Enc.enc (RefC.mk f)] (· = Enc.enc (!zbo x)):=by
 simp only [zcp]
 refine cpz P20_ok Tryz.func169 zaB ?_
 rw [Tryz.ntmps169]
 simp only [Tryz.f169,zai,zam]
 simp (maxSteps:=4000000) only [go_sem,AV.one,zae,zac,zad,zan,zaq,zaa,czb,cza,↓reduceIte]
def P21 (g:FuncId):=(zas 169 (zbF (fun _ _ => True) (fun (x:Rg) (f:RefC (FnL 148)) => let f:=f.x; !zbo x)) (P20):zaJ) g
theorem P21_ok:zaz Tryz.prog P21:=zah (zaM fun x f _ => zuw x f.x) (P20_ok)
theorem zsC (d:Option Nat):zaF P21 d = none:=(zag (by decide) d).trans (zsD d)
attribute [go_sem] P21 zsC
theorem zut (l:List (Rg)) (f:FnC 169 (FnL 148)) (h:l.length ≤ 4096):zaP Tryz.prog 178 [Enc.enc l,Enc.enc f] (· = Enc.enc (let f:=f.x; zbt (fun x => !zbo x) l l.length 0)):=by
 obtain ⟨f⟩:=f
 simp only [zcp]
 refine cpz P21_ok Tryz.func178 zaB ?_
 rw [Tryz.ntmps178]
 simp only [Tryz.f178,zai,zam]
 simp (maxSteps:=4000000) only [go_sem,AV.one,zae,zac,zad,zan,zaq,zaa,czb,cza,↓reduceIte]
 refine zbG (l.length) [] [0,1,4,7] (fun i => [(8,.int .i64 i)]) (fun _ m => m) (fun i => zbt (fun x => !zbo x) l (l.length - i) i = zbt (fun x => !zbo x) l l.length 0) ?_ ?_ ?_ ?_
 ·rfl
 ·simp [AV.bare,zal,zaN,zaR,zak,zar,zaf,tokz1,lk,zaa,zcL]
 ·intro i hi hI
  rw [show l.length - i = (l.length - (i + 1)) + 1 by omega,zbt] at hI
  cases c:zbo (at_ l i) <;>
   simp (maxSteps:=4000000) only [go_sem,AV.one,zae,zac,zad,zan,zaq,zaa,czb,cza,↓reduceIte,zax hi,czH.2 hi,c]
  all_goals all_goals (repeat' first | (with_reducible first | rfl | apply And.intro | assumption) | ((with_reducible show zaj _ _ = true); rfl)) <;> try first | omega | (simp only [InR]; omega)
  ·rw [c] at hI
   rw [← hI]; rfl
  ·rw [c] at hI
   refine nxt hi hI ?_
   simp [AV.bare,zal,zaN,zaR,zak,zar,zaf,tokz1,lk,zaa,zcL]
 ·intro hI
  simp (maxSteps:=4000000) only [go_sem,AV.one,zae,zac,zad,zan,zaq,zaa,czb,cza,↓reduceIte]
  rw [← hI]; simp [zbt]
def P22 (g:FuncId):=(zas 178 (zbF (fun (l:List (Rg)) (_:FnC 169 (FnL 148)) => l.length ≤ 4096) (fun l f => let f:=f.x; zbt (fun x => !zbo x) l l.length 0)) (P21):zaJ) g
theorem P22_ok:zaz Tryz.prog P22:=zah (zaM zut) (P21_ok)
theorem zsB (d:Option Nat):zaF P22 d = none:=(zag (by decide) d).trans (zsC d)
attribute [go_sem] P22 zsB
theorem zuu (l:List (Rg)) (f:FnC 169 (FnL 148)) (h:l.length ≤ 4096):zaP Tryz.prog 168 [Enc.enc l,Enc.enc f] (· = Enc.enc (let f:=f.x; l.any (fun x => !zbo x))):=by
 obtain ⟨f⟩:=f
 simp only [zcp]
 refine cpz P22_ok Tryz.func168 zaB ?_
 rw [Tryz.ntmps168]
 simp only [Tryz.f168,zai,zam]
 simp (maxSteps:=4000000) only [go_sem,AV.one,zae,zac,zad,zan,zaq,zaa,czb,cza,↓reduceIte]
 all_goals (repeat' first | (with_reducible first | rfl | apply And.intro | assumption) | ((with_reducible show zaj _ _ = true); rfl)) <;> try first | omega | (simp only [InR]; omega)
 congr 1
 exact zeC (fun x => !zbo x) l l.length 0 (by omega)
def P23 (g:FuncId):=(zas 168 (zbF (fun (l:List (Rg)) (_:FnC 169 (FnL 148)) => l.length ≤ 4096) (fun l f => let f:=f.x; l.any (fun x => !zbo x))) (P22):zaJ) g
theorem P23_ok:zaz Tryz.prog P23:=zah (zaM zuu) (P22_ok)
theorem zsA (d:Option Nat):zaF P23 d = none:=(zag (by decide) d).trans (zsB d)
attribute [go_sem] P23 zsA
theorem zuv (l:List (Rg)) (f:FnL 148) (h:l.length ≤ 4096):zaP Tryz.prog 147 [Enc.enc l,Enc.enc f] (· = Enc.enc (l.all (fun x => zbo x))):=by
 simp only [zcp]
 refine cpz P23_ok Tryz.func147 zaB ?_
 rw [Tryz.ntmps147]
 simp only [Tryz.f147,zai,zam]
 simp (maxSteps:=4000000) only [go_sem,AV.one,zae,zac,zad,zan,zaq,zaa,czb,cza,↓reduceIte]
 all_goals (repeat' first | (with_reducible first | rfl | apply And.intro | assumption) | ((with_reducible show zaj _ _ = true); rfl)) <;> try first | omega | (simp only [InR]; omega)
 rw [zij]
def P24 (g:FuncId):=(zas 147 (zbF (fun (l:List (Rg)) (_:FnL 148) => l.length ≤ 4096) (fun l f => l.all (fun x => zbo x))) (P23):zaJ) g
theorem P24_ok:zaz Tryz.prog P24:=zah (zaM zuv) (P23_ok)
theorem zsz (d:Option Nat):zaF P24 d = none:=(zag (by decide) d).trans (zsA d)
attribute [go_sem] P24 zsz
theorem zuE (x:Int) (f:FnL 149):zaP Tryz.prog 171 [Enc.enc x,Enc.enc (RefC.mk f)] (· = Enc.enc (!(fun n => inB n 0 99) x)):=by
 simp only [zcp]
 refine cpz P24_ok Tryz.func171 zaB ?_
 rw [Tryz.ntmps171]
 simp only [Tryz.f171,zai,zam]
 simp (maxSteps:=4000000) only [go_sem,AV.one,zae,zac,zad,zan,zaq,zaa,czb,cza,↓reduceIte]
def P25 (g:FuncId):=(zas 171 (zbF (fun _ _ => True) (fun (x:Int) (f:RefC (FnL 149)) => let f:=f.x; !(fun n => inB n 0 99) x)) (P24):zaJ) g
theorem P25_ok:zaz Tryz.prog P25:=zah (zaM fun x f _ => zuE x f.x) (P24_ok)
theorem zsy (d:Option Nat):zaF P25 d = none:=(zag (by decide) d).trans (zsz d)
attribute [go_sem] P25 zsy
theorem zuB (l:List (Int)) (f:FnC 171 (FnL 149)) (h:l.length ≤ 4096):zaP Tryz.prog 179 [Enc.enc l,Enc.enc f] (· = Enc.enc (let f:=f.x; zbt (fun x => !(fun n => inB n 0 99) x) l l.length 0)):=by
 obtain ⟨f⟩:=f
 simp only [zcp]
 refine cpz P25_ok Tryz.func179 zaB ?_
 rw [Tryz.ntmps179]
 simp only [Tryz.f179,zai,zam]
 simp (maxSteps:=4000000) only [go_sem,AV.one,zae,zac,zad,zan,zaq,zaa,czb,cza,↓reduceIte]
 refine zbG (l.length) [] [0,1,4,7] (fun i => [(8,.int .i64 i)]) (fun _ m => m) (fun i => zbt (fun x => !(fun n => inB n 0 99) x) l (l.length - i) i = zbt (fun x => !(fun n => inB n 0 99) x) l l.length 0) ?_ ?_ ?_ ?_
 ·rfl
 ·simp [AV.bare,zal,zaN,zaR,zak,zar,zaf,tokz1,lk,zaa,zcL]
 ·intro i hi hI
  rw [show l.length - i = (l.length - (i + 1)) + 1 by omega,zbt] at hI
  cases c:(fun n => inB n 0 99) (at_ l i) <;>
   simp (maxSteps:=4000000) only [go_sem,AV.one,zae,zac,zad,zan,zaq,zaa,czb,cza,↓reduceIte,zax hi,czH.2 hi,c]
  all_goals all_goals (repeat' first | (with_reducible first | rfl | apply And.intro | assumption) | ((with_reducible show zaj _ _ = true); rfl)) <;> try first | omega | (simp only [InR]; omega)
  ·rw [c] at hI
   rw [← hI]; rfl
  ·rw [c] at hI
   refine nxt hi hI ?_
   simp [AV.bare,zal,zaN,zaR,zak,zar,zaf,tokz1,lk,zaa,zcL]
 ·intro hI
  simp (maxSteps:=4000000) only [go_sem,AV.one,zae,zac,zad,zan,zaq,zaa,czb,cza,↓reduceIte]
  rw [← hI]; simp [zbt]
def P26 (g:FuncId):=(zas 179 (zbF (fun (l:List (Int)) (_:FnC 171 (FnL 149)) => l.length ≤ 4096) (fun l f => let f:=f.x; zbt (fun x => !(fun n => inB n 0 99) x) l l.length 0)) (P25):zaJ) g
theorem P26_ok:zaz Tryz.prog P26:=zah (zaM zuB) (P25_ok)
theorem zsx (d:Option Nat):zaF P26 d = none:=(zag (by decide) d).trans (zsy d)
attribute [go_sem] P26 zsx
theorem zuC (l:List (Int)) (f:FnC 171 (FnL 149)) (h:l.length ≤ 4096):zaP Tryz.prog 170 [Enc.enc l,Enc.enc f] (· = Enc.enc (let f:=f.x; l.any (fun x => !(fun n => inB n 0 99) x))):=by
 obtain ⟨f⟩:=f
 simp only [zcp]
 refine cpz P26_ok Tryz.func170 zaB ?_
 rw [Tryz.ntmps170]
 simp only [Tryz.f170,zai,zam]
 simp (maxSteps:=4000000) only [go_sem,AV.one,zae,zac,zad,zan,zaq,zaa,czb,cza,↓reduceIte]
 all_goals (repeat' first | (with_reducible first | rfl | apply And.intro | assumption) | ((with_reducible show zaj _ _ = true); rfl)) <;> try first | omega | (simp only [InR]; omega)
 congr 1
 exact zeC (fun x => !(fun n => inB n 0 99) x) l l.length 0 (by omega)
def P27 (g:FuncId):=(zas 170 (zbF (fun (l:List (Int)) (_:FnC 171 (FnL 149)) => l.length ≤ 4096) (fun l f => let f:=f.x; l.any (fun x => !(fun n => inB n 0 99) x))) (P26):zaJ) g
theorem P27_ok:zaz Tryz.prog P27:=zah (zaM zuC) (P26_ok)
theorem zsw (d:Option Nat):zaF P27 d = none:=(zag (by decide) d).trans (zsx d)
attribute [go_sem] P27 zsw
theorem zuD (l:List (Int)) (f:FnL 149) (h:l.length ≤ 4096):zaP Tryz.prog 150 [Enc.enc l,Enc.enc f] (· = Enc.enc (l.all (fun x => (fun n => inB n 0 99) x))):=by
 simp only [zcp]
 refine cpz P27_ok Tryz.func150 zaB ?_
 rw [Tryz.ntmps150]
 simp only [Tryz.f150,zai,zam]
 simp (maxSteps:=4000000) only [go_sem,AV.one,zae,zac,zad,zan,zaq,zaa,czb,cza,↓reduceIte]
 all_goals (repeat' first | (with_reducible first | rfl | apply And.intro | assumption) | ((with_reducible show zaj _ _ = true); rfl)) <;> try first | omega | (simp only [InR]; omega)
 rw [zij]
def P28 (g:FuncId):=(zas 150 (zbF (fun (l:List (Int)) (_:FnL 149) => l.length ≤ 4096) (fun l f => l.all (fun x => (fun n => inB n 0 99) x))) (P27):zaJ) g
theorem P28_ok:zaz Tryz.prog P28:=zah (zaM zuD) (P27_ok)
theorem zsv (d:Option Nat):zaF P28 d = none:=(zag (by decide) d).trans (zsw d)
attribute [go_sem] P28 zsv
theorem zuA (x:Mk) (f:FnB 146 Tb):zaP Tryz.prog 173 [Enc.enc x,Enc.enc (RefC.mk f)] (· = Enc.enc (!zeH f.x.last x)):=by
 simp only [zcp]
 refine cpz P28_ok Tryz.func173 zaB ?_
 rw [Tryz.ntmps173]
 simp only [Tryz.f173,zai,zam]
 simp (maxSteps:=4000000) only [go_sem,AV.one,zae,zac,zad,zan,zaq,zaa,czb,cza,↓reduceIte]
def P29 (g:FuncId):=(zas 173 (zbF (fun _ _ => True) (fun (x:Mk) (f:RefC (FnB 146 Tb)) => let f:=f.x; !zeH f.x.last x)) (P28):zaJ) g
theorem P29_ok:zaz Tryz.prog P29:=zah (zaM fun x f _ => zuA x f.x) (P28_ok)
theorem zsu (d:Option Nat):zaF P29 d = none:=(zag (by decide) d).trans (zsv d)
attribute [go_sem] P29 zsu
theorem zux (l:List (Mk)) (f:FnC 173 (FnB 146 Tb)) (h:l.length ≤ 4096):zaP Tryz.prog 180 [Enc.enc l,Enc.enc f] (· = Enc.enc (let f:=f.x; zbt (fun x => !zeH f.x.last x) l l.length 0)):=by
 obtain ⟨f⟩:=f
 simp only [zcp]
 refine cpz P29_ok Tryz.func180 zaB ?_
 rw [Tryz.ntmps180]
 simp only [Tryz.f180,zai,zam]
 simp (maxSteps:=4000000) only [go_sem,AV.one,zae,zac,zad,zan,zaq,zaa,czb,cza,↓reduceIte]
 refine zbG (l.length) [] [0,1,4,7] (fun i => [(8,.int .i64 i)]) (fun _ m => m) (fun i => zbt (fun x => !zeH f.x.last x) l (l.length - i) i = zbt (fun x => !zeH f.x.last x) l l.length 0) ?_ ?_ ?_ ?_
 ·rfl
 ·simp [AV.bare,zal,zaN,zaR,zak,zar,zaf,tokz1,lk,zaa,zcL]
 ·intro i hi hI
  rw [show l.length - i = (l.length - (i + 1)) + 1 by omega,zbt] at hI
  cases c:zeH f.x.last (at_ l i) <;>
   simp (maxSteps:=4000000) only [go_sem,AV.one,zae,zac,zad,zan,zaq,zaa,czb,cza,↓reduceIte,zax hi,czH.2 hi,c]
  all_goals all_goals (repeat' first | (with_reducible first | rfl | apply And.intro | assumption) | ((with_reducible show zaj _ _ = true); rfl)) <;> try first | omega | (simp only [InR]; omega)
  ·rw [c] at hI
   rw [← hI]; rfl
  ·rw [c] at hI
   refine nxt hi hI ?_
   simp [AV.bare,zal,zaN,zaR,zak,zar,zaf,tokz1,lk,zaa,zcL]
 ·intro hI
  simp (maxSteps:=4000000) only [go_sem,AV.one,zae,zac,zad,zan,zaq,zaa,czb,cza,↓reduceIte]
  rw [← hI]; simp [zbt]
def P30 (g:FuncId):=(zas 180 (zbF (fun (l:List (Mk)) (_:FnC 173 (FnB 146 Tb)) => l.length ≤ 4096) (fun l f => let f:=f.x; zbt (fun x => !zeH f.x.last x) l l.length 0)) (P29):zaJ) g
theorem P30_ok:zaz Tryz.prog P30:=zah (zaM zux) (P29_ok)
theorem zst (d:Option Nat):zaF P30 d = none:=(zag (by decide) d).trans (zsu d)
attribute [go_sem] P30 zst
theorem zuy (l:List (Mk)) (f:FnC 173 (FnB 146 Tb)) (h:l.length ≤ 4096):zaP Tryz.prog 172 [Enc.enc l,Enc.enc f] (· = Enc.enc (let f:=f.x; l.any (fun x => !zeH f.x.last x))):=by
 obtain ⟨f⟩:=f
 simp only [zcp]
 refine cpz P30_ok Tryz.func172 zaB ?_
 rw [Tryz.ntmps172]
 simp only [Tryz.f172,zai,zam]
 simp (maxSteps:=4000000) only [go_sem,AV.one,zae,zac,zad,zan,zaq,zaa,czb,cza,↓reduceIte]
 all_goals (repeat' first | (with_reducible first | rfl | apply And.intro | assumption) | ((with_reducible show zaj _ _ = true); rfl)) <;> try first | omega | (simp only [InR]; omega)
 congr 1
 exact zeC (fun x => !zeH f.x.last x) l l.length 0 (by omega)
def P31 (g:FuncId):=(zas 172 (zbF (fun (l:List (Mk)) (_:FnC 173 (FnB 146 Tb)) => l.length ≤ 4096) (fun l f => let f:=f.x; l.any (fun x => !zeH f.x.last x))) (P30):zaJ) g
theorem P31_ok:zaz Tryz.prog P31:=zah (zaM zuy) (P30_ok)
theorem zss (d:Option Nat):zaF P31 d = none:=(zag (by decide) d).trans (zst d)
attribute [go_sem] P31 zss
theorem zuz (l:List (Mk)) (f:FnB 146 Tb) (h:l.length ≤ 4096):zaP Tryz.prog 151 [Enc.enc l,Enc.enc f] (· = Enc.enc (l.all (fun x => zeH f.x.last x))):=by
 simp only [zcp]
 refine cpz P31_ok Tryz.func151 zaB ?_
 rw [Tryz.ntmps151]
 simp only [Tryz.f151,zai,zam]
 simp (maxSteps:=4000000) only [go_sem,AV.one,zae,zac,zad,zan,zaq,zaa,czb,cza,↓reduceIte]
 all_goals (repeat' first | (with_reducible first | rfl | apply And.intro | assumption) | ((with_reducible show zaj _ _ = true); rfl)) <;> try first | omega | (simp only [InR]; omega)
 rw [zij]
def P32 (g:FuncId):=(zas 151 (zbF (fun (l:List (Mk)) (_:FnB 146 Tb) => l.length ≤ 4096) (fun l f => l.all (fun x => zeH f.x.last x))) (P31):zaJ) g
theorem zsq:zaz Tryz.prog P32:=zah (zaM zuz) (P31_ok)
theorem zsr (d:Option Nat):zaF P32 d = none:=(zag (by decide) d).trans (zss d)
attribute [go_sem] P32 zsr
instance {α β:Type} [Enc α] [Enc β]:Enc (α × β) where
 enc p:=.tup [Enc.enc p.1,Enc.enc p.2]
 dec
  | .tup [a,b] => match (Enc.dec a:Option α),(Enc.dec b:Option β) with
   | some a,some b => some (a,b)
   | _,_ => none
  | _ => none
 law v x h:=by
  split at h
  ·split at h
   ·rename_i h1 h2
    cases h
    rw [Enc.law _ _ h1,Enc.law _ _ h2]
   ·cases h
  ·cases h
 dep:=max (Enc.dep α) (Enc.dep β) + 1
 ok x:=by
  have key:∀ n m (v:AV),zbr n v → n ≤ m → zbr m v:=by
   intro n
   induction n with
   | zero => intro m v h; simp [zbr] at h
   | succ n ih =>
    intro m v h hm
    obtain ⟨m,rfl⟩:∃ k,m = k + 1:=⟨m - 1,by omega⟩
    cases v <;> simp only [zbr] at h ⊢
    ·exact fun c hc => ih m c (h c hc) (by omega)
    ·exact fun c hc => ih m c (h c hc) (by omega)
    ·exact ⟨h.1,fun e he c hc => ih m c (h.2 e he c hc) (by omega)⟩
    ·exact fun c hc => ih m c (h c hc) (by omega)
    ·exact ⟨fun c hc => ih m c (h.1 c hc) (by omega),fun c hc => ih m c (h.2 c hc) (by omega)⟩
    ·exact fun c hc => ih m c (h c hc) (by omega)
  simp only [zbr,czn,czk,or_false,forall_eq_or_imp,forall_eq]
  exact ⟨key _ _ _ (Enc.ok x.1) (by omega),key _ _ _ (Enc.ok x.2) (by omega)⟩
theorem zab {α β:Type} [Enc α] [Enc β] (p:α × β):Enc.enc p = .tup [Enc.enc p.1,Enc.enc p.2]:=rfl
theorem zcD (k:IntKind) (n:Int):(AV.int k n).one = true:=rfl
def zde (t:Tb) (l:List Int) (h:Int):Bool:=decide (h = 0) || inB (at_ l h.toNat - at_ l (h - 1).toNat) (-t.step) t.step
theorem near_call (t:Tb) (s:Arr 10) (h:Int) (hp:((0 ≤ t.step ∧ t.step ≤ 99) ∧ 0 ≤ h ∧ h ≤ 9) ∧ (0 ≤ at_ s.l h.toNat ∧ at_ s.l h.toNat ≤ 99) ∧ (h ≠ 0 → 0 ≤ at_ s.l (h - 1).toNat ∧ at_ s.l (h - 1).toNat ≤ 99)) :
  zaP Tryz.prog 156 [Enc.enc t,Enc.enc s,Enc.enc h] (· = Enc.enc (zde t s.l h)):=by
 have h0:=s.h
 have e1:=zfe (l:=s.l) (i:=h.toNat) (by omega)
 have e2:=zfe (l:=s.l) (i:=(h - 1).toNat) (by omega)
 cases c:decide (h = 0)
 ·have hq:=hp.2.2 (by simpa using c)
  simp only [zcp]
  refine cpz zsq Tryz.func156 zaB ?_
  rw [Tryz.ntmps156]
  simp only [Tryz.f156,zai,zam]
  simp (maxSteps:=4000000) only [go_sem,AV.one,zae,zac,zad,zan,zaq,zaa,czb,cza,↓reduceIte,e1,e2,c]
  all_goals (repeat' first | (with_reducible first | rfl | apply And.intro | assumption) | ((with_reducible show zaj _ _ = true); rfl)) <;> try first | omega | (simp only [InR]; omega)
  ·simp at c; omega
  ·simp [zde,c]
 ·simp only [zcp]
  refine cpz zsq Tryz.func156 zaB ?_
  rw [Tryz.ntmps156]
  simp only [Tryz.f156,zai,zam]
  simp (maxSteps:=4000000) only [go_sem,AV.one,zae,zac,zad,zan,zaq,zaa,czb,cza,↓reduceIte,e1,e2,c]
  all_goals (repeat' first | (with_reducible first | rfl | apply And.intro | assumption) | ((with_reducible show zaj _ _ = true); rfl)) <;> try first | omega | (simp only [InR]; omega)
  simp [zde,c]
theorem wet_call (t:Tb) (s:Arr 10) (level:Int) (h:0 ≤ t.last ∧ t.last ≤ 9):zaP Tryz.prog 116 [Enc.enc t,Enc.enc s,Enc.enc level] (· = Enc.enc (zko s.l level (t.last + 1).toNat)):=by
 have h0:=s.h
 obtain ⟨k,hk⟩:=czu h.1
 have e:(t.last + 1 - 0).toNat = k + 1:=by omega
 have e':(t.last + 1).toNat = k + 1:=by omega
 rw [e']
 simp only [zcp]
 refine cpz zsq Tryz.func116 zaB ?_
 rw [Tryz.ntmps116]
 simp only [Tryz.f116,zai,zam]
 simp (maxSteps:=4000000) only [go_sem,AV.one,zae,zac,zad,zan,zaq,zaa,czb,cza,↓reduceIte,e]
 refine ⟨(by simp only [InR]; omega),⟨by omega,by omega,by omega⟩,?_⟩
 refine zbG (k + 1) [.slot 6 1] [2,12,13] (fun i => [(14,.int .i64 i),(6,.sl ((zko s.l level i).map EncE.cs) (.own 2))]) (fun i m => m.set 2 (.tok (zko s.l level i).length 1)) (fun _ => True) ?_ ?_ ?_ ?_
 ·trivial
 ·simp [AV.bare,zal,zaN,zaR,zak,zar,zaf,tokz1,lk,zaa,zcL,zko]
 ·intro i hi _
  have hw:=ziW s.l level i
  have e1:=zfe (l:=s.l) (i:=i) (by omega)
  cases c:decide (level < at_ s.l i) <;>
   simp (maxSteps:=4000000) only [go_sem,AV.one,zae,zac,zad,zan,zaq,zaa,czb,cza,↓reduceIte,e1,czH.2 hi,c]
  all_goals all_goals (repeat' first | (with_reducible first | rfl | apply And.intro | assumption) | ((with_reducible show zaj _ _ = true); rfl)) <;> try first | omega | (simp only [InR]; omega)
  all_goals
   refine nxt hi trivial ?_
   simp at c
   simp [AV.bare,zal,zaN,zaR,zak,zar,zaf,tokz1,lk,zaa,zcL,wetN_succ,c]
   try (intro q; omega)
   try omega
 ·intro _
  simp (maxSteps:=4000000) only [go_sem,AV.one,zae,zac,zad,zan,zaq,zaa,czb,cza,↓reduceIte]
def P33 (g:FuncId):=(zas 156 (zec (fun (t:Tb) (s:Arr 10) (h:Int) => ((0 ≤ t.step ∧ t.step ≤ 99) ∧ 0 ≤ h ∧ h ≤ 9) ∧ (0 ≤ at_ s.l h.toNat ∧ at_ s.l h.toNat ≤ 99) ∧ (h ≠ 0 → 0 ≤ at_ s.l (h - 1).toNat ∧ at_ s.l (h - 1).toNat ≤ 99)) (fun t s h => zde t s.l h)) (zas 116 (zec (fun (t:Tb) (_:Arr 10) (_:Int) => 0 ≤ t.last ∧ t.last ≤ 9) (fun t s level => zko s.l level (t.last + 1).toNat)) (P32)):zaJ) g
theorem P33_ok:zaz Tryz.prog P33:=zah (zb8 near_call) (zah (zb8 wet_call) (zsq))
theorem zsp (d:Option Nat):zaF P33 d = none:=(zag (by decide) d).trans ((zag (by decide) d).trans (zsr d))
attribute [go_sem] P33 zsp
structure VOk (t:Tb):Prop where
 hok:HOk t
 mok:MOk t
 last:(t.heights.length:Int) = t.last + 1
 lv:t.levels.length ≤ 6
 lvb:∀ x ∈ t.levels,0 ≤ x ∧ x ≤ 99
 many:zc7 t.heights ≤ 2000
 some:zcG t ≠ []
theorem VOk.l0 {t:Tb} (h:VOk t):0 ≤ t.last + 1:=by have:=h.last; omega
theorem VOk.l9 {t:Tb} (h:VOk t):t.last ≤ 9:=by have:=h.last; have:=h.hok.len; omega
def zdh (l:List Int):List Int:=l.take 10 ++ List.replicate (10 - l.length) 0
def ze1 (l:List Int):Arr 10:=⟨zdh l,by simp [zdh]; omega⟩
def zeroA10:Arr 10:=⟨List.replicate 10 0,by simp⟩
theorem zgQ {l:List Int} {i:Nat} (h:i < l.length) (h10:i < 10):at_ (zdh l) i = at_ l i:=by
 unfold zdh
 rw [zkD (by simp; omega)]
 simp [at_,List.getD,h10]
def zdf (t:Tb) (l:List Int):Arr 10 × Bool:=if (l.length:Int) = t.last + 1 then (ze1 l,zbg t l) else (zeroA10,false)
theorem zjE {t:Tb} {l:List Int} {i:Nat} (hi:i < l.length) (h10:i < 10):zcE t.step (l.take (i + 1)) = (zcE t.step (l.take i) && zde t (zdh l) i):=by
 cases i with
 | zero =>
  cases l with
  | nil => simp at hi
  | cons x l => simp [zcE,zde]
 | succ i =>
  rw [zkY _ _ _ hi]
  congr 1
  have e0:((i + 1:Nat):Int).toNat = i + 1:=by omega
  have e1:(((i + 1:Nat):Int) - 1).toNat = i:=by omega
  unfold zde
  rw [e0,e1,zgQ hi h10,zgQ (show i < l.length by omega) (by omega),Bool.eq_iff_iff]
  simp [inB]
  omega
theorem zlS {t:Tb} {l:List Int} {i:Nat} (hi:i < l.length) (h10:i < 10) (h:zde t (zdh l) i = false):zbg t l = false:=by
 cases c:zbg t l
 ·rfl
 ·simp only [zbg,czl] at c
  have:=zh8 t.step l (i + 1) c.2.2
  rw [zjE hi h10,h] at this
  simp at this
theorem zpQ (t:Tb) (l:List Int) (h:(HOk t ∧ (t.heights.length:Int) = t.last + 1 ∧ 0 ≤ t.last) ∧ l.length ≤ 4096):zaP Tryz.prog 115 [Enc.enc t,Enc.enc l] (· = Enc.enc (zdf t l)):=by
 obtain ⟨⟨hok,hl,h0⟩,hl4⟩:=h
 have hl9:t.last ≤ 9:=by have:=hok.len; omega
 have hz:=hok.s0
 have hz1:=hok.s1
 simp only [zab]
 cases c:decide ((l.length:Int) = t.last + 1)
 ·have e:zdf t l = (zeroA10,false):=by unfold zdf; rw [if_neg (by simpa using c)]
  rw [e]
  simp only [zcp]
  refine cpz P33_ok Tryz.func115 zaB ?_
  rw [Tryz.ntmps115]
  simp only [Tryz.f115,zai,zam]
  simp (maxSteps:=4000000) only [go_sem,AV.one,zae,zac,zad,zan,zaq,zaa,czb,cza,↓reduceIte,c]
  all_goals (repeat' first | (with_reducible first | rfl | apply And.intro | assumption) | ((with_reducible show zaj _ _ = true); rfl)) <;> try first | omega | (simp only [InR]; omega)
  all_goals rfl
 ·have e:zdf t l = (ze1 l,zbg t l):=by unfold zdf; rw [if_pos (by simpa using c)]
  rw [e]
  have hlen:(l.length:Int) = t.last + 1:=by simpa using c
  have e10:(((10:Nat):Int) - 0).toNat = 10:=rfl
  have hflat:(List.take 10 (List.map EncE.cs l)).flatten ++ List.drop (List.take 10 (List.map EncE.cs l)).flatten.length
    [AV.int IntKind.i64 0,AV.int IntKind.i64 0,AV.int IntKind.i64 0,AV.int IntKind.i64 0,AV.int IntKind.i64 0,AV.int IntKind.i64 0,AV.int IntKind.i64 0,AV.int IntKind.i64 0,AV.int IntKind.i64 0,AV.int IntKind.i64 0] = (ze1 l).l.map (AV.int .i64):=by
   rw [← List.map_take,flat_ints,show [AV.int IntKind.i64 0,AV.int IntKind.i64 0,AV.int IntKind.i64 0,AV.int IntKind.i64 0,AV.int IntKind.i64 0,AV.int IntKind.i64 0,AV.int IntKind.i64 0,AV.int IntKind.i64 0,AV.int IntKind.i64 0,AV.int IntKind.i64 0] = (List.replicate 10 (0:Int)).map (AV.int .i64) from rfl,← List.map_drop,← List.map_append,List.drop_replicate]
   unfold ze1 zdh
   simp
   omega
  have hp:=(ze1 l).h
  have hd:(ze1 l).l.drop 10 = []:=czM (by omega)
  have hps:(ze1 l).l = zdh l:=rfl
  simp only [zcp]
  refine cpz P33_ok Tryz.func115 zaB ?_
  rw [Tryz.ntmps115]
  simp only [Tryz.f115,zai,zam]
  simp (maxSteps:=4000000) only [go_sem,zae,zac,zad,zan,zaq,zaa,czb,cza,↓reduceIte,c,e10,hflat,zcD]
  refine ⟨(by simp only [InR]; omega),⟨by omega,by omega⟩,?_,?_⟩
  ·intro x hx c hc
   obtain ⟨y,_,rfl⟩:=czx.1 hx
   simp only [zeF,czn,czk,or_false] at hc
   subst hc
   exact ⟨rfl,rfl⟩
  refine zbG (l.length) [] [2,4,5,18,19] (fun i => [(20,.int .i64 i)]) (fun _ m => m) (fun i => ((zhe l t.heights).take i).all id = true ∧ zcE t.step (l.take i) = true) ?_ ?_ ?_ ?_
  ·simp [zcE]
  ·simp [AV.bare,zal,zaN,zaR,zak,zar,zaf,tokz1,lk,zaa,zcL]
  ·intro i hi hI
   have h2:i < t.heights.length:=by omega
   have h3:i < (zhe l t.heights).length:=by rw [zeL]; omega
   have hz3:=zgT hi h2
   have hat:=zgQ hi (by omega)
   have hr:=hok.h _ (zbv h2)
   have hnr:=zjE (t:=t) hi (by omega)
   rw [← hps] at hat hnr
   have hprev:(i:Int) ≠ 0 → 0 ≤ at_ (ze1 l).l ((i:Int) - 1).toNat ∧ at_ (ze1 l).l ((i:Int) - 1).toNat ≤ 99:=by
    intro q
    have e1:((i:Int) - 1).toNat = i - 1:=by omega
    have hz4:=zgT (show i - 1 < l.length by omega) (show i - 1 < t.heights.length by omega)
    have hr2:=hok.h _ (zbv (show i - 1 < t.heights.length by omega))
    have hm:at_ (zhe l t.heights) (i - 1) = true:=by
     have:=czG.1 hI.1 (at_ (zhe l t.heights) (i - 1)) (by
      rw [zdk (show i - 1 < (zhe l t.heights).length by omega)]
      exact List.mem_take_iff_getElem.2 ⟨i - 1,by omega,rfl⟩)
     exact this
    rw [hz4] at hm
    have:=(zbO _ _ _).1 hm
    rw [e1,hps,zgQ (show i - 1 < l.length by omega) (by omega)]
    omega
   cases c1:inB (at_ l i) (at_ t.heights i).lo (at_ t.heights i).hi
   ·simp (maxSteps:=4000000) only [go_sem,zae,zac,zad,zan,zaq,zaa,czb,cza,↓reduceIte,zax hi,zax h2,czH.2 hi,c1,hp,hd,zcD]
    all_goals (repeat' first | (with_reducible first | rfl | apply And.intro | assumption) | ((with_reducible show zaj _ _ = true); rfl)) <;> try first | omega | (simp only [InR]; omega)
    rw [zbg,zfN h3 (by rw [hz3,c1]; rfl)]; rfl
   ·have g1:=(zbO _ _ _).1 c1
    have g2:0 ≤ at_ (ze1 l).l i ∧ at_ (ze1 l).l i ≤ 99:=by rw [hat]; omega
    cases c2:zde t (ze1 l).l i
    all_goals
     simp (maxSteps:=4000000) only [go_sem,zae,zac,zad,zan,zaq,zaa,czb,cza,↓reduceIte,zax hi,zax h2,czH.2 hi,c1,c2,hp,hd,zcD]
     all_goals (repeat' first | (with_reducible first | rfl | apply And.intro | assumption) | ((with_reducible show zaj _ _ = true); rfl)) <;> try first | omega | (simp only [InR]; omega)
    ·rw [zlS hi (by omega) c2]
    ·refine nxt hi ⟨?_,?_⟩ ?_
     ·rw [zd5 h3,hI.1,hz3,c1]; rfl
     ·rw [hnr,hI.2,c2]; rfl
     ·simp [AV.bare,zal,zaN,zaR,zak,zar,zaf,tokz1,lk,zaa,zcL]
  ·intro hI
   simp (maxSteps:=4000000) only [go_sem,zae,zac,zad,zan,zaq,zaa,czb,cza,↓reduceIte,hp,hd,zcD]
   all_goals (repeat' first | (with_reducible first | rfl | apply And.intro | assumption) | ((with_reducible show zaj _ _ = true); rfl)) <;> try first | omega | (simp only [InR]; omega)
   have e1:(zhe l t.heights).take l.length = zhe l t.heights:=cze (by rw [zeL]; omega)
   rw [e1,czm] at hI
   rw [zbg,hI.1,hI.2]
   simp; omega
def P34 (g:FuncId):=(zas 115 (zbF (fun (t:Tb) (l:List Int) => (HOk t ∧ (t.heights.length:Int) = t.last + 1 ∧ 0 ≤ t.last) ∧ l.length ≤ 4096) zdf) (P33):zaJ) g
theorem zn2:zaz Tryz.prog P34:=zah (zaM zpQ) (P33_ok)
theorem zso (d:Option Nat):zaF P34 d = none:=(zag (by decide) d).trans (zsp d)
attribute [go_sem] P34 zso
end Go.Proofs
