/- The texts S5, S6, S7, S8, S9, joined. -/
import Derived.Test.YtilbconikmpadaaGreatG7
set_option linter.all false
namespace Go.Proofs
open Go.Fs
set_option maxHeartbeats 1000000
set_option maxRecDepth 8000
def P9 (g:FuncId):=(zax 69 (zcU (fun t => HOk t ∧ MOk t) zaC) (P8):zaN) g
theorem P9_ok:zaD Tryz.prog P9:=zaj (zbm zs9) (P8_ok)
theorem P9_flag (d:Option Nat):zaK P9 d = none:=(zai (by decide) d).trans (P8_flag d)
attribute [go_sem] P9 P9_flag
def zdz (l:List Int) (level:Int):Int :=
 match zd5 l level with
 | [] => l.length
 | w :: _ => w
def zdu (r:Rg) (n:Int):Rg:=⟨min r.lo n,max r.hi n⟩
theorem zxb (r:Rg) (n:Int):zaU Tryz.prog 101 [Enc.enc r,Enc.enc n] (· = Enc.enc (zdu r n)):=by
 simp only [zcw]
 refine cpz P9_ok Tryz.func101 zaF ?_
 rw [Tryz.ntmps101]
 simp only [Tryz.f101,zah,zaq]
 simp (maxSteps:=4000000) only [go_sem,AV.one,zae,zac,zad,zap,zas,zab,czb,cza,↓reduceIte]
 rfl
def zjI:Rg:=⟨1099511627776,-1⟩
theorem zxq:zaU Tryz.prog 100 [] (· = Enc.enc zjI):=by
 simp only [zcw]
 refine cpz P9_ok Tryz.func100 zaF ?_
 rw [Tryz.ntmps100]
 simp only [Tryz.f100,zah,zaq]
 simp (maxSteps:=4000000) only [go_sem,AV.one,zae,zac,zad,zap,zas,zab,czb,cza,↓reduceIte]
 rfl
theorem zlh {α β:Type} [Inhabited α] {l:List α} {f:β → α → β} {b:β} {i:Nat} (h:i < l.length):(l.take (i + 1)).foldl f b = f ((l.take i).foldl f b) (at_ l i):=by
 rw [zaX h,List.foldl_append]; rfl
def P10 (g:FuncId):=(zax 101 (zbL (fun (_:Rg) (_:Int) => True) zdu) (zax 100 (zre zjI) (P9)):zaN) g
theorem P10_ok:zaD Tryz.prog P10:=zaj (zaR fun a b _ => zxb a b) (zaj (zj6 zxq) (P9_ok))
theorem zvh (d:Option Nat):zaK P10 d = none:=(zai (by decide) d).trans ((zai (by decide) d).trans (P9_flag d))
attribute [go_sem] P10 zvh
def zjj (ls:List (List Int)) (hour:Int):Rg:=ls.foldl (fun r l => zdu r (at_ l hour.toNat)) zjI
def zmy (ls:List (List Int)) (level:Int):Rg:=ls.foldl (fun r l => zdu r (zdz l level)) zjI
def zdq (ls:List (List Int)) (level:Int) (hour:Nat):Int:=ls.foldl (fun n l => if level < at_ l hour then n + 1 else n) 0
def zdj (ls:List (List Int)) (level hour:Int):Int :=
 if zdq ls level hour.toNat = ls.length then 1 else if zdq ls level hour.toNat = 0 then 2 else 3
def zuc (ls:List (List Int)) (a b level:Int):Bool:=ls.all fun l => decide (zmj l a b ≤ level)
def dryN (ls:List (List Int)) (a b:Int):Nat → Int → Int
 | 0,n => n
 | f + 1,n => if zuc ls a b n then n else dryN ls a b f (n + 1)
def dryL (ls:List (List Int)) (a b:Int):Int:=dryN ls a b 99 0
def P11:zaN:=P10
theorem P11_app (g:FuncId):P11 g = (P10) g:=rfl
theorem P11_ok:zaD Tryz.prog P11:=P10_ok
attribute [go_sem] P11_app
theorem zvg (d:Option Nat):zaK P11 d = none:=zvh d
attribute [go_sem] zvg
def P12:zaN:=P11
theorem P12_app (g:FuncId):P12 g = (P11) g:=rfl
theorem P12_ok:zaD Tryz.prog P12:=P11_ok
attribute [go_sem] P12_app
theorem zvf (d:Option Nat):zaK P12 d = none:=zvg d
attribute [go_sem] zvf
theorem bits64:((IntKind.i64.bits:Nat):Int) = 64:=rfl
def rb (l:List Int) (ms:List Mk):Nat → Nat
 | 0 => 0
 | n + 1 => if zd8 l (at_ ms n) then rb l ms n ||| 2 ^ n else rb l ms n
def allN (t:Tb) (n:Nat):List Int:=((zbH t).take n).map fun l => (rb l t.marks t.marks.length:Int)
def allL (t:Tb):List Int:=allN t (zbH t).length
def canB (all:List Int) (marks:Int):Bool:=all.any fun x => decide (((x.toNat &&& marks.toNat:Nat):Int) = marks)
theorem any_take {α:Type} [Inhabited α] {l:List α} {p:α → Bool} {i:Nat} (h:i < l.length):(l.take (i + 1)).any p = ((l.take i).any p || p (at_ l i)):=by
 rw [zaX h,List.any_append]; simp
theorem any_at {α:Type} [Inhabited α] {l:List α} {p:α → Bool} {i:Nat} (h:i < l.length) (hp:p (at_ l i) = true):l.any p = true:=by
 rw [List.any_eq_true]; exact ⟨_,zbb h,hp⟩
def BOk (x:Int):Prop:=0 ≤ x ∧ x ≤ 511
theorem Can_call (all:List Int) (marks:Int) (h:(all.length ≤ 4096 ∧ ∀ x ∈ all,BOk x) ∧ BOk marks):zaU Tryz.prog 111 [Enc.enc all,Enc.enc marks] (· = Enc.enc (canB all marks)):=by
 have h1:=h.1.1
 have h2:=h.2
 unfold BOk at h2
 simp only [zcw]
 refine cpz P12_ok Tryz.func111 zaF ?_
 rw [Tryz.ntmps111]
 simp only [Tryz.f111,zah,zaq]
 simp (maxSteps:=4000000) only [go_sem,AV.one,zae,zac,zad,zap,zas,zab,czb,cza,↓reduceIte]
 refine zbA (all.length) [] [0,1,4] (fun i => [(5,.int .i64 i)]) (fun _ m => m) (fun i => (all.take i).any (fun x => decide (((x.toNat &&& marks.toNat:Nat):Int) = marks)) = false) ?_ ?_ ?_ ?_
 ·simp
 ·simp [AV.bare,zal,zaP,zaS,zak,zau,zag,tokz1,lk,zab,zcW]
 ·intro i hi hI
  have hb:=h.1.2 _ (zbb hi)
  unfold BOk at hb
  cases c:decide ((((at_ all i).toNat &&& marks.toNat:Nat):Int) = marks) <;>
   simp (maxSteps:=4000000) only [go_sem,AV.one,zae,zac,zad,zap,zas,zab,czb,cza,↓reduceIte,zat hi,czH.2 hi,c]
  all_goals all_goals (repeat' first | (with_reducible first | rfl | apply And.intro | assumption) | ((with_reducible show zaf _ _ = true); rfl)) <;> try first | omega | (simp only [InR]; omega)
  ·refine nxt hi ?_ ?_
   ·rw [any_take hi,hI,c]; rfl
   ·simp [AV.bare,zal,zaP,zaS,zak,zau,zag,tokz1,lk,zab,zcW]
  ·rw [canB,any_at hi c]
 ·intro hI
  rw [czm] at hI
  simp (maxSteps:=4000000) only [go_sem,AV.one,zae,zac,zad,zap,zas,zab,czb,cza,↓reduceIte]
  rw [canB,hI]
def blN (b:Nat):Nat:=if b = 0 then 0 else b.log2 + 1
def zl9 (b n:Nat):List Int:=((List.range n).filter fun p => b.testBit p).map fun p:Nat => (p:Int)
def zsQ (b:Nat):List Int:=zl9 b (blN b)
theorem zwK (b n:Nat):zl9 b (n + 1) = zl9 b n ++ (if b.testBit n then [(n:Int)] else []):=by
 simp only [zl9,List.range_succ,List.filter_append,List.map_append]
 cases c:b.testBit n <;> simp [List.filter,c]
theorem zpM (b n:Nat):(zl9 b n).length ≤ n:=by
 have:=List.length_filter_le (fun p => b.testBit p) (List.range n)
 simpa [zl9] using this
theorem blN_lt {b p:Nat} (h:p < blN b):0 < b / 2 ^ p:=by
 unfold blN at h
 split at h
 ·omega
 ·rename_i hb
  have:2 ^ p ≤ b:=(Nat.le_log2 hb).1 (by omega)
  exact Nat.div_pos this (Nat.two_pow_pos p)
theorem blN_end (b:Nat):b / 2 ^ blN b = 0:=by
 unfold blN
 split
 ·rename_i h; subst h; rfl
 ·rename_i h
  exact Nat.div_eq_of_lt ((Nat.log2_lt h).1 (by omega))
theorem blN_le {b:Nat} (h:b ≤ 511):blN b ≤ 9:=by
 unfold blN
 split
 ·omega
 ·rename_i hb
  have:=(Nat.log2_lt (k:=9) hb).2 (by omega)
  omega
theorem Bits_call (b:Int) (h:BOk b):zaU Tryz.prog 64 [Enc.enc b] (· = Enc.enc (zsQ b.toNat)):=by
 have h0:=h.1
 have h1:=h.2
 obtain ⟨b,rfl⟩:=czu h.1
 have hl:=blN_le (b:=b) (by omega)
 have hdiv:∀ p:Nat,((b:Int) / 2 ^ p) = ((b / 2 ^ p:Nat):Int):=fun p => by simp
 simp only [zcw]
 refine cpz P12_ok Tryz.func64 zaF ?_
 rw [Tryz.ntmps64]
 simp only [Tryz.f64,zah,zaq]
 simp (maxSteps:=4000000) only [go_sem,AV.one,zae,zac,zad,zap,zas,zab,czb,cza,↓reduceIte]
 refine zbA (blN b) [.slot 3 1] [0,2] (fun i => [(4,.int .i64 i),(3,.sl ((zl9 b i).map EncE.cs) (.own 0))]) (fun i m => m.set 0 (.tok (zl9 b i).length 1)) (fun _ => True) ?_ ?_ ?_ ?_
 ·trivial
 ·simp [AV.bare,zal,zaP,zaS,zak,zau,zag,tokz1,lk,zab,zcW,zl9]
 ·intro i hi _
  have hw:=zpM b i
  have h3:=blN_lt hi
  have h4:(0:Int) < ((b / 2 ^ i:Nat):Int):=by omega
  have h5:=Nat.div_le_self b (2 ^ i)
  have h6:b.testBit i = decide (((b / 2 ^ i:Nat):Int) % 2 = 1):=by
   rw [Nat.testBit_eq_decide_div_mod_eq]
   congr 1
   simp only [eq_iff_iff]
   omega
  cases c:decide (((b / 2 ^ i:Nat):Int) % 2 = 1) <;>
   simp (maxSteps:=4000000) only [go_sem,AV.one,zae,zac,zad,zap,zas,zab,czb,cza,↓reduceIte,hdiv,h4,c,bits64]
  all_goals all_goals (repeat' first | (with_reducible first | rfl | apply And.intro | assumption) | ((with_reducible show zaf _ _ = true); rfl)) <;> try first | omega | (simp only [InR]; omega)
  all_goals
   refine nxt hi trivial ?_
   rw [c] at h6
   simp [AV.bare,zal,zaP,zaS,zak,zau,zag,tokz1,lk,zab,zcW,zwK,h6]
 ·intro _
  have h3:=blN_end b
  have hw:=zpM b (blN b)
  simp (maxSteps:=4000000) only [go_sem,AV.one,zae,zac,zad,zap,zas,zab,czb,cza,↓reduceIte,hdiv,h3,bits64]
  all_goals (repeat' first | (with_reducible first | rfl | apply And.intro | assumption) | ((with_reducible show zaf _ _ = true); rfl)) <;> try first | omega | (simp only [InR]; omega)
  rfl
def P13 (g:FuncId):=(zax 111 (zbL (fun (all:List Int) (marks:Int) => (all.length ≤ 4096 ∧ ∀ x ∈ all,BOk x) ∧ BOk marks) canB) (zax 64 (zcU BOk (fun b => zsQ b.toNat)) (P12)):zaN) g
theorem P13_ok:zaD Tryz.prog P13:=zaj (zaR Can_call) (zaj (zbm Bits_call) (P12_ok))
theorem zve (d:Option Nat):zaK P13 d = none:=(zai (by decide) d).trans ((zai (by decide) d).trans (zvf d))
attribute [go_sem] P13 zve
def zb8:List Int → List Int → Bool
 | [],[] => false
 | [],_ :: _ => true
 | _ :: _,[] => false
 | a :: r,b :: s => if a = b then zb8 r s else decide (a < b)
theorem zgX {α:Type} [Inhabited α] {l:List α} {i:Nat} (h:i < l.length):l.drop i = at_ l i :: l.drop (i + 1):=by
 rw [zdy h]; exact List.drop_eq_getElem_cons h
theorem ztu (a b:List Int) (h:a.length ≤ 4096 ∧ b.length ≤ 4096):zaU Tryz.prog 119 [Enc.enc a,Enc.enc b] (· = Enc.enc (zb8 a b)):=by
 have h1:=h.1
 have h2:=h.2
 simp only [zcw]
 refine cpz P13_ok Tryz.func119 zaF ?_
 rw [Tryz.ntmps119]
 simp only [Tryz.f119,zah,zaq]
 simp (maxSteps:=4000000) only [go_sem,AV.one,zae,zac,zad,zap,zas,zab,czb,cza,↓reduceIte]
 refine zbA (min a.length b.length) [] [0,1,4] (fun i => [(5,.int .i64 i)]) (fun _ m => m) (fun i => zb8 (a.drop i) (b.drop i) = zb8 a b) ?_ ?_ ?_ ?_
 ·rfl
 ·simp [AV.bare,zal,zaP,zaS,zak,zau,zag,tokz1,lk,zab,zcW]
 ·intro i hi hI
  have ha:i < a.length:=by omega
  have hb:i < b.length:=by omega
  rw [zgX ha,zgX hb,zb8] at hI
  cases c:decide (at_ a i = at_ b i) <;>
   simp (maxSteps:=4000000) only [go_sem,AV.one,zae,zac,zad,zap,zas,zab,czb,cza,↓reduceIte,zat ha,zat hb,czH.2 ha,czH.2 hb,c]
  all_goals all_goals (repeat' first | (with_reducible first | rfl | apply And.intro | assumption) | ((with_reducible show zaf _ _ = true); rfl)) <;> try first | omega | (simp only [InR]; omega)
  ·simp at c
   rw [if_neg c] at hI
   rw [← hI]
  ·simp at c
   rw [if_pos c] at hI
   refine nxt hi hI ?_
   simp [AV.bare,zal,zaP,zaS,zak,zau,zag,tokz1,lk,zab,zcW]
 ·intro hI
  have:a.drop (min a.length b.length) = [] ∨ b.drop (min a.length b.length) = []:=by
   rcases Nat.le_total a.length b.length with q | q
   ·left; exact czM (by omega)
   ·right; exact czM (by omega)
  have hr:decide ((a.length:Int) < b.length) = zb8 a b:=by
   rw [← hI]
   rcases Nat.lt_or_ge a.length b.length with q | q
   ·rw [show min a.length b.length = a.length by omega,List.drop_length,zgX q,zb8]; simpa using q
   ·rw [show min a.length b.length = b.length by omega,List.drop_length]
    have hd:decide ((a.length:Int) < b.length) = false:=by simp; omega
    rw [hd]
    cases List.drop b.length a <;> rfl
  cases c1:decide (((min a.length b.length:Nat):Int) < (a.length:Int)) <;> cases c2:decide (((min a.length b.length:Nat):Int) < (b.length:Int))
  ·simp (maxSteps:=4000000) only [go_sem,AV.one,zae,zac,zad,zap,zas,zab,czb,cza,↓reduceIte,c1,c2,hr]
  ·simp (maxSteps:=4000000) only [go_sem,AV.one,zae,zac,zad,zap,zas,zab,czb,cza,↓reduceIte,c1,c2,hr]
  ·simp (maxSteps:=4000000) only [go_sem,AV.one,zae,zac,zad,zap,zas,zab,czb,cza,↓reduceIte,c1,c2,hr]
  ·simp at c1 c2; omega
def zcA (a b:List Int):Bool:=decide ((a.length:Int) < b.length) || (decide ((a.length:Int) = b.length) && zb8 a b)
def P14 (g:FuncId):=(zax 119 (zbL (fun (a b:List Int) => a.length ≤ 4096 ∧ b.length ≤ 4096) zb8) (P13):zaN) g
theorem P14_ok:zaD Tryz.prog P14:=zaj (zaR ztu) (P13_ok)
theorem zvd (d:Option Nat):zaK P14 d = none:=(zai (by decide) d).trans (zve d)
attribute [go_sem] P14 zvd
theorem zp1 (a b:List Int) (h:a.length ≤ 4096 ∧ b.length ≤ 4096):zaU Tryz.prog 63 [Enc.enc a,Enc.enc b] (· = Enc.enc (zcA a b)):=by
 have h1:=h.1
 have h2:=h.2
 simp only [zcw]
 refine cpz P14_ok Tryz.func63 zaF ?_
 rw [Tryz.ntmps63]
 simp only [Tryz.f63,zah,zaq]
 simp (maxSteps:=4000000) only [go_sem,AV.one,zae,zac,zad,zap,zas,zab,czb,cza,↓reduceIte]
 refine ⟨fun q => ?_,?_⟩
 ·all_goals exact auz
 ·refine ⟨?_,rfl⟩
  cases decide ((a.length:Int) < b.length) <;> simp
def P15 (g:FuncId):=(zax 63 (zbL (fun (a b:List Int) => a.length ≤ 4096 ∧ b.length ≤ 4096) zcA) (P14):zaN) g
theorem P15_ok:zaD Tryz.prog P15:=zaj (zaR zp1) (P14_ok)
theorem zvc (d:Option Nat):zaK P15 d = none:=(zai (by decide) d).trans (zvd d)
attribute [go_sem] P15 zvc
def firstN (all:List Int):Nat → Nat → Int
 | 0,_ => -1
 | f + 1,n => if canB all (2 * 2 ^ n - 1) then firstN all f (n + 1) else n
def firstL (t:Tb) (all:List Int):Int:=firstN all t.marks.length 0
def zhz (all:List Int) (full:Nat):Nat → List Int
 | 0 => zsQ full
 | n + 1 => if zcA (zsQ n) (zhz all full n) && canB all ((full - (full &&& n):Nat):Int) then zsQ n else zhz all full n
def leaveL (t:Tb) (all:List Int):List Int:=zhz all (2 ^ t.marks.length - 1) (2 ^ t.marks.length)
def P16:zaN:=P15
theorem P16_app (g:FuncId):P16 g = (P15) g:=rfl
theorem znb:zaD Tryz.prog P16:=P15_ok
attribute [go_sem] P16_app
theorem zvb (d:Option Nat):zaK P16 d = none:=zvc d
attribute [go_sem] zvb
theorem zq3 (n lo hi:Int):zaU Tryz.prog 157 [Enc.enc n,Enc.enc lo,Enc.enc hi] (· = Enc.enc (inB n lo hi)):=by
 simp only [zcw]
 refine cpz znb Tryz.func157 zaF ?_
 rw [Tryz.ntmps157]
 simp only [Tryz.f157,zah,zaq]
 simp (maxSteps:=4000000) only [go_sem,AV.one,zae,zac,zad,zap,zas,zab,czb,cza,↓reduceIte]
 rfl
theorem size_call (r:Rg) (h:InR .i64 (r.hi - r.lo) ∧ InR .i64 (r.hi - r.lo + 1)):zaU Tryz.prog 153 [Enc.enc r] (· = Enc.enc (r.hi - r.lo + 1)):=by
 simp only [zcw]
 refine cpz znb Tryz.func153 zaF ?_
 rw [Tryz.ntmps153]
 simp only [Tryz.f153,zah,zaq]
 simp (maxSteps:=4000000) only [go_sem,AV.one,zae,zac,zad,zap,zas,zab,czb,cza,↓reduceIte]
 exact h
def zt1:List Int → Int
 | [] => 0
 | x :: r => r.foldl min x
theorem ziu (a b:Int):zt1 [a,b] = min a b:=rfl
theorem minL_snoc (l:List Int) (x:Int) (h:l ≠ []):zt1 (l ++ [x]) = min (zt1 l) x:=by
 cases l with
 | nil => exact absurd rfl h
 | cons y r => simp [zt1,List.foldl_append]
theorem minL_take {l:List Int} {i:Nat} (h:i + 1 < l.length):zt1 (l.take (i + 1 + 1)) = min (zt1 (l.take (i + 1))) (at_ l (i + 1)):=by
 rw [zaX h,minL_snoc]
 intro q
 have:=congrArg List.length q
 rw [czO,czy] at this
 omega
theorem maxL_take {l:List Int} {i:Nat} (h:i + 1 < l.length):zq1 (l.take (i + 1 + 1)) = max (zq1 (l.take (i + 1))) (at_ l (i + 1)):=by
 rw [zaX h,zo2]
 intro q
 have:=congrArg List.length q
 rw [czO,czy] at this
 omega
theorem Min_call (l:List Int) (h:l ≠ [] ∧ l.length ≤ 4096):zaU Tryz.prog 174 [Enc.enc l] (· = Enc.enc (zt1 l)):=by
 have hl:0 < l.length:=List.length_pos_iff.2 h.1
 have h2:=h.2
 simp only [zcw]
 refine cpz znb Tryz.func174 zaF ?_
 rw [Tryz.ntmps174]
 simp only [Tryz.f174,zah,zaq]
 simp (maxSteps:=4000000) only [go_sem,AV.one,zae,zac,zad,zap,zas,zab,czb,cza,↓reduceIte,zat hl,show ¬ ((l.length:Int) < 1) by omega,show (0:Int) < l.length by omega]
 refine zbA (l.length - 1) [] [0,2] (fun i => [(4,.int .i64 ((i + 1:Nat):Int)),(3,.int .i64 (zt1 (l.take (i + 1))))]) (fun _ m => m) (fun _ => True) ?_ ?_ ?_ ?_
 ·trivial
 ·cases l with
  | nil => simp at hl
  | cons x l => simp [AV.bare,zal,zaP,zaS,zak,zau,zag,tokz1,lk,zab,zcW,zt1,at_]
 ·intro i hi _
  have hi2:i + 1 < l.length:=by omega
  simp (maxSteps:=4000000) only [go_sem,AV.one,zae,zac,zad,zap,zas,zab,czb,cza,↓reduceIte,zat hi2,czH.2 hi2]
  all_goals (repeat' first | (with_reducible first | rfl | apply And.intro | assumption) | ((with_reducible show zaf _ _ = true); rfl)) <;> try first | omega | (simp only [InR]; omega)
  refine nxt hi trivial ?_
  have:=minL_take hi2
  simp [AV.bare,zal,zaP,zaS,zak,zau,zag,tokz1,lk,zab,zcW,this]
 ·intro _
  have hn:¬ (((l.length - 1 + 1:Nat):Int) < l.length):=by omega
  simp (maxSteps:=4000000) only [go_sem,AV.one,zae,zac,zad,zap,zas,zab,czb,cza,↓reduceIte,hn]
  rw [cze (by omega)]
theorem Max_call (l:List Int) (h:l ≠ [] ∧ l.length ≤ 4096):zaU Tryz.prog 177 [Enc.enc l] (· = Enc.enc (zq1 l)):=by
 have hl:0 < l.length:=List.length_pos_iff.2 h.1
 have h2:=h.2
 simp only [zcw]
 refine cpz znb Tryz.func177 zaF ?_
 rw [Tryz.ntmps177]
 simp only [Tryz.f177,zah,zaq]
 simp (maxSteps:=4000000) only [go_sem,AV.one,zae,zac,zad,zap,zas,zab,czb,cza,↓reduceIte,zat hl,show ¬ ((l.length:Int) < 1) by omega,show (0:Int) < l.length by omega]
 refine zbA (l.length - 1) [] [0,2] (fun i => [(4,.int .i64 ((i + 1:Nat):Int)),(3,.int .i64 (zq1 (l.take (i + 1))))]) (fun _ m => m) (fun _ => True) ?_ ?_ ?_ ?_
 ·trivial
 ·cases l with
  | nil => simp at hl
  | cons x l => simp [AV.bare,zal,zaP,zaS,zak,zau,zag,tokz1,lk,zab,zcW,zq1,at_]
 ·intro i hi _
  have hi2:i + 1 < l.length:=by omega
  simp (maxSteps:=4000000) only [go_sem,AV.one,zae,zac,zad,zap,zas,zab,czb,cza,↓reduceIte,zat hi2,czH.2 hi2]
  all_goals (repeat' first | (with_reducible first | rfl | apply And.intro | assumption) | ((with_reducible show zaf _ _ = true); rfl)) <;> try first | omega | (simp only [InR]; omega)
  refine nxt hi trivial ?_
  have:=maxL_take hi2
  simp [AV.bare,zal,zaP,zaS,zak,zau,zag,tokz1,lk,zab,zcW,this]
 ·intro _
  have hn:¬ (((l.length - 1 + 1:Nat):Int) < l.length):=by omega
  simp (maxSteps:=4000000) only [go_sem,AV.one,zae,zac,zad,zap,zas,zab,czb,cza,↓reduceIte,hn]
  rw [cze (by omega)]
def zgR (l:List Int) (x:Int):Nat → Nat → Int
 | 0,_ => -1
 | f + 1,n => if x = at_ l n then n else zgR l x f (n + 1)
def zgi (l:List Int) (x:Int):Int:=zgR l x l.length 0
theorem zxm (l:List Int) (x:Int) (h:l.length ≤ 4096):zaU Tryz.prog 139 [Enc.enc l,Enc.enc x] (· = Enc.enc (zgi l x)):=by
 simp only [zcw]
 refine cpz znb Tryz.func139 zaF ?_
 rw [Tryz.ntmps139]
 simp only [Tryz.f139,zah,zaq]
 simp (maxSteps:=4000000) only [go_sem,AV.one,zae,zac,zad,zap,zas,zab,czb,cza,↓reduceIte]
 refine zbA (l.length) [] [0,1,4,7] (fun i => [(8,.int .i64 i)]) (fun _ m => m) (fun i => zgR l x (l.length - i) i = zgi l x) ?_ ?_ ?_ ?_
 ·rfl
 ·simp [AV.bare,zal,zaP,zaS,zak,zau,zag,tokz1,lk,zab,zcW]
 ·intro i hi hI
  rw [show l.length - i = (l.length - (i + 1)) + 1 by omega,zgR] at hI
  cases c:decide (x = at_ l i) <;>
   simp (maxSteps:=4000000) only [go_sem,AV.one,zae,zac,zad,zap,zas,zab,czb,cza,↓reduceIte,zat hi,czH.2 hi,c]
  all_goals all_goals (repeat' first | (with_reducible first | rfl | apply And.intro | assumption) | ((with_reducible show zaf _ _ = true); rfl)) <;> try first | omega | (simp only [InR]; omega)
  ·rw [if_neg (by simpa using c)] at hI
   refine nxt hi hI ?_
   simp [AV.bare,zal,zaP,zaS,zak,zau,zag,tokz1,lk,zab,zcW]
  ·rw [if_pos (by simpa using c)] at hI
   rw [← hI]
 ·intro hI
  simp (maxSteps:=4000000) only [go_sem,AV.one,zae,zac,zad,zap,zas,zab,czb,cza,↓reduceIte]
  rw [← hI]; simp [zgR]
theorem zpl (l:List Int) (x:Int):∀ f n,f + n = l.length → (0 ≤ zgR l x f n ↔ x ∈ l.drop n)
 | 0,n,h => by rw [czM (by omega)]; simp [zgR]
 | f + 1,n,h => by
  rw [zgR,zgX (show n < l.length by omega)]
  by_cases c:x = at_ l n
  ·rw [if_pos c]; simp [c]
  ·rw [if_neg c,zpl l x f (n + 1) (by omega)]; simp [c]
theorem index_mem (l:List Int) (x:Int):decide (0 ≤ zgi l x) = l.contains x:=by
 have:=zpl l x l.length 0 (by omega)
 rw [List.drop_zero] at this
 unfold zgi
 by_cases c:x ∈ l <;> simp [this,c]
def P17 (g:FuncId):=(zax 157 (zeB (fun _ _ _ => True) inB) (zax 153 (zcU (fun r:Rg => InR .i64 (r.hi - r.lo) ∧ InR .i64 (r.hi - r.lo + 1)) (fun r => r.hi - r.lo + 1)) (zax 174 (zcU (fun l:List Int => l ≠ [] ∧ l.length ≤ 4096) zt1) (zax 177 (zcU (fun l:List Int => l ≠ [] ∧ l.length ≤ 4096) zq1) (zax 139 (zbL (fun (l:List Int) (_:Int) => l.length ≤ 4096) zgi) (P16))))):zaN) g
theorem zlL:zaD Tryz.prog P17:=zaj (zcc fun a b c _ => zq3 a b c) (zaj (zbm size_call) (zaj (zbm Min_call) (zaj (zbm Max_call) (zaj (zaR zxm) (znb)))))
theorem zva (d:Option Nat):zaK P17 d = none:=(zai (by decide) d).trans ((zai (by decide) d).trans ((zai (by decide) d).trans ((zai (by decide) d).trans ((zai (by decide) d).trans (zvb d)))))
attribute [go_sem] P17 zva
theorem zsd (n:Int):zaU Tryz.prog 149 [Enc.enc n] (· = Enc.enc (inB n 0 99)):=by
 simp only [zcw]
 refine cpz zlL Tryz.func149 zaF ?_
 rw [Tryz.ntmps149]
 simp only [Tryz.f149,zah,zaq]
 simp (maxSteps:=4000000) only [go_sem,AV.one,zae,zac,zad,zap,zas,zab,czb,cza,↓reduceIte]
theorem has_call (r:Rg) (n:Int):zaU Tryz.prog 155 [Enc.enc r,Enc.enc n] (· = Enc.enc (inB n r.lo r.hi)):=by
 simp only [zcw]
 refine cpz zlL Tryz.func155 zaF ?_
 rw [Tryz.ntmps155]
 simp only [Tryz.f155,zah,zaq]
 simp (maxSteps:=4000000) only [go_sem,AV.one,zae,zac,zad,zap,zas,zab,czb,cza,↓reduceIte]
theorem zoZ (l:List Int) (h:l ≠ [] ∧ l.length ≤ 4096):zaU Tryz.prog 152 [Enc.enc l] (· = Enc.enc (zt1 l)):=by
 simp only [zcw]
 refine cpz zlL Tryz.func152 zaF ?_
 rw [Tryz.ntmps152]
 simp only [Tryz.f152,zah,zaq]
 simp (maxSteps:=4000000) only [go_sem,AV.one,zae,zac,zad,zap,zas,zab,czb,cza,↓reduceIte]
 exact h
theorem zoh (l:List Int) (x:Int) (h:l.length ≤ 4096):zaU Tryz.prog 96 [Enc.enc l,Enc.enc x] (· = Enc.enc (l.contains x)):=by
 simp only [zcw]
 refine cpz zlL Tryz.func96 zaF ?_
 rw [Tryz.ntmps96]
 simp only [Tryz.f96,zah,zaq]
 simp (maxSteps:=4000000) only [go_sem,AV.one,zae,zac,zad,zap,zas,zab,czb,cza,↓reduceIte]
 refine ⟨h,?_⟩
 rw [index_mem]
theorem hour_call (t:Tb) (n:Int):zaU Tryz.prog 126 [Enc.enc t,Enc.enc n] (· = Enc.enc (inB n 0 t.last)):=by
 simp only [zcw]
 refine cpz zlL Tryz.func126 zaF ?_
 rw [Tryz.ntmps126]
 simp only [Tryz.f126,zah,zaq]
 simp (maxSteps:=4000000) only [go_sem,AV.one,zae,zac,zad,zap,zas,zab,czb,cza,↓reduceIte]
theorem row_call (t:Tb) (n:Int) (h:t.levels.length ≤ 4096):zaU Tryz.prog 123 [Enc.enc t,Enc.enc n] (· = Enc.enc (inB n 0 (t.levels.length - 1))):=by
 simp only [zcw]
 refine cpz zlL Tryz.func123 zaF ?_
 rw [Tryz.ntmps123]
 simp only [Tryz.f123,zah,zaq]
 simp (maxSteps:=4000000) only [go_sem,AV.one,zae,zac,zad,zap,zas,zab,czb,cza,↓reduceIte]
 all_goals exact auz
def P18 (g:FuncId):=(zax 149 (zcU (fun _ => True) (fun n => inB n 0 99)) (zax 155 (zbL (fun (_:Rg) (_:Int) => True) (fun r n => inB n r.lo r.hi)) (zax 152 (zcU (fun l:List Int => l ≠ [] ∧ l.length ≤ 4096) zt1) (zax 96 (zbL (fun (l:List Int) (_:Int) => l.length ≤ 4096) (fun l x => l.contains x)) (zax 126 (zbL (fun (_:Tb) (_:Int) => True) (fun t n => inB n 0 t.last)) (zax 123 (zbL (fun (t:Tb) (_:Int) => t.levels.length ≤ 4096) (fun t n => inB n 0 (t.levels.length - 1))) (P17)))))):zaN) g
theorem zp4:zaD Tryz.prog P18:=zaj (zbm fun n _ => zsd n) (zaj (zaR fun r n _ => has_call r n) (zaj (zbm zoZ) (zaj (zaR zoh) (zaj (zaR fun t n _ => hour_call t n) (zaj (zaR row_call) (zlL))))))
theorem zu9 (d:Option Nat):zaK P18 d = none:=(zai (by decide) d).trans ((zai (by decide) d).trans ((zai (by decide) d).trans ((zai (by decide) d).trans ((zai (by decide) d).trans ((zai (by decide) d).trans (zva d))))))
attribute [go_sem] P18 zu9
theorem zwk (r:Rg):(decide (r.lo ≤ r.hi) && inB r.lo 0 99 && inB r.hi 0 99) = zbr r:=by
 rw [Bool.eq_iff_iff]; simp [inB,zbr]; omega
theorem zpn (r:Rg):zaU Tryz.prog 148 [Enc.enc r] (· = Enc.enc (zbr r)):=by
 simp only [zcw]
 refine cpz zp4 Tryz.func148 zaF ?_
 rw [Tryz.ntmps148]
 simp only [Tryz.f148,zah,zaq]
 simp (maxSteps:=4000000) only [go_sem,AV.one,zae,zac,zad,zap,zas,zab,czb,cza,↓reduceIte]
 rw [zwk]
theorem zvn (r:Rg) (n:Int):zaU Tryz.prog 158 [Enc.enc r,Enc.enc n] (· = Enc.enc (zdu r n)):=by
 simp only [zcw]
 refine cpz zp4 Tryz.func158 zaF ?_
 rw [Tryz.ntmps158]
 simp only [Tryz.f158,zah,zaq]
 simp (maxSteps:=4000000) only [go_sem,AV.one,zae,zac,zad,zap,zas,zab,czb,cza,↓reduceIte,ziu]
 exact ⟨rfl,by simp,rfl⟩
theorem zwi (t:Tb) (a b:Int):zaU Tryz.prog 167 [Enc.enc t,Enc.enc a,Enc.enc b] (· = Enc.enc (inB a 0 t.last && inB b 0 t.last && decide (a ≤ b))):=by
 simp only [zcw]
 refine cpz zp4 Tryz.func167 zaF ?_
 rw [Tryz.ntmps167]
 simp only [Tryz.f167,zah,zaq]
 simp (maxSteps:=4000000) only [go_sem,AV.one,zae,zac,zad,zap,zas,zab,czb,cza,↓reduceIte]
theorem zpm (s:Arr 10) (a b:Int) (h:0 ≤ a ∧ a ≤ b ∧ b ≤ 9):zaU Tryz.prog 160 [Enc.enc s,Enc.enc a,Enc.enc b] (· = Enc.enc (zmj s.l a b)):=by
 have h0:=s.h
 obtain ⟨a,rfl⟩:=czu h.1
 obtain ⟨b,rfl⟩:=czu (show 0 ≤ b by omega)
 have e:((b:Int) + 1 - a).toNat = b + 1 - a:=by omega
 have hc:=zrl (l:=s.l) (off:=a) (len:=b + 1 - a) (by omega)
 have hm:((s.l.drop a).take (b + 1 - a)).length ≤ 4096:=by simp; omega
 have hn:(s.l.drop a).take (b + 1 - a) ≠ []:=by
  intro q
  have:=congrArg List.length q
  simp at this
  omega
 simp only [zcw]
 refine cpz zp4 Tryz.func160 zaF ?_
 rw [Tryz.ntmps160]
 simp only [Tryz.f160,zah,zaq]
 simp (maxSteps:=4000000) only [go_sem,AV.one,zae,zac,zad,zap,zas,zab,czb,cza,↓reduceIte,e,hc]
 refine ⟨(by simp only [InR]; omega),⟨by omega,by omega,by omega,by omega⟩,⟨hn,hm⟩,?_⟩
 simp only [zmj,czF,e]
def zdJ (t:Tb) (l:List Int) (out:List Int) (n:Nat):Bool:=(List.range n).all fun i => out.contains (i:Int) || zd8 l (at_ t.marks i)
theorem zkM (t:Tb) (l out:List Int) (n:Nat):zdJ t l out (n + 1) = (zdJ t l out n && (out.contains (n:Int) || zd8 l (at_ t.marks n))):=by
 simp [zdJ,List.range_succ]
theorem zoM {t:Tb} {l out:List Int} {n i:Nat} (h:i < n) (h1:out.contains (i:Int) = false) (h2:zd8 l (at_ t.marks i) = false):zdJ t l out n = false:=by
 rw [zdJ,List.all_eq_false]
 exact ⟨i,by simpa using h,by simp only [h1,h2]; simp⟩
def P19 (g:FuncId):=(zax 148 (zcU (fun _ => True) zbr) (zax 158 (zbL (fun _ _ => True) zdu) (zax 167 (zeB (fun _ _ _ => True) (fun (t:Tb) a b => inB a 0 t.last && inB b 0 t.last && decide (a ≤ b))) (zax 160 (zeB (fun (_:Arr 10) (a b:Int) => 0 ≤ a ∧ a ≤ b ∧ b ≤ 9) (fun s a b => zmj s.l a b)) (P18)))):zaN) g
theorem P19_ok:zaD Tryz.prog P19:=zaj (zbm fun n _ => zpn n) (zaj (zaR fun r n _ => zvn r n) (zaj (zcc fun t a b _ => zwi t a b) (zaj (zcc zpm) (zp4))))
theorem zu8 (d:Option Nat):zaK P19 d = none:=(zai (by decide) d).trans ((zai (by decide) d).trans ((zai (by decide) d).trans ((zai (by decide) d).trans (zu9 d))))
attribute [go_sem] P19 zu8
theorem zvO (t:Tb) (s:Arr 10) (out:List Int) (h:(t.marks.length ≤ 4096 ∧ ∀ m ∈ t.marks,0 ≤ m.frm ∧ m.frm ≤ m.til ∧ m.til ≤ 9) ∧ out.length ≤ 4096):zaU Tryz.prog 130 [Enc.enc t,Enc.enc s,Enc.enc out] (· = Enc.enc (zdJ t s.l out t.marks.length)):=by
 have h0:=s.h
 have h1:=h.1.1
 have h2:=h.2
 simp only [zcw]
 refine cpz P19_ok Tryz.func130 zaF ?_
 rw [Tryz.ntmps130]
 simp only [Tryz.f130,zah,zaq]
 simp (maxSteps:=4000000) only [go_sem,AV.one,zae,zac,zad,zap,zas,zab,czb,cza,↓reduceIte]
 refine zbA (t.marks.length) [] [2,4,6,10,11] (fun i => [(12,.int .i64 i)]) (fun _ m => m) (fun i => zdJ t s.l out i = true) ?_ ?_ ?_ ?_
 ·simp [zdJ]
 ·simp [AV.bare,zal,zaP,zaS,zak,zau,zag,tokz1,lk,zab,zcW]
 ·intro i hi hI
  have hm:=h.1.2 _ (zbb hi)
  have hs:=zkM t s.l out i
  cases c1:out.contains (i:Int) <;> cases c2:zd8 s.l (at_ t.marks i) <;>
   (have c2':=c2; unfold zd8 at c2'; simp (maxSteps:=4000000) only [go_sem,AV.one,zae,zac,zad,zap,zas,zab,czb,cza,↓reduceIte,zat hi,czH.2 hi,c1,c2'])
  all_goals all_goals (repeat' first | (with_reducible first | rfl | apply And.intro | assumption) | ((with_reducible show zaf _ _ = true); rfl)) <;> try first | omega | (simp only [InR]; omega)
  ·rw [zoM hi c1 c2]
  all_goals
   refine nxt hi (by rw [hs,hI,c1,c2]; rfl) ?_
   simp [AV.bare,zal,zaP,zaS,zak,zau,zag,tokz1,lk,zab,zcW]
 ·intro hI
  simp (maxSteps:=4000000) only [go_sem,AV.one,zae,zac,zad,zap,zas,zab,czb,cza,↓reduceIte]
  rw [hI]
def zbu {α:Type} [Inhabited α] (p:α → Bool) (l:List α):Nat → Nat → Int
 | 0,_ => -1
 | f + 1,n => if p (at_ l n) then n else zbu p l f (n + 1)
theorem ze6 {α:Type} [Inhabited α] (p:α → Bool) (l:List α):∀ f n,f + n = l.length → decide (0 ≤ zbu p l f n) = (l.drop n).any p
 | 0,n,h => by rw [czM (by omega)]; rfl
 | f + 1,n,h => by
  rw [zbu,zgX (show n < l.length by omega),List.any_cons]
  cases c:p (at_ l n)
  ·rw [if_neg (by simp),ze6 p l f (n + 1) (by omega)]; rfl
  ·rw [if_pos rfl]; simp
theorem zjm {α:Type} (p:α → Bool) (l:List α):(!l.any fun x => !p x) = l.all p:=by
 induction l with
 | nil => rfl
 | cons x l ih => rw [List.any_cons,List.all_cons,← ih]; cases p x <;> rfl
theorem mark_call (t:Tb) (m:Mk):zaU Tryz.prog 146 [Enc.enc t,Enc.enc m] (· = Enc.enc (zfc t.last m)):=by
 simp only [zcw]
 refine cpz P19_ok Tryz.func146 zaF ?_
 rw [Tryz.ntmps146]
 simp only [Tryz.f146,zah,zaq]
 simp (maxSteps:=4000000) only [go_sem,AV.one,zae,zac,zad,zap,zas,zab,czb,cza,↓reduceIte]
 rfl
def P20 (g:FuncId):=(zax 146 (zbL (fun _ _ => True) (fun (t:Tb) m => zfc t.last m)) (zax 130 (zeB (fun (t:Tb) (_:Arr 10) (out:List Int) => (t.marks.length ≤ 4096 ∧ ∀ m ∈ t.marks,0 ≤ m.frm ∧ m.frm ≤ m.til ∧ m.til ≤ 9) ∧ out.length ≤ 4096) (fun t s out => zdJ t s.l out t.marks.length)) (P19)):zaN) g
theorem P20_ok:zaD Tryz.prog P20:=zaj (zaR fun t m _ => mark_call t m) (zaj (zcc zvO) (P19_ok))
theorem zu7 (d:Option Nat):zaK P20 d = none:=(zai (by decide) d).trans ((zai (by decide) d).trans (zu8 d))
attribute [go_sem] P20 zu7
theorem zw0 (x:Rg) (f:FnL 148):zaU Tryz.prog 169 [Enc.enc x,Enc.enc (RefC.mk f)] (· = Enc.enc (!zbr x)):=by
 simp only [zcw]
 refine cpz P20_ok Tryz.func169 zaF ?_
 rw [Tryz.ntmps169]
 simp only [Tryz.f169,zah,zaq]
 simp (maxSteps:=4000000) only [go_sem,AV.one,zae,zac,zad,zap,zas,zab,czb,cza,↓reduceIte]
def P21 (g:FuncId):=(zax 169 (zbL (fun _ _ => True) (fun (x:Rg) (f:RefC (FnL 148)) => let f:=f.x; !zbr x)) (P20):zaN) g
theorem P21_ok:zaD Tryz.prog P21:=zaj (zaR fun x f _ => zw0 x f.x) (P20_ok)
theorem zu6 (d:Option Nat):zaK P21 d = none:=(zai (by decide) d).trans (zu7 d)
attribute [go_sem] P21 zu6
theorem zwX (l:List (Rg)) (f:FnC 169 (FnL 148)) (h:l.length ≤ 4096):zaU Tryz.prog 178 [Enc.enc l,Enc.enc f] (· = Enc.enc (let f:=f.x; zbu (fun x => !zbr x) l l.length 0)):=by
 obtain ⟨f⟩:=f
 simp only [zcw]
 refine cpz P21_ok Tryz.func178 zaF ?_
 rw [Tryz.ntmps178]
 simp only [Tryz.f178,zah,zaq]
 simp (maxSteps:=4000000) only [go_sem,AV.one,zae,zac,zad,zap,zas,zab,czb,cza,↓reduceIte]
 refine zbA (l.length) [] [0,1,4,7] (fun i => [(8,.int .i64 i)]) (fun _ m => m) (fun i => zbu (fun x => !zbr x) l (l.length - i) i = zbu (fun x => !zbr x) l l.length 0) ?_ ?_ ?_ ?_
 ·rfl
 ·simp [AV.bare,zal,zaP,zaS,zak,zau,zag,tokz1,lk,zab,zcW]
 ·intro i hi hI
  rw [show l.length - i = (l.length - (i + 1)) + 1 by omega,zbu] at hI
  cases c:zbr (at_ l i) <;>
   simp (maxSteps:=4000000) only [go_sem,AV.one,zae,zac,zad,zap,zas,zab,czb,cza,↓reduceIte,zat hi,czH.2 hi,c]
  all_goals all_goals (repeat' first | (with_reducible first | rfl | apply And.intro | assumption) | ((with_reducible show zaf _ _ = true); rfl)) <;> try first | omega | (simp only [InR]; omega)
  ·rw [c] at hI
   rw [← hI]; rfl
  ·rw [c] at hI
   refine nxt hi hI ?_
   simp [AV.bare,zal,zaP,zaS,zak,zau,zag,tokz1,lk,zab,zcW]
 ·intro hI
  simp (maxSteps:=4000000) only [go_sem,AV.one,zae,zac,zad,zap,zas,zab,czb,cza,↓reduceIte]
  rw [← hI]; simp [zbu]
def P22 (g:FuncId):=(zax 178 (zbL (fun (l:List (Rg)) (_:FnC 169 (FnL 148)) => l.length ≤ 4096) (fun l f => let f:=f.x; zbu (fun x => !zbr x) l l.length 0)) (P21):zaN) g
theorem P22_ok:zaD Tryz.prog P22:=zaj (zaR zwX) (P21_ok)
theorem zu5 (d:Option Nat):zaK P22 d = none:=(zai (by decide) d).trans (zu6 d)
attribute [go_sem] P22 zu5
theorem zwY (l:List (Rg)) (f:FnC 169 (FnL 148)) (h:l.length ≤ 4096):zaU Tryz.prog 168 [Enc.enc l,Enc.enc f] (· = Enc.enc (let f:=f.x; l.any (fun x => !zbr x))):=by
 obtain ⟨f⟩:=f
 simp only [zcw]
 refine cpz P22_ok Tryz.func168 zaF ?_
 rw [Tryz.ntmps168]
 simp only [Tryz.f168,zah,zaq]
 simp (maxSteps:=4000000) only [go_sem,AV.one,zae,zac,zad,zap,zas,zab,czb,cza,↓reduceIte]
 all_goals (repeat' first | (with_reducible first | rfl | apply And.intro | assumption) | ((with_reducible show zaf _ _ = true); rfl)) <;> try first | omega | (simp only [InR]; omega)
 congr 1
 exact ze6 (fun x => !zbr x) l l.length 0 (by omega)
def P23 (g:FuncId):=(zax 168 (zbL (fun (l:List (Rg)) (_:FnC 169 (FnL 148)) => l.length ≤ 4096) (fun l f => let f:=f.x; l.any (fun x => !zbr x))) (P22):zaN) g
theorem P23_ok:zaD Tryz.prog P23:=zaj (zaR zwY) (P22_ok)
theorem zu4 (d:Option Nat):zaK P23 d = none:=(zai (by decide) d).trans (zu5 d)
attribute [go_sem] P23 zu4
theorem zwZ (l:List (Rg)) (f:FnL 148) (h:l.length ≤ 4096):zaU Tryz.prog 147 [Enc.enc l,Enc.enc f] (· = Enc.enc (l.all (fun x => zbr x))):=by
 simp only [zcw]
 refine cpz P23_ok Tryz.func147 zaF ?_
 rw [Tryz.ntmps147]
 simp only [Tryz.f147,zah,zaq]
 simp (maxSteps:=4000000) only [go_sem,AV.one,zae,zac,zad,zap,zas,zab,czb,cza,↓reduceIte]
 all_goals (repeat' first | (with_reducible first | rfl | apply And.intro | assumption) | ((with_reducible show zaf _ _ = true); rfl)) <;> try first | omega | (simp only [InR]; omega)
 rw [zjm]
def P24 (g:FuncId):=(zax 147 (zbL (fun (l:List (Rg)) (_:FnL 148) => l.length ≤ 4096) (fun l f => l.all (fun x => zbr x))) (P23):zaN) g
theorem P24_ok:zaD Tryz.prog P24:=zaj (zaR zwZ) (P23_ok)
theorem zu3 (d:Option Nat):zaK P24 d = none:=(zai (by decide) d).trans (zu4 d)
attribute [go_sem] P24 zu3
theorem zw8 (x:Int) (f:FnL 149):zaU Tryz.prog 171 [Enc.enc x,Enc.enc (RefC.mk f)] (· = Enc.enc (!(fun n => inB n 0 99) x)):=by
 simp only [zcw]
 refine cpz P24_ok Tryz.func171 zaF ?_
 rw [Tryz.ntmps171]
 simp only [Tryz.f171,zah,zaq]
 simp (maxSteps:=4000000) only [go_sem,AV.one,zae,zac,zad,zap,zas,zab,czb,cza,↓reduceIte]
def P25 (g:FuncId):=(zax 171 (zbL (fun _ _ => True) (fun (x:Int) (f:RefC (FnL 149)) => let f:=f.x; !(fun n => inB n 0 99) x)) (P24):zaN) g
theorem P25_ok:zaD Tryz.prog P25:=zaj (zaR fun x f _ => zw8 x f.x) (P24_ok)
theorem zu2 (d:Option Nat):zaK P25 d = none:=(zai (by decide) d).trans (zu3 d)
attribute [go_sem] P25 zu2
theorem zw5 (l:List (Int)) (f:FnC 171 (FnL 149)) (h:l.length ≤ 4096):zaU Tryz.prog 179 [Enc.enc l,Enc.enc f] (· = Enc.enc (let f:=f.x; zbu (fun x => !(fun n => inB n 0 99) x) l l.length 0)):=by
 obtain ⟨f⟩:=f
 simp only [zcw]
 refine cpz P25_ok Tryz.func179 zaF ?_
 rw [Tryz.ntmps179]
 simp only [Tryz.f179,zah,zaq]
 simp (maxSteps:=4000000) only [go_sem,AV.one,zae,zac,zad,zap,zas,zab,czb,cza,↓reduceIte]
 refine zbA (l.length) [] [0,1,4,7] (fun i => [(8,.int .i64 i)]) (fun _ m => m) (fun i => zbu (fun x => !(fun n => inB n 0 99) x) l (l.length - i) i = zbu (fun x => !(fun n => inB n 0 99) x) l l.length 0) ?_ ?_ ?_ ?_
 ·rfl
 ·simp [AV.bare,zal,zaP,zaS,zak,zau,zag,tokz1,lk,zab,zcW]
 ·intro i hi hI
  rw [show l.length - i = (l.length - (i + 1)) + 1 by omega,zbu] at hI
  cases c:(fun n => inB n 0 99) (at_ l i) <;>
   simp (maxSteps:=4000000) only [go_sem,AV.one,zae,zac,zad,zap,zas,zab,czb,cza,↓reduceIte,zat hi,czH.2 hi,c]
  all_goals all_goals (repeat' first | (with_reducible first | rfl | apply And.intro | assumption) | ((with_reducible show zaf _ _ = true); rfl)) <;> try first | omega | (simp only [InR]; omega)
  ·rw [c] at hI
   rw [← hI]; rfl
  ·rw [c] at hI
   refine nxt hi hI ?_
   simp [AV.bare,zal,zaP,zaS,zak,zau,zag,tokz1,lk,zab,zcW]
 ·intro hI
  simp (maxSteps:=4000000) only [go_sem,AV.one,zae,zac,zad,zap,zas,zab,czb,cza,↓reduceIte]
  rw [← hI]; simp [zbu]
def P26 (g:FuncId):=(zax 179 (zbL (fun (l:List (Int)) (_:FnC 171 (FnL 149)) => l.length ≤ 4096) (fun l f => let f:=f.x; zbu (fun x => !(fun n => inB n 0 99) x) l l.length 0)) (P25):zaN) g
theorem P26_ok:zaD Tryz.prog P26:=zaj (zaR zw5) (P25_ok)
theorem zu1 (d:Option Nat):zaK P26 d = none:=(zai (by decide) d).trans (zu2 d)
attribute [go_sem] P26 zu1
theorem zw6 (l:List (Int)) (f:FnC 171 (FnL 149)) (h:l.length ≤ 4096):zaU Tryz.prog 170 [Enc.enc l,Enc.enc f] (· = Enc.enc (let f:=f.x; l.any (fun x => !(fun n => inB n 0 99) x))):=by
 obtain ⟨f⟩:=f
 simp only [zcw]
 refine cpz P26_ok Tryz.func170 zaF ?_
 rw [Tryz.ntmps170]
 simp only [Tryz.f170,zah,zaq]
 simp (maxSteps:=4000000) only [go_sem,AV.one,zae,zac,zad,zap,zas,zab,czb,cza,↓reduceIte]
 all_goals (repeat' first | (with_reducible first | rfl | apply And.intro | assumption) | ((with_reducible show zaf _ _ = true); rfl)) <;> try first | omega | (simp only [InR]; omega)
 congr 1
 exact ze6 (fun x => !(fun n => inB n 0 99) x) l l.length 0 (by omega)
def P27 (g:FuncId):=(zax 170 (zbL (fun (l:List (Int)) (_:FnC 171 (FnL 149)) => l.length ≤ 4096) (fun l f => let f:=f.x; l.any (fun x => !(fun n => inB n 0 99) x))) (P26):zaN) g
theorem P27_ok:zaD Tryz.prog P27:=zaj (zaR zw6) (P26_ok)
theorem zu0 (d:Option Nat):zaK P27 d = none:=(zai (by decide) d).trans (zu1 d)
attribute [go_sem] P27 zu0
theorem zw7 (l:List (Int)) (f:FnL 149) (h:l.length ≤ 4096):zaU Tryz.prog 150 [Enc.enc l,Enc.enc f] (· = Enc.enc (l.all (fun x => (fun n => inB n 0 99) x))):=by
 simp only [zcw]
 refine cpz P27_ok Tryz.func150 zaF ?_
 rw [Tryz.ntmps150]
 simp only [Tryz.f150,zah,zaq]
 simp (maxSteps:=4000000) only [go_sem,AV.one,zae,zac,zad,zap,zas,zab,czb,cza,↓reduceIte]
 all_goals (repeat' first | (with_reducible first | rfl | apply And.intro | assumption) | ((with_reducible show zaf _ _ = true); rfl)) <;> try first | omega | (simp only [InR]; omega)
 rw [zjm]
def P28 (g:FuncId):=(zax 150 (zbL (fun (l:List (Int)) (_:FnL 149) => l.length ≤ 4096) (fun l f => l.all (fun x => (fun n => inB n 0 99) x))) (P27):zaN) g
theorem P28_ok:zaD Tryz.prog P28:=zaj (zaR zw7) (P27_ok)
theorem zuZ (d:Option Nat):zaK P28 d = none:=(zai (by decide) d).trans (zu0 d)
attribute [go_sem] P28 zuZ
theorem zw4 (x:Mk) (f:FnB 146 Tb):zaU Tryz.prog 173 [Enc.enc x,Enc.enc (RefC.mk f)] (· = Enc.enc (!zfc f.x.last x)):=by
 simp only [zcw]
 refine cpz P28_ok Tryz.func173 zaF ?_
 rw [Tryz.ntmps173]
 simp only [Tryz.f173,zah,zaq]
 simp (maxSteps:=4000000) only [go_sem,AV.one,zae,zac,zad,zap,zas,zab,czb,cza,↓reduceIte]
def P29 (g:FuncId):=(zax 173 (zbL (fun _ _ => True) (fun (x:Mk) (f:RefC (FnB 146 Tb)) => let f:=f.x; !zfc f.x.last x)) (P28):zaN) g
theorem P29_ok:zaD Tryz.prog P29:=zaj (zaR fun x f _ => zw4 x f.x) (P28_ok)
theorem zuY (d:Option Nat):zaK P29 d = none:=(zai (by decide) d).trans (zuZ d)
attribute [go_sem] P29 zuY
theorem zw1 (l:List (Mk)) (f:FnC 173 (FnB 146 Tb)) (h:l.length ≤ 4096):zaU Tryz.prog 180 [Enc.enc l,Enc.enc f] (· = Enc.enc (let f:=f.x; zbu (fun x => !zfc f.x.last x) l l.length 0)):=by
 obtain ⟨f⟩:=f
 simp only [zcw]
 refine cpz P29_ok Tryz.func180 zaF ?_
 rw [Tryz.ntmps180]
 simp only [Tryz.f180,zah,zaq]
 simp (maxSteps:=4000000) only [go_sem,AV.one,zae,zac,zad,zap,zas,zab,czb,cza,↓reduceIte]
 refine zbA (l.length) [] [0,1,4,7] (fun i => [(8,.int .i64 i)]) (fun _ m => m) (fun i => zbu (fun x => !zfc f.x.last x) l (l.length - i) i = zbu (fun x => !zfc f.x.last x) l l.length 0) ?_ ?_ ?_ ?_
 ·rfl
 ·simp [AV.bare,zal,zaP,zaS,zak,zau,zag,tokz1,lk,zab,zcW]
 ·intro i hi hI
  rw [show l.length - i = (l.length - (i + 1)) + 1 by omega,zbu] at hI
  cases c:zfc f.x.last (at_ l i) <;>
   simp (maxSteps:=4000000) only [go_sem,AV.one,zae,zac,zad,zap,zas,zab,czb,cza,↓reduceIte,zat hi,czH.2 hi,c]
  all_goals all_goals (repeat' first | (with_reducible first | rfl | apply And.intro | assumption) | ((with_reducible show zaf _ _ = true); rfl)) <;> try first | omega | (simp only [InR]; omega)
  ·rw [c] at hI
   rw [← hI]; rfl
  ·rw [c] at hI
   refine nxt hi hI ?_
   simp [AV.bare,zal,zaP,zaS,zak,zau,zag,tokz1,lk,zab,zcW]
 ·intro hI
  simp (maxSteps:=4000000) only [go_sem,AV.one,zae,zac,zad,zap,zas,zab,czb,cza,↓reduceIte]
  rw [← hI]; simp [zbu]
def P30 (g:FuncId):=(zax 180 (zbL (fun (l:List (Mk)) (_:FnC 173 (FnB 146 Tb)) => l.length ≤ 4096) (fun l f => let f:=f.x; zbu (fun x => !zfc f.x.last x) l l.length 0)) (P29):zaN) g
theorem P30_ok:zaD Tryz.prog P30:=zaj (zaR zw1) (P29_ok)
theorem zuX (d:Option Nat):zaK P30 d = none:=(zai (by decide) d).trans (zuY d)
attribute [go_sem] P30 zuX
theorem zw2 (l:List (Mk)) (f:FnC 173 (FnB 146 Tb)) (h:l.length ≤ 4096):zaU Tryz.prog 172 [Enc.enc l,Enc.enc f] (· = Enc.enc (let f:=f.x; l.any (fun x => !zfc f.x.last x))):=by
 obtain ⟨f⟩:=f
 simp only [zcw]
 refine cpz P30_ok Tryz.func172 zaF ?_
 rw [Tryz.ntmps172]
 simp only [Tryz.f172,zah,zaq]
 simp (maxSteps:=4000000) only [go_sem,AV.one,zae,zac,zad,zap,zas,zab,czb,cza,↓reduceIte]
 all_goals (repeat' first | (with_reducible first | rfl | apply And.intro | assumption) | ((with_reducible show zaf _ _ = true); rfl)) <;> try first | omega | (simp only [InR]; omega)
 congr 1
 exact ze6 (fun x => !zfc f.x.last x) l l.length 0 (by omega)
def P31 (g:FuncId):=(zax 172 (zbL (fun (l:List (Mk)) (_:FnC 173 (FnB 146 Tb)) => l.length ≤ 4096) (fun l f => let f:=f.x; l.any (fun x => !zfc f.x.last x))) (P30):zaN) g
theorem P31_ok:zaD Tryz.prog P31:=zaj (zaR zw2) (P30_ok)
theorem zuW (d:Option Nat):zaK P31 d = none:=(zai (by decide) d).trans (zuX d)
attribute [go_sem] P31 zuW
theorem zw3 (l:List (Mk)) (f:FnB 146 Tb) (h:l.length ≤ 4096):zaU Tryz.prog 151 [Enc.enc l,Enc.enc f] (· = Enc.enc (l.all (fun x => zfc f.x.last x))):=by
 simp only [zcw]
 refine cpz P31_ok Tryz.func151 zaF ?_
 rw [Tryz.ntmps151]
 simp only [Tryz.f151,zah,zaq]
 simp (maxSteps:=4000000) only [go_sem,AV.one,zae,zac,zad,zap,zas,zab,czb,cza,↓reduceIte]
 all_goals (repeat' first | (with_reducible first | rfl | apply And.intro | assumption) | ((with_reducible show zaf _ _ = true); rfl)) <;> try first | omega | (simp only [InR]; omega)
 rw [zjm]
def P32 (g:FuncId):=(zax 151 (zbL (fun (l:List (Mk)) (_:FnB 146 Tb) => l.length ≤ 4096) (fun l f => l.all (fun x => zfc f.x.last x))) (P31):zaN) g
theorem zuU:zaD Tryz.prog P32:=zaj (zaR zw3) (P31_ok)
theorem zuV (d:Option Nat):zaK P32 d = none:=(zai (by decide) d).trans (zuW d)
attribute [go_sem] P32 zuV
instance {α β:Type} [Enc α] [Enc β]:Enc (α × β) where
 enc p:=.tup [Enc.enc p.1,Enc.enc p.2]
 dec
  | .tup [a,b] => match (Enc.dec a:Option α),(Enc.dec b:Option β) with
   | some a,some b => some (a,b)
   | _,_ => none
  | _ => none
 law v x h:=by
  split at h
  ·split at h
   ·rename_i h1 h2
    cases h
    rw [Enc.law _ _ h1,Enc.law _ _ h2]
   ·cases h
  ·cases h
 dep:=max (Enc.dep α) (Enc.dep β) + 1
 ok x:=by
  have key:∀ n m (v:AV),zbt n v → n ≤ m → zbt m v:=by
   intro n
   induction n with
   | zero => intro m v h; simp [zbt] at h
   | succ n ih =>
    intro m v h hm
    obtain ⟨m,rfl⟩:∃ k,m = k + 1:=⟨m - 1,by omega⟩
    cases v <;> simp only [zbt] at h ⊢
    ·exact fun c hc => ih m c (h c hc) (by omega)
    ·exact fun c hc => ih m c (h c hc) (by omega)
    ·exact ⟨h.1,fun e he c hc => ih m c (h.2 e he c hc) (by omega)⟩
    ·exact fun c hc => ih m c (h c hc) (by omega)
    ·exact ⟨fun c hc => ih m c (h.1 c hc) (by omega),fun c hc => ih m c (h.2 c hc) (by omega)⟩
    ·exact fun c hc => ih m c (h c hc) (by omega)
  simp only [zbt,czn,czk,or_false,forall_eq_or_imp,forall_eq]
  exact ⟨key _ _ _ (Enc.ok x.1) (by omega),key _ _ _ (Enc.ok x.2) (by omega)⟩
theorem zaa {α β:Type} [Enc α] [Enc β] (p:α × β):Enc.enc p = .tup [Enc.enc p.1,Enc.enc p.2]:=rfl
theorem zcO (k:IntKind) (n:Int):(AV.int k n).one = true:=rfl
def zdp (t:Tb) (l:List Int) (h:Int):Bool:=decide (h = 0) || inB (at_ l h.toNat - at_ l (h - 1).toNat) (-t.step) t.step
theorem near_call (t:Tb) (s:Arr 10) (h:Int) (hp:((0 ≤ t.step ∧ t.step ≤ 99) ∧ 0 ≤ h ∧ h ≤ 9) ∧ (0 ≤ at_ s.l h.toNat ∧ at_ s.l h.toNat ≤ 99) ∧ (h ≠ 0 → 0 ≤ at_ s.l (h - 1).toNat ∧ at_ s.l (h - 1).toNat ≤ 99)) :
  zaU Tryz.prog 156 [Enc.enc t,Enc.enc s,Enc.enc h] (· = Enc.enc (zdp t s.l h)):=by
 have h0:=s.h
 have e1:=zfG (l:=s.l) (i:=h.toNat) (by omega)
 have e2:=zfG (l:=s.l) (i:=(h - 1).toNat) (by omega)
 cases c:decide (h = 0)
 ·have hq:=hp.2.2 (by simpa using c)
  simp only [zcw]
  refine cpz zuU Tryz.func156 zaF ?_
  rw [Tryz.ntmps156]
  simp only [Tryz.f156,zah,zaq]
  simp (maxSteps:=4000000) only [go_sem,AV.one,zae,zac,zad,zap,zas,zab,czb,cza,↓reduceIte,e1,e2,c]
  all_goals (repeat' first | (with_reducible first | rfl | apply And.intro | assumption) | ((with_reducible show zaf _ _ = true); rfl)) <;> try first | omega | (simp only [InR]; omega)
  ·simp at c; omega
  ·simp [zdp,c]
 ·simp only [zcw]
  refine cpz zuU Tryz.func156 zaF ?_
  rw [Tryz.ntmps156]
  simp only [Tryz.f156,zah,zaq]
  simp (maxSteps:=4000000) only [go_sem,AV.one,zae,zac,zad,zap,zas,zab,czb,cza,↓reduceIte,e1,e2,c]
  all_goals (repeat' first | (with_reducible first | rfl | apply And.intro | assumption) | ((with_reducible show zaf _ _ = true); rfl)) <;> try first | omega | (simp only [InR]; omega)
  simp [zdp,c]
theorem wet_call (t:Tb) (s:Arr 10) (level:Int) (h:0 ≤ t.last ∧ t.last ≤ 9):zaU Tryz.prog 116 [Enc.enc t,Enc.enc s,Enc.enc level] (· = Enc.enc (zjr s.l level (t.last + 1).toNat)):=by
 have h0:=s.h
 obtain ⟨k,hk⟩:=czu h.1
 have e:(t.last + 1 - 0).toNat = k + 1:=by omega
 have e':(t.last + 1).toNat = k + 1:=by omega
 rw [e']
 simp only [zcw]
 refine cpz zuU Tryz.func116 zaF ?_
 rw [Tryz.ntmps116]
 simp only [Tryz.f116,zah,zaq]
 simp (maxSteps:=4000000) only [go_sem,AV.one,zae,zac,zad,zap,zas,zab,czb,cza,↓reduceIte,e]
 refine ⟨(by simp only [InR]; omega),⟨by omega,by omega,by omega⟩,?_⟩
 refine zbA (k + 1) [.slot 6 1] [2,12,13] (fun i => [(14,.int .i64 i),(6,.sl ((zjr s.l level i).map EncE.cs) (.own 2))]) (fun i m => m.set 2 (.tok (zjr s.l level i).length 1)) (fun _ => True) ?_ ?_ ?_ ?_
 ·trivial
 ·simp [AV.bare,zal,zaP,zaS,zak,zau,zag,tokz1,lk,zab,zcW,zjr]
 ·intro i hi _
  have hw:=zh1 s.l level i
  have e1:=zfG (l:=s.l) (i:=i) (by omega)
  cases c:decide (level < at_ s.l i) <;>
   simp (maxSteps:=4000000) only [go_sem,AV.one,zae,zac,zad,zap,zas,zab,czb,cza,↓reduceIte,e1,czH.2 hi,c]
  all_goals all_goals (repeat' first | (with_reducible first | rfl | apply And.intro | assumption) | ((with_reducible show zaf _ _ = true); rfl)) <;> try first | omega | (simp only [InR]; omega)
  all_goals
   refine nxt hi trivial ?_
   simp at c
   simp [AV.bare,zal,zaP,zaS,zak,zau,zag,tokz1,lk,zab,zcW,wetN_succ,c]
   try (intro q; omega)
   try omega
 ·intro _
  simp (maxSteps:=4000000) only [go_sem,AV.one,zae,zac,zad,zap,zas,zab,czb,cza,↓reduceIte]
def P33 (g:FuncId):=(zax 156 (zeB (fun (t:Tb) (s:Arr 10) (h:Int) => ((0 ≤ t.step ∧ t.step ≤ 99) ∧ 0 ≤ h ∧ h ≤ 9) ∧ (0 ≤ at_ s.l h.toNat ∧ at_ s.l h.toNat ≤ 99) ∧ (h ≠ 0 → 0 ≤ at_ s.l (h - 1).toNat ∧ at_ s.l (h - 1).toNat ≤ 99)) (fun t s h => zdp t s.l h)) (zax 116 (zeB (fun (t:Tb) (_:Arr 10) (_:Int) => 0 ≤ t.last ∧ t.last ≤ 9) (fun t s level => zjr s.l level (t.last + 1).toNat)) (P32)):zaN) g
theorem P33_ok:zaD Tryz.prog P33:=zaj (zcc near_call) (zaj (zcc wet_call) (zuU))
theorem zuT (d:Option Nat):zaK P33 d = none:=(zai (by decide) d).trans ((zai (by decide) d).trans (zuV d))
attribute [go_sem] P33 zuT
structure VOk (t:Tb):Prop where
 hok:HOk t
 mok:MOk t
 last:(t.heights.length:Int) = t.last + 1
 lv:t.levels.length ≤ 6
 lvb:∀ x ∈ t.levels,0 ≤ x ∧ x ≤ 99
 many:zde t.heights ≤ 2000
 some:zbH t ≠ []
theorem VOk.l0 {t:Tb} (h:VOk t):0 ≤ t.last + 1:=by have:=h.last; omega
theorem VOk.l9 {t:Tb} (h:VOk t):t.last ≤ 9:=by have:=h.last; have:=h.hok.len; omega
def zdv (l:List Int):List Int:=l.take 10 ++ List.replicate (10 - l.length) 0
def zft (l:List Int):Arr 10:=⟨zdv l,by simp [zdv]; omega⟩
def zeroA10:Arr 10:=⟨List.replicate 10 0,by simp⟩
theorem zhy {l:List Int} {i:Nat} (h:i < l.length) (h10:i < 10):at_ (zdv l) i = at_ l i:=by
 unfold zdv
 rw [zmb (by simp; omega)]
 simp [at_,List.getD,h10]
def zdr (t:Tb) (l:List Int):Arr 10 × Bool:=if (l.length:Int) = t.last + 1 then (zft l,za3 t l) else (zeroA10,false)
theorem zkU {t:Tb} {l:List Int} {i:Nat} (hi:i < l.length) (h10:i < 10):zcu t.step (l.take (i + 1)) = (zcu t.step (l.take i) && zdp t (zdv l) i):=by
 cases i with
 | zero =>
  cases l with
  | nil => simp at hi
  | cons x l => simp [zcu,zdp]
 | succ i =>
  rw [zmF _ _ _ hi]
  congr 1
  have e0:((i + 1:Nat):Int).toNat = i + 1:=by omega
  have e1:(((i + 1:Nat):Int) - 1).toNat = i:=by omega
  unfold zdp
  rw [e0,e1,zhy hi h10,zhy (show i < l.length by omega) (by omega),Bool.eq_iff_iff]
  simp [inB]
  omega
theorem znK {t:Tb} {l:List Int} {i:Nat} (hi:i < l.length) (h10:i < 10) (h:zdp t (zdv l) i = false):za3 t l = false:=by
 cases c:za3 t l
 ·rfl
 ·simp only [za3,czl] at c
  have:=zja t.step l (i + 1) c.2.2
  rw [zkU hi h10,h] at this
  simp at this
theorem zr0 (t:Tb) (l:List Int) (h:(HOk t ∧ (t.heights.length:Int) = t.last + 1 ∧ 0 ≤ t.last) ∧ l.length ≤ 4096):zaU Tryz.prog 115 [Enc.enc t,Enc.enc l] (· = Enc.enc (zdr t l)):=by
 obtain ⟨⟨hok,hl,h0⟩,hl4⟩:=h
 have hl9:t.last ≤ 9:=by have:=hok.len; omega
 have hz:=hok.s0
 have hz1:=hok.s1
 simp only [zaa]
 cases c:decide ((l.length:Int) = t.last + 1)
 ·have e:zdr t l = (zeroA10,false):=by unfold zdr; rw [if_neg (by simpa using c)]
  rw [e]
  simp only [zcw]
  refine cpz P33_ok Tryz.func115 zaF ?_
  rw [Tryz.ntmps115]
  simp only [Tryz.f115,zah,zaq]
  simp (maxSteps:=4000000) only [go_sem,AV.one,zae,zac,zad,zap,zas,zab,czb,cza,↓reduceIte,c]
  all_goals (repeat' first | (with_reducible first | rfl | apply And.intro | assumption) | ((with_reducible show zaf _ _ = true); rfl)) <;> try first | omega | (simp only [InR]; omega)
  all_goals rfl
 ·have e:zdr t l = (zft l,za3 t l):=by unfold zdr; rw [if_pos (by simpa using c)]
  rw [e]
  have hlen:(l.length:Int) = t.last + 1:=by simpa using c
  have e10:(((10:Nat):Int) - 0).toNat = 10:=rfl
  have hflat:(List.take 10 (List.map EncE.cs l)).flatten ++ List.drop (List.take 10 (List.map EncE.cs l)).flatten.length
    [AV.int IntKind.i64 0,AV.int IntKind.i64 0,AV.int IntKind.i64 0,AV.int IntKind.i64 0,AV.int IntKind.i64 0,AV.int IntKind.i64 0,AV.int IntKind.i64 0,AV.int IntKind.i64 0,AV.int IntKind.i64 0,AV.int IntKind.i64 0] = (zft l).l.map (AV.int .i64):=by
   rw [← List.map_take,flat_ints,show [AV.int IntKind.i64 0,AV.int IntKind.i64 0,AV.int IntKind.i64 0,AV.int IntKind.i64 0,AV.int IntKind.i64 0,AV.int IntKind.i64 0,AV.int IntKind.i64 0,AV.int IntKind.i64 0,AV.int IntKind.i64 0,AV.int IntKind.i64 0] = (List.replicate 10 (0:Int)).map (AV.int .i64) from rfl,← List.map_drop,← List.map_append,List.drop_replicate]
   unfold zft zdv
   simp
   omega
  have hp:=(zft l).h
  have hd:(zft l).l.drop 10 = []:=czM (by omega)
  have hps:(zft l).l = zdv l:=rfl
  simp only [zcw]
  refine cpz P33_ok Tryz.func115 zaF ?_
  rw [Tryz.ntmps115]
  simp only [Tryz.f115,zah,zaq]
  simp (maxSteps:=4000000) only [go_sem,zae,zac,zad,zap,zas,zab,czb,cza,↓reduceIte,c,e10,hflat,zcO]
  refine ⟨(by simp only [InR]; omega),⟨by omega,by omega⟩,?_,?_⟩
  ·intro x hx c hc
   obtain ⟨y,_,rfl⟩:=czx.1 hx
   simp only [zeI,czn,czk,or_false] at hc
   subst hc
   exact ⟨rfl,rfl⟩
  refine zbA (l.length) [] [2,4,5,18,19] (fun i => [(20,.int .i64 i)]) (fun _ m => m) (fun i => ((zgs l t.heights).take i).all id = true ∧ zcu t.step (l.take i) = true) ?_ ?_ ?_ ?_
  ·simp [zcu]
  ·simp [AV.bare,zal,zaP,zaS,zak,zau,zag,tokz1,lk,zab,zcW]
  ·intro i hi hI
   have h2:i < t.heights.length:=by omega
   have h3:i < (zgs l t.heights).length:=by rw [zfe]; omega
   have hz3:=zhF hi h2
   have hat:=zhy hi (by omega)
   have hr:=hok.h _ (zbb h2)
   have hnr:=zkU (t:=t) hi (by omega)
   rw [← hps] at hat hnr
   have hprev:(i:Int) ≠ 0 → 0 ≤ at_ (zft l).l ((i:Int) - 1).toNat ∧ at_ (zft l).l ((i:Int) - 1).toNat ≤ 99:=by
    intro q
    have e1:((i:Int) - 1).toNat = i - 1:=by omega
    have hz4:=zhF (show i - 1 < l.length by omega) (show i - 1 < t.heights.length by omega)
    have hr2:=hok.h _ (zbb (show i - 1 < t.heights.length by omega))
    have hm:at_ (zgs l t.heights) (i - 1) = true:=by
     have:=czG.1 hI.1 (at_ (zgs l t.heights) (i - 1)) (by
      rw [zdy (show i - 1 < (zgs l t.heights).length by omega)]
      exact List.mem_take_iff_getElem.2 ⟨i - 1,by omega,rfl⟩)
     exact this
    rw [hz4] at hm
    have:=(zbn _ _ _).1 hm
    rw [e1,hps,zhy (show i - 1 < l.length by omega) (by omega)]
    omega
   cases c1:inB (at_ l i) (at_ t.heights i).lo (at_ t.heights i).hi
   ·simp (maxSteps:=4000000) only [go_sem,zae,zac,zad,zap,zas,zab,czb,cza,↓reduceIte,zat hi,zat h2,czH.2 hi,c1,hp,hd,zcO]
    all_goals (repeat' first | (with_reducible first | rfl | apply And.intro | assumption) | ((with_reducible show zaf _ _ = true); rfl)) <;> try first | omega | (simp only [InR]; omega)
    rw [za3,zgk h3 (by rw [hz3,c1]; rfl)]; rfl
   ·have g1:=(zbn _ _ _).1 c1
    have g2:0 ≤ at_ (zft l).l i ∧ at_ (zft l).l i ≤ 99:=by rw [hat]; omega
    cases c2:zdp t (zft l).l i
    all_goals
     simp (maxSteps:=4000000) only [go_sem,zae,zac,zad,zap,zas,zab,czb,cza,↓reduceIte,zat hi,zat h2,czH.2 hi,c1,c2,hp,hd,zcO]
     all_goals (repeat' first | (with_reducible first | rfl | apply And.intro | assumption) | ((with_reducible show zaf _ _ = true); rfl)) <;> try first | omega | (simp only [InR]; omega)
    ·rw [znK hi (by omega) c2]
    ·refine nxt hi ⟨?_,?_⟩ ?_
     ·rw [zer h3,hI.1,hz3,c1]; rfl
     ·rw [hnr,hI.2,c2]; rfl
     ·simp [AV.bare,zal,zaP,zaS,zak,zau,zag,tokz1,lk,zab,zcW]
  ·intro hI
   simp (maxSteps:=4000000) only [go_sem,zae,zac,zad,zap,zas,zab,czb,cza,↓reduceIte,hp,hd,zcO]
   all_goals (repeat' first | (with_reducible first | rfl | apply And.intro | assumption) | ((with_reducible show zaf _ _ = true); rfl)) <;> try first | omega | (simp only [InR]; omega)
   have e1:(zgs l t.heights).take l.length = zgs l t.heights:=cze (by rw [zfe]; omega)
   rw [e1,czm] at hI
   rw [za3,hI.1,hI.2]
   simp; omega
def P34 (g:FuncId):=(zax 115 (zbL (fun (t:Tb) (l:List Int) => (HOk t ∧ (t.heights.length:Int) = t.last + 1 ∧ 0 ≤ t.last) ∧ l.length ≤ 4096) zdr) (P33):zaN) g
theorem zp3:zaD Tryz.prog P34:=zaj (zaR zr0) (P33_ok)
theorem zuS (d:Option Nat):zaK P34 d = none:=(zai (by decide) d).trans (zuT d)
attribute [go_sem] P34 zuS
end Go.Proofs
