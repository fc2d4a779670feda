/- The texts S4, S5, S6, S7, S8, S9, S10, joined. -/
import Derived.Test.YtgfkmkkoligobaaGreatG7
set_option linter.all false
namespace Go.Proofs
open Go.Fs
set_option maxHeartbeats 4000000
set_option maxRecDepth 8000
theorem zgj (s:Sh) (h:s.stacks.length ≤ 4096):zaH Tryz.prog 41 [Enc.enc s] (· = Enc.enc (zdt s)):=by
 unfold zdt
 cases c0:decide ((s.stacks.length:Int) > 8)
 ·rw [if_neg (by simp at c0; omega)]
  cases c1:inB s.hands 0 3
  ·simp only [zd3]
   refine cpz zje Tryz.func41 zaA ?_
   rw [Tryz.ntmps41]
   simp only [Tryz.f41,zaj,zao]
   simp (maxSteps:=4000000) only [go_sem,AV.one,zae,zab,zac,zan,zaq,zaa,czb,cza,↓reduceIte,zaf,onz,c0,c1]
   all_goals exact auz
  cases c2:zdr s.rain
  ·simp only [zd3]
   refine cpz zje Tryz.func41 zaA ?_
   rw [Tryz.ntmps41]
   simp only [Tryz.f41,zaj,zao]
   simp (maxSteps:=4000000) only [go_sem,AV.one,zae,zab,zac,zan,zaq,zaa,czb,cza,↓reduceIte,zaf,onz,c0,c1,c2]
   all_goals exact auz
  cases c3:s.stacks.all zbR
  ·simp only [zd3]
   refine cpz zje Tryz.func41 zaA ?_
   rw [Tryz.ntmps41]
   simp only [Tryz.f41,zaj,zao]
   simp (maxSteps:=4000000) only [go_sem,AV.one,zae,zab,zac,zan,zaq,zaa,czb,cza,↓reduceIte,zaf,onz,c0,c1,c2,c3]
   all_goals exact auz
  ·simp only [zd3]
   refine cpz zje Tryz.func41 zaA ?_
   rw [Tryz.ntmps41]
   simp only [Tryz.f41,zaj,zao]
   simp (maxSteps:=4000000) only [go_sem,AV.one,zae,zab,zac,zan,zaq,zaa,czb,cza,↓reduceIte,zaf,onz,c0,c1,c2,c3]
   all_goals exact auz
 ·rw [if_pos (by simp at c0; omega)]
  simp only [zd3]
  refine cpz zje Tryz.func41 zaA ?_
  rw [Tryz.ntmps41]
  simp only [Tryz.f41,zaj,zao]
  simp (maxSteps:=4000000) only [go_sem,AV.one,zae,zab,zac,zan,zaq,zaa,czb,cza,↓reduceIte,zaf,onz,c0]
def hcnt (l:List Int):List Int:=(List.range 18).map fun k:Nat => ((l.countP fun q => decide (q = (k:Int)):Nat):Int)
theorem hcnt_len (l:List Int):(hcnt l).length = 18:=by simp [hcnt]
def hA (l:List Int):Arr 18:=⟨hcnt l,hcnt_len l⟩
theorem zeg:∀ (n:Nat) (l:List Int),l.length = n → zb7 1 n (l.map (AV.int .i64)) = l.map EncE.cs
 | 0,[],_ => rfl
 | n + 1,x :: l,h => by
  simp only [czb,zb7,List.take_succ_cons,List.take_zero,List.drop_succ_cons,List.drop_zero]
  rw [zeg n l (by simpa using h)]
  rfl
def P19 (g:FuncId):=(zat 41 (zbN (fun s:Sh => s.stacks.length ≤ 4096) zdt) (P18):zay) g
theorem P19_ok:zam Tryz.prog P19:=zah (zaN fun s h => zgj s h) (zje)
theorem zpr (d:Option Nat):zaw P19 d = none:=(zag (by decide) d).trans (zps d)
attribute [go_sem] P19 zpr
theorem span_call (s:Sh) (i:Int) (h:(0 ≤ i ∧ i < s.stacks.length) ∧ InR .i64 (spS s i)):zaH Tryz.prog 68 [Enc.enc s,Enc.enc i] (· = Enc.enc (spS s i)):=by
 obtain ⟨⟨h0,h1⟩,h3⟩:=h
 obtain ⟨k,rfl⟩:=czu h0
 have hk:k < s.stacks.length:=by omega
 unfold spS at h3 ⊢
 rw [czF] at h3 ⊢
 simp only [zd3]
 refine cpz P19_ok Tryz.func68 zaA ?_
 rw [Tryz.ntmps68]
 simp only [Tryz.f68,zaj,zao]
 simp (maxSteps:=4000000) only [go_sem,AV.one,zae,zab,zac,zan,zaq,zaa,czb,cza,↓reduceIte,zaf,onz,zar hk]
 all_goals exact auz
def P20 (g:FuncId):=(zat 68 (zbD (fun (s:Sh) (i:Int) => (0 ≤ i ∧ i < s.stacks.length) ∧ InR .i64 (spS s i)) spS) (P19):zay) g
theorem P20_ok:zam Tryz.prog P20:=zah (zaK span_call) (P19_ok)
theorem zpq (d:Option Nat):zaw P20 d = none:=(zag (by decide) d).trans (zpr d)
attribute [go_sem] P20 zpq
def sureS (s:Sh) (plan:List Int):Int:=zig plan.length (fun i => chS s i) (fun i => zgm (at_ plan i) (spS s i))
theorem zqQ (s:Sh) (i:Nat):chS s i = (at_ s.stacks i).chairs:=by simp [chS]
theorem sure_call (s:Sh) (plan:List Int) (h:ShOk s ∧ plan.length = s.stacks.length):zaH Tryz.prog 44 [Enc.enc s,Enc.enc plan] (· = Enc.enc (sureS s plan)):=by
 obtain ⟨hs,hl⟩:=h
 have h8:=hs.len
 unfold sureS
 simp only [zd3]
 refine cpz P20_ok Tryz.func44 zaA ?_
 rw [Tryz.ntmps44]
 simp only [Tryz.f44,zaj,zao]
 simp (maxSteps:=4000000) only [go_sem,AV.one,zae,zab,zac,zan,zaq,zaa,czb,cza,↓reduceIte,zaf,onz]
 refine zbg (plan.length) [] [2,7,8] (fun i => [(9,.int .i64 i),(4,.int .i64 (zig i (fun i => chS s i) (fun i => zgm (at_ plan i) (spS s i))))]) (fun _ m => m) (fun _ => True) ?_ ?_ ?_ ?_
 ·trivial
 ·simp [AV.bare,zal,zaF,zaI,zak,zas,zai,tokz1,lk,zaa,zcs,zig]
 ·intro i hi _
  have hi':=czH.2 hi
  have hi2:i < s.stacks.length:=by omega
  have hsp:=hs.sp hi2
  have hch:=hs.ch hi2
  rw [zqQ] at hch
  have hb:=wsum_bd (n:=i) (f:=fun i => chS s i) (m:=99) (fun i => zgm (at_ plan i) (spS s i)) (by omega) (fun j hj => hs.ch (by omega))
  cases c3:zgm (at_ plan i) (spS s i) <;>
   simp (maxSteps:=4000000) only [go_sem,AV.one,zae,zab,zac,zan,zaq,zaa,czb,cza,↓reduceIte,zaf,onz,zar hi,zar hi2,hi',c3]
  all_goals all_goals (repeat' first | (with_reducible first | rfl | apply And.intro | assumption) | ((with_reducible show zad _ _ = true); rfl)) <;> try first | omega | (simp only [InR]; omega)
  all_goals
   refine nxt hi trivial ?_
   simp [AV.bare,zal,zaF,zaI,zak,zas,zai,tokz1,lk,zaa,zcs,zig,c3,zqQ]
 ·intro _
  simp (maxSteps:=4000000) only [go_sem,AV.one,zae,zab,zac,zan,zaq,zaa,czb,cza,↓reduceIte,zaf,onz,czA]
def P21 (g:FuncId):=(zat 44 (zbD (fun (s:Sh) (p:List Int) => ShOk s ∧ p.length = s.stacks.length) sureS) (P20):zay) g
theorem P21_ok:zam Tryz.prog P21:=zah (zaK sure_call) (P20_ok)
theorem zpp (d:Option Nat):zaw P21 d = none:=(zag (by decide) d).trans (zpq d)
attribute [go_sem] P21 zpp
def P22:zay:=P21
theorem P22_app (g:FuncId):P22 g = (P21) g:=rfl
theorem P22_ok:zam Tryz.prog P22:=P21_ok
attribute [go_sem] P22_app
theorem zpo (d:Option Nat):zaw P22 d = none:=zpp d
attribute [go_sem] zpo
def P23:zay:=P22
theorem P23_app (g:FuncId):P23 g = (P22) g:=rfl
theorem P23_ok:zam Tryz.prog P23:=P22_ok
attribute [go_sem] P23_app
theorem zpn (d:Option Nat):zaw P23 d = none:=zpo d
attribute [go_sem] zpn
theorem zmu (x:Sk):zaH Tryz.prog 84 [Enc.enc x] (· = Enc.enc x.chairs):=by
 simp only [zd3]
 refine cpz P23_ok Tryz.func84 zaA ?_
 rw [Tryz.ntmps84]
 simp only [Tryz.f84,zaj,zao]
 simp (maxSteps:=4000000) only [go_sem,AV.one,zae,zab,zac,zan,zaq,zaa,czb,cza,↓reduceIte,zaf,onz]
theorem zqD (x:Sk):zaH Tryz.prog 87 [Enc.enc x] (· = Enc.enc x.leak.lo):=by
 simp only [zd3]
 refine cpz P23_ok Tryz.func87 zaA ?_
 rw [Tryz.ntmps87]
 simp only [Tryz.f87,zaj,zao]
 simp (maxSteps:=4000000) only [go_sem,AV.one,zae,zab,zac,zan,zaq,zaa,czb,cza,↓reduceIte,zaf,onz]
def P24 (g:FuncId):=(zat 84 (zbN (fun _ => True) (fun x:Sk => x.chairs)) (zat 87 (zbN (fun _ => True) (fun x:Sk => x.leak.lo)) (P23)):zay) g
theorem P24_ok:zam Tryz.prog P24:=zah (zaN fun x _ => zmu x) (zah (zaN fun x _ => zqD x) (P23_ok))
theorem zpm (d:Option Nat):zaw P24 d = none:=(zag (by decide) d).trans ((zag (by decide) d).trans (zpn d))
attribute [go_sem] P24 zpm
def zcO (s:Sh) (a:Int):Prop:=0 ≤ a ∧ a < s.stacks.length
def lkS (s:Sh) (i:Int):Int:=(at_ s.stacks i.toNat).leak.lo
theorem zio (a b:Int) (q:RefC (FnL 84)) (w:RefC WkS) (h:ShOk w.x.s ∧ zcO w.x.s a ∧ zcO w.x.s b) :
  zaH Tryz.prog 86 [Enc.enc a,Enc.enc b,Enc.enc q,Enc.enc w] (· = Enc.enc (chS w.x.s b - chS w.x.s a)):=by
 obtain ⟨hs,⟨a0,a1⟩,b0,b1⟩:=h
 obtain ⟨i,rfl⟩:=czu a0
 obtain ⟨j,rfl⟩:=czu b0
 have hi:i < w.x.s.stacks.length:=by omega
 have hj:j < w.x.s.stacks.length:=by omega
 have ci:=hs.ch hi
 have cj:=hs.ch hj
 rw [zqQ] at ci cj
 rw [zqQ,zqQ]
 simp only [zd3]
 refine cpz P24_ok Tryz.func86 zaA ?_
 rw [Tryz.ntmps86]
 simp only [Tryz.f86,zaj,zao]
 simp (maxSteps:=4000000) only [go_sem,AV.one,zae,zab,zac,zan,zaq,zaa,czb,cza,↓reduceIte,zaf,onz,zar hi,zar hj]
 all_goals (repeat' first | (with_reducible first | rfl | apply And.intro | assumption) | ((with_reducible show zad _ _ = true); rfl)) <;> try first | omega | (simp only [InR]; omega)
theorem zjz (a b:Int) (q:RefC (FnL 87)) (w:RefC WkS) (h:ShOk w.x.s ∧ zcO w.x.s a ∧ zcO w.x.s b) :
  zaH Tryz.prog 88 [Enc.enc a,Enc.enc b,Enc.enc q,Enc.enc w] (· = Enc.enc (lkS w.x.s a - lkS w.x.s b)):=by
 obtain ⟨hs,⟨a0,a1⟩,b0,b1⟩:=h
 obtain ⟨i,rfl⟩:=czu a0
 obtain ⟨j,rfl⟩:=czu b0
 have hi:i < w.x.s.stacks.length:=by omega
 have hj:j < w.x.s.stacks.length:=by omega
 have ci:=(hs.st _ (zaS hi)).2
 have cj:=(hs.st _ (zaS hj)).2
 unfold lkS
 rw [czF,czF]
 simp only [zd3]
 refine cpz P24_ok Tryz.func88 zaA ?_
 rw [Tryz.ntmps88]
 simp only [Tryz.f88,zaj,zao]
 simp (maxSteps:=4000000) only [go_sem,AV.one,zae,zab,zac,zan,zaq,zaa,czb,cza,↓reduceIte,zaf,onz,zar hi,zar hj]
 all_goals (repeat' first | (with_reducible first | rfl | apply And.intro | assumption) | ((with_reducible show zad _ _ = true); rfl)) <;> try first | omega | (simp only [InR]; omega)
def P25 (g:FuncId):=(zat 86 (zpS (fun (a b:Int) (_:RefC (FnL 84)) (w:RefC WkS) => ShOk w.x.s ∧ zcO w.x.s a ∧ zcO w.x.s b) (fun a b _ w => chS w.x.s b - chS w.x.s a)) (zat 88 (zpS (fun (a b:Int) (_:RefC (FnL 87)) (w:RefC WkS) => ShOk w.x.s ∧ zcO w.x.s a ∧ zcO w.x.s b) (fun a b _ w => lkS w.x.s a - lkS w.x.s b)) (P24)):zay) g
theorem zgC:zam Tryz.prog P25:=zah (zjk zio) (zah (zjk zjz) (P24_ok))
theorem zpl (d:Option Nat):zaw P25 d = none:=(zag (by decide) d).trans ((zag (by decide) d).trans (zpm d))
attribute [go_sem] P25 zpl
def mS (w:WkS) (K:Nat) (es:List Int) (st:Nat):List AObj:=[.cells [.ref (wkC w) 0],.vec (es.map EncE.cs) 1 st,.cells [.fn (.func K) [] []]]
theorem at_mid {α:Type} [Inhabited α] (A:List α) (x:α) (B:List α) {j:Nat} (h:A.length = j):at_ (A ++ x :: B) j = x:=by
 subst h; simp [at_,List.getD]
theorem at_take {l:List Int} {i n:Nat} (h:i < n):at_ (l.take n) i = at_ l i:=by
 simp [at_,List.getD,czR,h]
theorem zh5 {l:List Int} {i j:Nat} (h:i ≠ j) (v:Int):at_ (l.set i v) j = at_ l j:=by
 simp [at_,List.getD,List.getElem?_set,h]
theorem set_cs (l:List Int) (i:Nat) (v:Int):(l.map EncE.cs).set i [AV.int .i64 v] = (l.set i v).map EncE.cs:=by
 rw [List.map_set]; rfl
theorem zoh (P:List Int) (x:Int) (rest:List Int) {j:Nat} (hj:j < P.length) :
  ((P.take (j + 1) ++ x :: P.drop (j + 1) ++ rest).set (j + 1) (at_ P j)).set j x = P.take j ++ x :: P.drop j ++ rest:=by
 have e1:=zaM hj
 have e2:=zhS hj
 rw [e1,e2]
 have hl:(P.take j).length = j:=by rw [czO]; omega
 simp only [czd,czs,List.nil_append,List.singleton_append]
 rw [List.set_append_right _ _ (by omega),List.set_append_right _ _ (by omega),hl]
 simp
theorem zfV {key:Int → Int} {l:List Int} {i:Nat} (hi:i < l.length):zaY key (l.take (i + 1)) = zrm key (zaY key (l.take i)) (at_ l i):=by
 rw [zaM hi,zpT]
theorem ins_hv (w:WkS) (hs:ShOk w.s) (l:List Int) (hl:∀ x ∈ l,zcO w.s x) (hn:l.length ≤ 8) (st:Nat) :
  zfi Tryz.prog 99 [.vec 1 st 0 l.length 1,.int .i64 0,.int .i64 l.length,.fn (.func 86) [] [.ptr 2 0,.ptr 0 0]] (mS w 84 l st)
   (fun r m => r = .tup [] ∧ m = mS w 84 (zaY (fun i => -chS w.s i) l) st):=by
 unfold mS
 refine zbc (Φ:=P25) Tryz.func99 rfl (by rfl) (by rw [Tryz.ntmps99]; simp) zaA zgC ?_
 rw [Tryz.ntmps99]
 simp only [Tryz.f99,zaj,zao]
 obtain ⟨key,hkey⟩:∃ key:Int → Int,key = (fun i => -chS w.s i):=⟨_,rfl⟩
 rw [← hkey]
 have hlt:∀ x y,(key x < key y) = (chS w.s y - chS w.s x < 0):=fun x y => by rw [hkey]; simp only [eq_iff_iff]; omega
 have hw:wkC w = [.sl (w.s.stacks.map EncE.cs) .no,.int .i64 w.s.hands,.int .i64 w.s.rain.lo,.int .i64 w.s.rain.hi,.mpr w.ks (w.vs.map (AV.int .i64))]:=rfl
 rw [hw]
 simp (maxSteps:=4000000) only [go_sem,AV.one,zae,zab,zac,zan,zaq,zaa,czb,cza,↓reduceIte,zaf,onz]
 all_goals (repeat' first | (with_reducible first | rfl | apply And.intro | assumption) | ((with_reducible show zad _ _ = true); rfl)) <;> try first | omega | (simp only [InR]; omega)
 refine zbg (l.length - 1) [] [0,1,2,3] (fun i => [(8,.int .i64 ((i + 1:Nat):Int))]) (fun i m => m.set 1 (.vec ((zaY key (l.take (i + 1)) ++ l.drop (i + 1)).map EncE.cs) 1 st)) (fun _ => True) ?_ ?_ ?_ ?_
 ·trivial
 ·have e:zaY key (l.take (0 + 1)) ++ l.drop (0 + 1) = l:=by
   cases l with
   | nil => rfl
   | cons x r => simp [zaY,zrm,zni]
  simp only [e]
  simp [AV.bare,zal,zaF,zaI,zak,zas,zai,tokz1,lk,zaa,zcs,-List.map_map]
 ·intro i hi _
  have hi1:i + 1 < l.length:=by omega
  have hi':=czH.2 hi1
  have hPl:(zaY key (l.take (i + 1))).length = i + 1:=by rw [zcL,czO]; omega
  have hPm:∀ y ∈ zaY key (l.take (i + 1)),zcO w.s y:=fun y hy => hl _ (List.mem_of_mem_take ((zdi _ _ _).1 hy))
  have hS:=zfV (key:=key) hi1
  have hx:=hl _ (zaS hi1)
  have hdr:=zhS hi1
  obtain ⟨x,hxe⟩:∃ x,at_ l (i + 1) = x:=⟨_,rfl⟩
  obtain ⟨P,hP⟩:∃ P,zaY key (l.take (i + 1)) = P:=⟨_,rfl⟩
  obtain ⟨rest,hrest⟩:∃ rest,l.drop (i + 1 + 1) = rest:=⟨_,rfl⟩
  rw [hxe] at hS hx hdr
  rw [hP] at hPl hPm hS
  rw [hrest] at hdr
  have hlen:l.length = (i + 1) + 1 + rest.length:=by rw [← hrest,List.length_drop]; omega
  rw [hP,hdr]
  simp (maxSteps:=4000000) only [go_sem,AV.one,zae,zab,zac,zan,zaq,zaa,czb,cza,↓reduceIte,zaf,onz,hi']
  all_goals (repeat' first | (with_reducible first | rfl | apply And.intro | assumption) | ((with_reducible show zad _ _ = true); rfl)) <;> try first | omega | (simp only [InR]; omega)
  refine zqn [] [0,1,2,3,8,12,13,17] (fun j:Nat => [(9,.int .i64 j)]) (fun j m => m.set 1 (.vec ((P.take j ++ x :: P.drop j ++ rest).map EncE.cs) 1 st)) (fun j => j ≤ i + 1 ∧ zni key P x j = zrm key P x) (fun j => j) (i + 1) ?_ ?_ ?_
  ·exact ⟨czf _,by unfold zrm; rw [hPl]⟩
  ·have e:P.take (i + 1) ++ x :: P.drop (i + 1) ++ rest = P ++ x :: rest:=by
    rw [cze (by omega),List.drop_eq_nil_of_le (by omega)]; simp
   obtain ⟨L,hL⟩:∃ L,P ++ x :: rest = L:=⟨_,rfl⟩
   simp only [e,hL]
   simp [AV.bare,zal,zaF,zaI,zak,zas,zai,tokz1,lk,zaa,zcs,-List.map_map]
  ·rintro j ⟨hj,hI⟩
   cases j with
   | zero =>
    have h01:((0:Int) - 1).toNat = 0:=rfl
    have hg0:((P.take 0 ++ x :: P.drop 0 ++ rest).map EncE.cs).getD 0 [] = [AV.int .i64 x]:=rfl
    have hfin:P.take 0 ++ x :: P.drop 0 ++ rest = zaY key (l.take (i + 1 + 1)) ++ l.drop (i + 1 + 1):=by rw [hS,← hI,hrest]; rfl
    obtain ⟨L,hL⟩:∃ L,P.take 0 ++ x :: P.drop 0 ++ rest = L:=⟨_,rfl⟩
    rw [hL] at hg0 hfin
    simp only [hL]
    simp (maxSteps:=4000000) only [go_sem,AV.one,zae,zab,zac,zan,zaq,zaa,czb,cza,↓reduceIte,zaf,onz,hg0,h01]
    all_goals (repeat' first | (with_reducible first | rfl | apply And.intro | assumption) | ((with_reducible show zad _ _ = true); rfl)) <;> try first | omega | (simp only [InR]; omega)
    refine nxt hi trivial ?_
    rw [← hfin]
    simp [AV.bare,zal,zaF,zaI,zak,zas,zai,tokz1,lk,zaa,zcs,-List.map_map]
   | succ j =>
    have hjP:j < P.length:=by omega
    have hjl:j + 1 < l.length:=by omega
    have hsub:(((j + 1:Nat):Int) - 1).toNat = j:=by omega
    have hsub2:((j + 1:Nat):Int) - 1 = (j:Int):=by omega
    have hgt:decide (((j + 1:Nat):Int) > 0) = true:=by simp
    have hyok:=hPm _ (zaS hjP)
    have hltj:=hlt x (at_ P j)
    have hins:zni key P x (j + 1) = if key x < key (at_ P j) then zni key P x j else P.take (j + 1) ++ x :: P.drop (j + 1):=rfl
    have hswap:=zoh P x rest hjP
    have htl:(P.take (j + 1)).length = j + 1:=by rw [czO]; omega
    obtain ⟨L,hL⟩:∃ L,P.take (j + 1) ++ x :: P.drop (j + 1) ++ rest = L:=⟨_,rfl⟩
    have hLl:L.length = l.length:=by
     rw [← hL]; simp; omega
    have hax:at_ L (j + 1) = x:=by
     rw [← hL,czd,czs]; exact at_mid _ _ _ htl
    have hay:at_ L j = at_ P j:=by
     rw [← hL,czd,zfn (by omega),at_take (by omega)]
    obtain ⟨y,hy⟩:∃ y,at_ P j = y:=⟨_,rfl⟩
    rw [hy] at hyok hltj hins hswap hay
    rw [hL] at hswap
    have hgx:(L.map EncE.cs).getD (j + 1) [] = [AV.int .i64 x]:=by rw [zar (by omega),hax]; rfl
    have hgy:(L.map EncE.cs).getD j [] = [AV.int .i64 y]:=by rw [zar (by omega),hay]; rfl
    have hgy2:∀ v,((L.set (j + 1) v).map EncE.cs).getD j [] = [AV.int .i64 y]:=fun v => by
     rw [zar (by simp; omega),zh5 (by omega),hay]; rfl
    simp only [hL]
    cases c:decide (chS w.s y - chS w.s x < 0)
    ·have c':¬ key x < key y:=by rw [hltj]; simpa using c
     rw [if_neg c'] at hins
     have hfin:L = zaY key (l.take (i + 1 + 1)) ++ l.drop (i + 1 + 1):=by rw [hS,← hI,hins,hrest,hL]
     simp (maxSteps:=4000000) only [go_sem,AV.one,zae,zab,zac,zan,zaq,zaa,czb,cza,↓reduceIte,zaf,onz,hgx,hgy,hsub,hsub2,hgt,c]
     all_goals (repeat' first | (with_reducible first | rfl | apply And.intro | assumption) | ((with_reducible show zad _ _ = true); rfl)) <;> try first | omega | (simp only [InR]; omega)
     refine nxt hi trivial ?_
     rw [← hfin]
     simp [AV.bare,zal,zaF,zaI,zak,zas,zai,tokz1,lk,zaa,zcs,-List.map_map]
    ·have c':key x < key y:=by rw [hltj]; simpa using c
     rw [if_pos c'] at hins
     simp (maxSteps:=4000000) only [go_sem,AV.one,zae,zab,zac,zan,zaq,zaa,czb,cza,↓reduceIte,zaf,onz,hgx,hgy,hgy2,set_cs,hsub,hsub2,hgt,c,hLl,czt]
     all_goals (repeat' first | (with_reducible first | rfl | apply And.intro | assumption) | ((with_reducible show zad _ _ = true); rfl)) <;> try first | omega | (simp only [InR]; omega)
     refine ⟨j,⟨by omega,by rw [← hins]; exact hI⟩,by omega,zbj ?_⟩
     rw [hswap]
     obtain ⟨L2,hL2⟩:∃ L2,P.take j ++ x :: P.drop j ++ rest = L2:=⟨_,rfl⟩
     simp only [hL2,hsub2]
     simp [AV.bare,zal,zaF,zaI,zak,zas,zai,tokz1,lk,zaa,zcs,-List.map_map]
 ·intro _
  have hn':¬ (((l.length - 1 + 1:Nat):Int) < (l.length:Int)):=by omega
  have hfin:zaY key (l.take (l.length - 1 + 1)) ++ l.drop (l.length - 1 + 1) = zaY key l:=by
   rw [cze (by omega),List.drop_eq_nil_of_le (by omega),List.append_nil]
  simp only [hfin]
  simp (maxSteps:=4000000) only [go_sem,AV.one,zae,zab,zac,zan,zaq,zaa,czb,cza,↓reduceIte,zaf,onz,hn']
  all_goals (repeat' first | (with_reducible first | rfl | apply And.intro | assumption) | ((with_reducible show zad _ _ = true); rfl)) <;> try first | omega | (simp only [InR]; omega)
  refine ⟨3,czf _,czf _,?_⟩
  simp [AV.bare,zal,zaF,zaI,zak,zas,zai,tokz1,lk,zaa,zcs,-List.map_map]
theorem ins_od (w:WkS) (hs:ShOk w.s) (l:List Int) (hl:∀ x ∈ l,zcO w.s x) (hn:l.length ≤ 8) (st:Nat) :
  zfi Tryz.prog 99 [.vec 1 st 0 l.length 1,.int .i64 0,.int .i64 l.length,.fn (.func 88) [] [.ptr 2 0,.ptr 0 0]] (mS w 87 l st)
   (fun r m => r = .tup [] ∧ m = mS w 87 (zaY (spS w.s) l) st):=by
 unfold mS
 refine zbc (Φ:=P25) Tryz.func99 rfl (by rfl) (by rw [Tryz.ntmps99]; simp) zaA zgC ?_
 rw [Tryz.ntmps99]
 simp only [Tryz.f99,zaj,zao]
 obtain ⟨key,hkey⟩:∃ key:Int → Int,key = (spS w.s):=⟨_,rfl⟩
 rw [← hkey]
 have hlt:∀ x y,(key x < key y) = (lkS w.s x - lkS w.s y < 0):=fun x y => by rw [hkey]; simp only [eq_iff_iff,spS,lkS]; omega
 have hw:wkC w = [.sl (w.s.stacks.map EncE.cs) .no,.int .i64 w.s.hands,.int .i64 w.s.rain.lo,.int .i64 w.s.rain.hi,.mpr w.ks (w.vs.map (AV.int .i64))]:=rfl
 rw [hw]
 simp (maxSteps:=4000000) only [go_sem,AV.one,zae,zab,zac,zan,zaq,zaa,czb,cza,↓reduceIte,zaf,onz]
 all_goals (repeat' first | (with_reducible first | rfl | apply And.intro | assumption) | ((with_reducible show zad _ _ = true); rfl)) <;> try first | omega | (simp only [InR]; omega)
 refine zbg (l.length - 1) [] [0,1,2,3] (fun i => [(8,.int .i64 ((i + 1:Nat):Int))]) (fun i m => m.set 1 (.vec ((zaY key (l.take (i + 1)) ++ l.drop (i + 1)).map EncE.cs) 1 st)) (fun _ => True) ?_ ?_ ?_ ?_
 ·trivial
 ·have e:zaY key (l.take (0 + 1)) ++ l.drop (0 + 1) = l:=by
   cases l with
   | nil => rfl
   | cons x r => simp [zaY,zrm,zni]
  simp only [e]
  simp [AV.bare,zal,zaF,zaI,zak,zas,zai,tokz1,lk,zaa,zcs,-List.map_map]
 ·intro i hi _
  have hi1:i + 1 < l.length:=by omega
  have hi':=czH.2 hi1
  have hPl:(zaY key (l.take (i + 1))).length = i + 1:=by rw [zcL,czO]; omega
  have hPm:∀ y ∈ zaY key (l.take (i + 1)),zcO w.s y:=fun y hy => hl _ (List.mem_of_mem_take ((zdi _ _ _).1 hy))
  have hS:=zfV (key:=key) hi1
  have hx:=hl _ (zaS hi1)
  have hdr:=zhS hi1
  obtain ⟨x,hxe⟩:∃ x,at_ l (i + 1) = x:=⟨_,rfl⟩
  obtain ⟨P,hP⟩:∃ P,zaY key (l.take (i + 1)) = P:=⟨_,rfl⟩
  obtain ⟨rest,hrest⟩:∃ rest,l.drop (i + 1 + 1) = rest:=⟨_,rfl⟩
  rw [hxe] at hS hx hdr
  rw [hP] at hPl hPm hS
  rw [hrest] at hdr
  have hlen:l.length = (i + 1) + 1 + rest.length:=by rw [← hrest,List.length_drop]; omega
  rw [hP,hdr]
  simp (maxSteps:=4000000) only [go_sem,AV.one,zae,zab,zac,zan,zaq,zaa,czb,cza,↓reduceIte,zaf,onz,hi']
  all_goals (repeat' first | (with_reducible first | rfl | apply And.intro | assumption) | ((with_reducible show zad _ _ = true); rfl)) <;> try first | omega | (simp only [InR]; omega)
  refine zqn [] [0,1,2,3,8,12,13,17] (fun j:Nat => [(9,.int .i64 j)]) (fun j m => m.set 1 (.vec ((P.take j ++ x :: P.drop j ++ rest).map EncE.cs) 1 st)) (fun j => j ≤ i + 1 ∧ zni key P x j = zrm key P x) (fun j => j) (i + 1) ?_ ?_ ?_
  ·exact ⟨czf _,by unfold zrm; rw [hPl]⟩
  ·have e:P.take (i + 1) ++ x :: P.drop (i + 1) ++ rest = P ++ x :: rest:=by
    rw [cze (by omega),List.drop_eq_nil_of_le (by omega)]; simp
   obtain ⟨L,hL⟩:∃ L,P ++ x :: rest = L:=⟨_,rfl⟩
   simp only [e,hL]
   simp [AV.bare,zal,zaF,zaI,zak,zas,zai,tokz1,lk,zaa,zcs,-List.map_map]
  ·rintro j ⟨hj,hI⟩
   cases j with
   | zero =>
    have h01:((0:Int) - 1).toNat = 0:=rfl
    have hg0:((P.take 0 ++ x :: P.drop 0 ++ rest).map EncE.cs).getD 0 [] = [AV.int .i64 x]:=rfl
    have hfin:P.take 0 ++ x :: P.drop 0 ++ rest = zaY key (l.take (i + 1 + 1)) ++ l.drop (i + 1 + 1):=by rw [hS,← hI,hrest]; rfl
    obtain ⟨L,hL⟩:∃ L,P.take 0 ++ x :: P.drop 0 ++ rest = L:=⟨_,rfl⟩
    rw [hL] at hg0 hfin
    simp only [hL]
    simp (maxSteps:=4000000) only [go_sem,AV.one,zae,zab,zac,zan,zaq,zaa,czb,cza,↓reduceIte,zaf,onz,hg0,h01]
    all_goals (repeat' first | (with_reducible first | rfl | apply And.intro | assumption) | ((with_reducible show zad _ _ = true); rfl)) <;> try first | omega | (simp only [InR]; omega)
    refine nxt hi trivial ?_
    rw [← hfin]
    simp [AV.bare,zal,zaF,zaI,zak,zas,zai,tokz1,lk,zaa,zcs,-List.map_map]
   | succ j =>
    have hjP:j < P.length:=by omega
    have hjl:j + 1 < l.length:=by omega
    have hsub:(((j + 1:Nat):Int) - 1).toNat = j:=by omega
    have hsub2:((j + 1:Nat):Int) - 1 = (j:Int):=by omega
    have hgt:decide (((j + 1:Nat):Int) > 0) = true:=by simp
    have hyok:=hPm _ (zaS hjP)
    have hltj:=hlt x (at_ P j)
    have hins:zni key P x (j + 1) = if key x < key (at_ P j) then zni key P x j else P.take (j + 1) ++ x :: P.drop (j + 1):=rfl
    have hswap:=zoh P x rest hjP
    have htl:(P.take (j + 1)).length = j + 1:=by rw [czO]; omega
    obtain ⟨L,hL⟩:∃ L,P.take (j + 1) ++ x :: P.drop (j + 1) ++ rest = L:=⟨_,rfl⟩
    have hLl:L.length = l.length:=by
     rw [← hL]; simp; omega
    have hax:at_ L (j + 1) = x:=by
     rw [← hL,czd,czs]; exact at_mid _ _ _ htl
    have hay:at_ L j = at_ P j:=by
     rw [← hL,czd,zfn (by omega),at_take (by omega)]
    obtain ⟨y,hy⟩:∃ y,at_ P j = y:=⟨_,rfl⟩
    rw [hy] at hyok hltj hins hswap hay
    rw [hL] at hswap
    have hgx:(L.map EncE.cs).getD (j + 1) [] = [AV.int .i64 x]:=by rw [zar (by omega),hax]; rfl
    have hgy:(L.map EncE.cs).getD j [] = [AV.int .i64 y]:=by rw [zar (by omega),hay]; rfl
    have hgy2:∀ v,((L.set (j + 1) v).map EncE.cs).getD j [] = [AV.int .i64 y]:=fun v => by
     rw [zar (by simp; omega),zh5 (by omega),hay]; rfl
    simp only [hL]
    cases c:decide (lkS w.s x - lkS w.s y < 0)
    ·have c':¬ key x < key y:=by rw [hltj]; simpa using c
     rw [if_neg c'] at hins
     have hfin:L = zaY key (l.take (i + 1 + 1)) ++ l.drop (i + 1 + 1):=by rw [hS,← hI,hins,hrest,hL]
     simp (maxSteps:=4000000) only [go_sem,AV.one,zae,zab,zac,zan,zaq,zaa,czb,cza,↓reduceIte,zaf,onz,hgx,hgy,hsub,hsub2,hgt,c]
     all_goals (repeat' first | (with_reducible first | rfl | apply And.intro | assumption) | ((with_reducible show zad _ _ = true); rfl)) <;> try first | omega | (simp only [InR]; omega)
     refine nxt hi trivial ?_
     rw [← hfin]
     simp [AV.bare,zal,zaF,zaI,zak,zas,zai,tokz1,lk,zaa,zcs,-List.map_map]
    ·have c':key x < key y:=by rw [hltj]; simpa using c
     rw [if_pos c'] at hins
     simp (maxSteps:=4000000) only [go_sem,AV.one,zae,zab,zac,zan,zaq,zaa,czb,cza,↓reduceIte,zaf,onz,hgx,hgy,hgy2,set_cs,hsub,hsub2,hgt,c,hLl,czt]
     all_goals (repeat' first | (with_reducible first | rfl | apply And.intro | assumption) | ((with_reducible show zad _ _ = true); rfl)) <;> try first | omega | (simp only [InR]; omega)
     refine ⟨j,⟨by omega,by rw [← hins]; exact hI⟩,by omega,zbj ?_⟩
     rw [hswap]
     obtain ⟨L2,hL2⟩:∃ L2,P.take j ++ x :: P.drop j ++ rest = L2:=⟨_,rfl⟩
     simp only [hL2,hsub2]
     simp [AV.bare,zal,zaF,zaI,zak,zas,zai,tokz1,lk,zaa,zcs,-List.map_map]
 ·intro _
  have hn':¬ (((l.length - 1 + 1:Nat):Int) < (l.length:Int)):=by omega
  have hfin:zaY key (l.take (l.length - 1 + 1)) ++ l.drop (l.length - 1 + 1) = zaY key l:=by
   rw [cze (by omega),List.drop_eq_nil_of_le (by omega),List.append_nil]
  simp only [hfin]
  simp (maxSteps:=4000000) only [go_sem,AV.one,zae,zab,zac,zan,zaq,zaa,czb,cza,↓reduceIte,zaf,onz,hn']
  all_goals (repeat' first | (with_reducible first | rfl | apply And.intro | assumption) | ((with_reducible show zad _ _ = true); rfl)) <;> try first | omega | (simp only [InR]; omega)
  refine ⟨3,czf _,czf _,?_⟩
  simp [AV.bare,zal,zaF,zaI,zak,zas,zai,tokz1,lk,zaa,zcs,-List.map_map]
theorem stable_hv (w:WkS) (hs:ShOk w.s) (l:List Int) (hl:∀ x ∈ l,zcO w.s x) (hn:l.length ≤ 8) (st:Nat) :
  zfi Tryz.prog 96 [.vec 1 st 0 l.length 1,.int .i64 l.length,.fn (.func 86) [] [.ptr 2 0,.ptr 0 0]] (mS w 84 l st)
   (fun r m => r = .tup [] ∧ m = mS w 84 (zaY (fun i => -chS w.s i) l) st):=by
 have hc:=ins_hv w hs l hl hn st
 have hw:wkC w = [.sl (w.s.stacks.map EncE.cs) .no,.int .i64 w.s.hands,.int .i64 w.s.rain.lo,.int .i64 w.s.rain.hi,.mpr w.ks (w.vs.map (AV.int .i64))]:=rfl
 have hm:∀ es st,mS w 84 es st = [.cells [.ref (wkC w) 0],.vec (es.map EncE.cs) 1 st,.cells [.fn (.func 84) [] []]]:=fun _ _ => rfl
 obtain ⟨S,hS⟩:∃ S,zaY (fun i => -chS w.s i) l = S:=⟨_,rfl⟩
 rw [hS] at hc ⊢
 simp only [hm,hw] at hc ⊢
 refine zbc (Φ:=P25) Tryz.func96 rfl (by rfl) (by rw [Tryz.ntmps96]; simp) zaA zgC ?_
 rw [Tryz.ntmps96]
 simp only [Tryz.f96,zaj,zao]
 have n1:¬ ((20:Int) ≤ (l.length:Int)):=by omega
 have n2:¬ ((20:Int) < (l.length:Int)):=by omega
 simp (maxSteps:=4000000) only [go_sem,AV.one,zae,zab,zac,zan,zaq,zaa,czb,cza,↓reduceIte,zaf,onz,n1,n2]
 all_goals (repeat' first | (with_reducible first | rfl | apply And.intro | assumption) | ((with_reducible show zad _ _ = true); rfl)) <;> try first | omega | (simp only [InR]; omega)
 refine zbg (0) [] [0,1,2,6] (fun _ => [(7,.int .i64 0),(8,.int .i64 20)]) (fun _ m => m) (fun _ => True) ?_ ?_ ?_ ?_
 ·trivial
 ·simp [AV.bare,zal,zaF,zaI,zak,zas,zai,tokz1,lk,zaa,zcs,-List.map_map]
 ·intro i hi _
  omega
 ·intro _
  simp (maxSteps:=4000000) only [go_sem,AV.one,zae,zab,zac,zan,zaq,zaa,czb,cza,↓reduceIte,zaf,onz,n1,n2]
  all_goals (repeat' first | (with_reducible first | rfl | apply And.intro | assumption) | ((with_reducible show zad _ _ = true); rfl)) <;> try first | omega | (simp only [InR]; omega)
  refine ⟨_,hc,?_⟩
  rintro r mem' ⟨rfl,rfl⟩ _
  refine zbg (0) [] [0,1,2,7,8] (fun _ => [(6,.int .i64 20)]) (fun _ m => m) (fun _ => True) ?_ ?_ ?_ ?_
  ·trivial
  ·simp [AV.bare,zal,zaF,zaI,zak,zas,zai,tokz1,lk,zaa,zcs,-List.map_map]
  ·intro i hi _
   omega
  ·intro _
   simp (maxSteps:=4000000) only [go_sem,AV.one,zae,zab,zac,zan,zaq,zaa,czb,cza,↓reduceIte,zaf,onz,n1,n2]
   all_goals (repeat' first | (with_reducible first | rfl | apply And.intro | assumption) | ((with_reducible show zad _ _ = true); rfl)) <;> try first | omega | (simp only [InR]; omega)
   refine ⟨3,czf _,czf _,?_⟩
   simp [AV.bare,zal,zaF,zaI,zak,zas,zai,tokz1,lk,zaa,zcs,-List.map_map]
theorem zjm (w:WkS) (hs:ShOk w.s) (l:List Int) (hl:∀ x ∈ l,zcO w.s x) (hn:l.length ≤ 8) (st:Nat) :
  zfi Tryz.prog 85 [.vec 1 st 0 l.length 1,.fn (.func 86) [] [.ptr 2 0,.ptr 0 0]] (mS w 84 l st)
   (fun r m => r = .tup [] ∧ m = mS w 84 (zaY (fun i => -chS w.s i) l) st):=by
 have hc:=stable_hv w hs l hl hn st
 have hw:wkC w = [.sl (w.s.stacks.map EncE.cs) .no,.int .i64 w.s.hands,.int .i64 w.s.rain.lo,.int .i64 w.s.rain.hi,.mpr w.ks (w.vs.map (AV.int .i64))]:=rfl
 have hm:∀ es st,mS w 84 es st = [.cells [.ref (wkC w) 0],.vec (es.map EncE.cs) 1 st,.cells [.fn (.func 84) [] []]]:=fun _ _ => rfl
 obtain ⟨S,hS⟩:∃ S,zaY (fun i => -chS w.s i) l = S:=⟨_,rfl⟩
 rw [hS] at hc ⊢
 simp only [hm,hw] at hc ⊢
 refine zbc (Φ:=P25) Tryz.func85 rfl (by rfl) (by rw [Tryz.ntmps85]; simp) zaA zgC ?_
 rw [Tryz.ntmps85]
 simp only [Tryz.f85,zaj,zao]
 simp (maxSteps:=4000000) only [go_sem,AV.one,zae,zab,zac,zan,zaq,zaa,czb,cza,↓reduceIte,zaf,onz]
 all_goals (repeat' first | (with_reducible first | rfl | apply And.intro | assumption) | ((with_reducible show zad _ _ = true); rfl)) <;> try first | omega | (simp only [InR]; omega)
 refine ⟨_,hc,?_⟩
 rintro r mem' ⟨rfl,rfl⟩ _
 simp (maxSteps:=4000000) only [go_sem,AV.one,zae,zab,zac,zan,zaq,zaa,czb,cza,↓reduceIte,zaf,onz]
 all_goals (repeat' first | (with_reducible first | rfl | apply And.intro | assumption) | ((with_reducible show zad _ _ = true); rfl)) <;> try first | omega | (simp only [InR]; omega)
 refine ⟨3,czf _,czf _,?_⟩
 simp [AV.bare,zal,zaF,zaI,zak,zas,zai,tokz1,lk,zaa,zcs,-List.map_map]
theorem stable_od (w:WkS) (hs:ShOk w.s) (l:List Int) (hl:∀ x ∈ l,zcO w.s x) (hn:l.length ≤ 8) (st:Nat) :
  zfi Tryz.prog 96 [.vec 1 st 0 l.length 1,.int .i64 l.length,.fn (.func 88) [] [.ptr 2 0,.ptr 0 0]] (mS w 87 l st)
   (fun r m => r = .tup [] ∧ m = mS w 87 (zaY (spS w.s) l) st):=by
 have hc:=ins_od w hs l hl hn st
 have hw:wkC w = [.sl (w.s.stacks.map EncE.cs) .no,.int .i64 w.s.hands,.int .i64 w.s.rain.lo,.int .i64 w.s.rain.hi,.mpr w.ks (w.vs.map (AV.int .i64))]:=rfl
 have hm:∀ es st,mS w 87 es st = [.cells [.ref (wkC w) 0],.vec (es.map EncE.cs) 1 st,.cells [.fn (.func 87) [] []]]:=fun _ _ => rfl
 obtain ⟨S,hS⟩:∃ S,zaY (spS w.s) l = S:=⟨_,rfl⟩
 rw [hS] at hc ⊢
 simp only [hm,hw] at hc ⊢
 refine zbc (Φ:=P25) Tryz.func96 rfl (by rfl) (by rw [Tryz.ntmps96]; simp) zaA zgC ?_
 rw [Tryz.ntmps96]
 simp only [Tryz.f96,zaj,zao]
 have n1:¬ ((20:Int) ≤ (l.length:Int)):=by omega
 have n2:¬ ((20:Int) < (l.length:Int)):=by omega
 simp (maxSteps:=4000000) only [go_sem,AV.one,zae,zab,zac,zan,zaq,zaa,czb,cza,↓reduceIte,zaf,onz,n1,n2]
 all_goals (repeat' first | (with_reducible first | rfl | apply And.intro | assumption) | ((with_reducible show zad _ _ = true); rfl)) <;> try first | omega | (simp only [InR]; omega)
 refine zbg (0) [] [0,1,2,6] (fun _ => [(7,.int .i64 0),(8,.int .i64 20)]) (fun _ m => m) (fun _ => True) ?_ ?_ ?_ ?_
 ·trivial
 ·simp [AV.bare,zal,zaF,zaI,zak,zas,zai,tokz1,lk,zaa,zcs,-List.map_map]
 ·intro i hi _
  omega
 ·intro _
  simp (maxSteps:=4000000) only [go_sem,AV.one,zae,zab,zac,zan,zaq,zaa,czb,cza,↓reduceIte,zaf,onz,n1,n2]
  all_goals (repeat' first | (with_reducible first | rfl | apply And.intro | assumption) | ((with_reducible show zad _ _ = true); rfl)) <;> try first | omega | (simp only [InR]; omega)
  refine ⟨_,hc,?_⟩
  rintro r mem' ⟨rfl,rfl⟩ _
  refine zbg (0) [] [0,1,2,7,8] (fun _ => [(6,.int .i64 20)]) (fun _ m => m) (fun _ => True) ?_ ?_ ?_ ?_
  ·trivial
  ·simp [AV.bare,zal,zaF,zaI,zak,zas,zai,tokz1,lk,zaa,zcs,-List.map_map]
  ·intro i hi _
   omega
  ·intro _
   simp (maxSteps:=4000000) only [go_sem,AV.one,zae,zab,zac,zan,zaq,zaa,czb,cza,↓reduceIte,zaf,onz,n1,n2]
   all_goals (repeat' first | (with_reducible first | rfl | apply And.intro | assumption) | ((with_reducible show zad _ _ = true); rfl)) <;> try first | omega | (simp only [InR]; omega)
   refine ⟨3,czf _,czf _,?_⟩
   simp [AV.bare,zal,zaF,zaI,zak,zas,zai,tokz1,lk,zaa,zcs,-List.map_map]
theorem zjl (w:WkS) (hs:ShOk w.s) (l:List Int) (hl:∀ x ∈ l,zcO w.s x) (hn:l.length ≤ 8) (st:Nat) :
  zfi Tryz.prog 85 [.vec 1 st 0 l.length 1,.fn (.func 88) [] [.ptr 2 0,.ptr 0 0]] (mS w 87 l st)
   (fun r m => r = .tup [] ∧ m = mS w 87 (zaY (spS w.s) l) st):=by
 have hc:=stable_od w hs l hl hn st
 have hw:wkC w = [.sl (w.s.stacks.map EncE.cs) .no,.int .i64 w.s.hands,.int .i64 w.s.rain.lo,.int .i64 w.s.rain.hi,.mpr w.ks (w.vs.map (AV.int .i64))]:=rfl
 have hm:∀ es st,mS w 87 es st = [.cells [.ref (wkC w) 0],.vec (es.map EncE.cs) 1 st,.cells [.fn (.func 87) [] []]]:=fun _ _ => rfl
 obtain ⟨S,hS⟩:∃ S,zaY (spS w.s) l = S:=⟨_,rfl⟩
 rw [hS] at hc ⊢
 simp only [hm,hw] at hc ⊢
 refine zbc (Φ:=P25) Tryz.func85 rfl (by rfl) (by rw [Tryz.ntmps85]; simp) zaA zgC ?_
 rw [Tryz.ntmps85]
 simp only [Tryz.f85,zaj,zao]
 simp (maxSteps:=4000000) only [go_sem,AV.one,zae,zab,zac,zan,zaq,zaa,czb,cza,↓reduceIte,zaf,onz]
 all_goals (repeat' first | (with_reducible first | rfl | apply And.intro | assumption) | ((with_reducible show zad _ _ = true); rfl)) <;> try first | omega | (simp only [InR]; omega)
 refine ⟨_,hc,?_⟩
 rintro r mem' ⟨rfl,rfl⟩ _
 simp (maxSteps:=4000000) only [go_sem,AV.one,zae,zab,zac,zan,zaq,zaa,czb,cza,↓reduceIte,zaf,onz]
 all_goals (repeat' first | (with_reducible first | rfl | apply And.intro | assumption) | ((with_reducible show zad _ _ = true); rfl)) <;> try first | omega | (simp only [InR]; omega)
 refine ⟨3,czf _,czf _,?_⟩
 simp [AV.bare,zal,zaF,zaI,zak,zas,zai,tokz1,lk,zaa,zcs,-List.map_map]
theorem zdQ (n:Nat):(zcx n).length = n:=by simp [zcx]
theorem zmP (n:Nat):zcx (n + 1) = zcx n ++ [(n:Int)]:=by simp [zcx,List.range_succ]
theorem zjM (w:WkS) (hs:ShOk w.s):zaH Tryz.prog 63 [Enc.enc w] (· = Enc.enc (zdV w.s)):=by
 have h8:=hs.len
 obtain ⟨n,hn⟩:∃ n,w.s.stacks.length = n:=⟨_,rfl⟩
 have hc:=zjm w hs (zcx n) (fun x hx => by rw [← hn] at hx; exact (ziP _ _).1 hx) (by rw [zdQ]; omega) n
 rw [zdQ] at hc
 have hh:zdV w.s = zaY (fun i => -chS w.s i) (zcx n):=by unfold zdV; rw [hn]
 have hlen:(zdV w.s).length = n:=by rw [hh,zcL,zdQ]
 rw [← hh] at hc
 have hm:∀ K es st,mS w K es st = [.cells [.ref [.sl (w.s.stacks.map EncE.cs) .no,.int .i64 w.s.hands,.int .i64 w.s.rain.lo,.int .i64 w.s.rain.hi,.mpr w.ks (w.vs.map (AV.int .i64))] 0],.vec (es.map EncE.cs) 1 st,.cells [.fn (.func K) [] []]]:=fun _ _ _ => rfl
 simp only [hm] at hc
 simp only [zd3]
 refine cpz zgC Tryz.func63 zaA ?_
 rw [Tryz.ntmps63]
 simp only [Tryz.f63,zaj,zao]
 simp (maxSteps:=4000000) only [go_sem,AV.one,zae,zab,zac,zan,zaq,zaa,czb,cza,↓reduceIte,zaf,onz,hn]
 all_goals (repeat' first | (with_reducible first | rfl | apply And.intro | assumption) | ((with_reducible show zad _ _ = true); rfl)) <;> try first | omega | (simp only [InR]; omega)
 refine zbg (n) [.vslot 3 1] [1,2,11] (fun i => [(12,.int .i64 i),(3,.vec 1 i 0 i 1)]) (fun i m => m.set 1 (.vec ((zcx i).map EncE.cs) 1 i)) (fun _ => True) ?_ ?_ ?_ ?_
 ·trivial
 ·simp [AV.bare,zal,zaF,zaI,zak,zas,zai,tokz1,lk,zaa,zcs,zcx]
 ·intro i hi _
  have hi':=czH.2 hi
  have htk:List.take i ((zcx i).map EncE.cs) = (zcx i).map EncE.cs:=cze (by simp [zdQ])
  have hrs:=zmP i
  simp (maxSteps:=4000000) only [go_sem,AV.one,zae,zab,zac,zan,zaq,zaa,czb,cza,↓reduceIte,zaf,onz,hi',htk]
  all_goals (repeat' first | (with_reducible first | rfl | apply And.intro | assumption) | ((with_reducible show zad _ _ = true); rfl)) <;> try first | omega | (simp only [InR]; omega)
  refine nxt hi trivial ?_
  obtain ⟨L,hL⟩:∃ L,zcx (i + 1) = L:=⟨_,rfl⟩
  have e:(zcx i).map EncE.cs ++ [[AV.int .i64 (i:Int)]] = L.map EncE.cs:=by rw [← hL,hrs,List.map_append]; rfl
  simp only [e]
  simp [AV.bare,zal,zaF,zaI,zak,zas,zai,tokz1,lk,zaa,zcs,hL,-List.map_map]
 ·intro _
  simp (maxSteps:=4000000) only [go_sem,AV.one,zae,zab,zac,zan,zaq,zaa,czb,cza,↓reduceIte,zaf,onz,czA]
  all_goals (repeat' first | (with_reducible first | rfl | apply And.intro | assumption) | ((with_reducible show zad _ _ = true); rfl)) <;> try first | omega | (simp only [InR]; omega)
  refine ⟨_,hc,?_⟩
  rintro r mem' ⟨rfl,rfl⟩ _
  have htk:List.take n ((zdV w.s).map EncE.cs) = (zdV w.s).map EncE.cs:=cze (by simp [hlen])
  simp (maxSteps:=4000000) only [go_sem,AV.one,zae,zab,zac,zan,zaq,zaa,czb,cza,↓reduceIte,zaf,onz,htk]
  all_goals exact auz
def P26 (g:FuncId):=(zat 63 (zbN (fun w:WkS => ShOk w.s) (fun w => zdV w.s)) (P25):zay) g
theorem zgB:zam Tryz.prog P26:=zah (zaN zjM) (zgC)
theorem zpk (d:Option Nat):zaw P26 d = none:=(zag (by decide) d).trans (zpl d)
attribute [go_sem] P26 zpk
def P2601:zay:=zif [7] P26
theorem P2601_app (g:FuncId) (h:¬ (g = 4000000000)):P2601 g = P26 g:=by unfold P2601 zif; rw [if_neg h]
theorem P2601_ok:zam Tryz.prog P2601:=zfo zgB
theorem zq9 (d:Nat):zaw P2601 (some d) = if d ∈ ([7]:List Nat) then some d else none:=zbK _ _ d
attribute [go_sem] P2601_app zq9
theorem zoa (w:WkS) (l:List Int) (h:l.length ≤ 4096) (h0:l ≠ []):zfi Tryz.prog 64 [.sl (l.map EncE.cs) .no] [.cells [.ref (wkC w) 0]]
  (fun r m => r = .vec 1 1 0 l.length 1 ∧ m = [.cells [.ref (wkC w) 0],.vec (l.map EncE.cs) 1 1]):=by
 have hw:wkC w = [.sl (w.s.stacks.map EncE.cs) .no,.int .i64 w.s.hands,.int .i64 w.s.rain.lo,.int .i64 w.s.rain.hi,.mpr w.ks (w.vs.map (AV.int .i64))]:=rfl
 rw [hw]
 refine zbc (Φ:=P2601) Tryz.func64 rfl (by rfl) (by rw [Tryz.ntmps64]; simp) zaA P2601_ok ?_
 rw [Tryz.ntmps64]
 simp only [Tryz.f64,zaj,zao]
 simp (maxSteps:=4000000) only [go_sem,AV.one,zae,zab,zac,zan,zaq,zaa,czb,cza,↓reduceIte,zaf,onz,ne_eq]
 all_goals (repeat' first | (with_reducible first | rfl | apply And.intro | assumption) | ((with_reducible show zad _ _ = true); rfl)) <;> try first | omega | (simp only [InR]; omega)
 intro b hb
 cases b
 ·simp (maxSteps:=4000000) only [go_sem,AV.one,zae,zab,zac,zan,zaq,zaa,czb,cza,↓reduceIte,zaf,onz,ne_eq]
  all_goals (repeat' first | (with_reducible first | rfl | apply And.intro | assumption) | ((with_reducible show zad _ _ = true); rfl)) <;> try first | omega | (simp only [InR]; omega)
  ·simp [zlf,AV.one]
  ·refine ⟨2,by simp,by simp,?_⟩
   simp [AV.bare,zal,zaF,zaI,zak,zas,zai,tokz1,lk,zaa,zcs,-List.map_map]
 ·have:l = []:=by simpa using hb
  exact absurd this h0
theorem zbd:∀ l:List AObj,zak l l
 | [] => trivial
 | a :: l => ⟨rfl,zbd l⟩
theorem zb5 {k:Nat}:∀ {l:List AObj},(∀ o ∈ l,zcK k o) → zaI k l
 | [],_ => trivial
 | a :: l,h => ⟨h a (by simp),zb5 fun o ho => h o (by simp [ho])⟩
theorem insNil (tk:Tk) (gf a b:Nat) (mem:List AObj) (ha:a < mem.length) (hb:b < mem.length) (ht:bel mem.length 9 (.sl [] tk)) (hm:∀ o ∈ mem,zcK mem.length o):zfi Tryz.prog 99 [.sl [] tk,.int .i64 0,.int .i64 0,.fn (.func gf) [] [.ptr a 0,.ptr b 0]] mem (fun r m => r = .tup [] ∧ m = mem):=by
 refine zbc (Φ:=P26) Tryz.func99 rfl (by rfl) (by rw [Tryz.ntmps99]; simp) zaA zgB ?_
 rw [Tryz.ntmps99]
 simp only [Tryz.f99,zaj,zao]
 simp (maxSteps:=4000000) only [go_sem,AV.one,zae,zab,zac,zan,zaq,zaa,czb,cza,↓reduceIte,zaf,onz]
 all_goals (repeat' first | (with_reducible first | rfl | apply And.intro | assumption) | ((with_reducible show zad _ _ = true); rfl)) <;> try first | omega | (simp only [InR]; omega)
 refine zbg (0) [] [0,1,2,3] (fun _ => [(8,.int .i64 1)]) (fun _ m => m) (fun _ => True) ?_ ?_ ?_ ?_
 ·trivial
 ·refine ⟨rfl,rfl,rfl,czf _,zbd _,?_,zb5 hm,trivial⟩
  show zaF _ mem.length _
  simp [AV.bare,zal,zaF,zaI,zak,zas,zai,tokz1,lk,zaa,zcs,ha,hb,ht]
 ·intro i hi _
  omega
 ·intro _
  have n1:¬ ((1:Int) < 0):=by omega
  simp (maxSteps:=4000000) only [go_sem,AV.one,zae,zab,zac,zan,zaq,zaa,czb,cza,↓reduceIte,zaf,onz,n1]
  all_goals (repeat' first | (with_reducible first | rfl | apply And.intro | assumption) | ((with_reducible show zad _ _ = true); rfl)) <;> try first | omega | (simp only [InR]; omega)
  refine ⟨mem.length,czf _,czf _,?_⟩
  rw [czm]
  exact ⟨rfl,by simp [AV.bare,zal,zaF,zaI,zak,zas,zai,tokz1,lk,zaa,zcs],hm⟩
theorem stableNil (tk:Tk) (gf a b:Nat) (mem:List AObj) (ha:a < mem.length) (hb:b < mem.length) (ht:bel mem.length 9 (.sl [] tk)) (hm:∀ o ∈ mem,zcK mem.length o):zfi Tryz.prog 96 [.sl [] tk,.int .i64 0,.fn (.func gf) [] [.ptr a 0,.ptr b 0]] mem (fun r m => r = .tup [] ∧ m = mem):=by
 have hc:=insNil tk gf a b mem ha hb ht hm
 refine zbc (Φ:=P26) Tryz.func96 rfl (by rfl) (by rw [Tryz.ntmps96]; simp) zaA zgB ?_
 rw [Tryz.ntmps96]
 simp only [Tryz.f96,zaj,zao]
 have n1:¬ ((20:Int) ≤ 0):=by omega
 have n2:¬ ((20:Int) < 0):=by omega
 simp (maxSteps:=4000000) only [go_sem,AV.one,zae,zab,zac,zan,zaq,zaa,czb,cza,↓reduceIte,zaf,onz,n1,n2]
 all_goals (repeat' first | (with_reducible first | rfl | apply And.intro | assumption) | ((with_reducible show zad _ _ = true); rfl)) <;> try first | omega | (simp only [InR]; omega)
 refine zbg (0) [] [0,1,2,6] (fun _ => [(7,.int .i64 0),(8,.int .i64 20)]) (fun _ m => m) (fun _ => True) ?_ ?_ ?_ ?_
 ·trivial
 ·refine ⟨rfl,rfl,rfl,czf _,zbd _,?_,zb5 hm,trivial⟩
  show zaF _ mem.length _
  simp [AV.bare,zal,zaF,zaI,zak,zas,zai,tokz1,lk,zaa,zcs,ha,hb,ht]
 ·intro i hi _
  omega
 ·intro _
  simp (maxSteps:=4000000) only [go_sem,AV.one,zae,zab,zac,zan,zaq,zaa,czb,cza,↓reduceIte,zaf,onz,n1,n2]
  all_goals (repeat' first | (with_reducible first | rfl | apply And.intro | assumption) | ((with_reducible show zad _ _ = true); rfl)) <;> try first | omega | (simp only [InR]; omega)
  refine ⟨_,hc,?_⟩
  rintro r mem' ⟨rfl,rfl⟩ _
  refine zbg (0) [] [0,1,2,7,8] (fun _ => [(6,.int .i64 20)]) (fun _ m => m) (fun _ => True) ?_ ?_ ?_ ?_
  ·trivial
  ·refine ⟨rfl,rfl,rfl,czf _,zbd _,?_,zb5 hm,trivial⟩
   show zaF _ mem'.length _
   simp [AV.bare,zal,zaF,zaI,zak,zas,zai,tokz1,lk,zaa,zcs,ha,hb,ht]
  ·intro i hi _
   omega
  ·intro _
   simp (maxSteps:=4000000) only [go_sem,AV.one,zae,zab,zac,zan,zaq,zaa,czb,cza,↓reduceIte,zaf,onz,n1,n2]
   all_goals (repeat' first | (with_reducible first | rfl | apply And.intro | assumption) | ((with_reducible show zad _ _ = true); rfl)) <;> try first | omega | (simp only [InR]; omega)
   refine ⟨mem'.length,czf _,czf _,?_⟩
   rw [czm]
   exact ⟨rfl,by simp [AV.bare,zal,zaF,zaI,zak,zas,zai,tokz1,lk,zaa,zcs],hm⟩
theorem sortNil (tk:Tk) (gf a b:Nat) (mem:List AObj) (ha:a < mem.length) (hb:b < mem.length) (ht:bel mem.length 9 (.sl [] tk)) (hm:∀ o ∈ mem,zcK mem.length o):zfi Tryz.prog 85 [.sl [] tk,.fn (.func gf) [] [.ptr a 0,.ptr b 0]] mem (fun r m => r = .tup [] ∧ m = mem):=by
 have hc:=stableNil tk gf a b mem ha hb ht hm
 refine zbc (Φ:=P26) Tryz.func85 rfl (by rfl) (by rw [Tryz.ntmps85]; simp) zaA zgB ?_
 rw [Tryz.ntmps85]
 simp only [Tryz.f85,zaj,zao]
 simp (maxSteps:=4000000) only [go_sem,AV.one,zae,zab,zac,zan,zaq,zaa,czb,cza,↓reduceIte,zaf,onz]
 all_goals (repeat' first | (with_reducible first | rfl | apply And.intro | assumption) | ((with_reducible show zad _ _ = true); rfl)) <;> try first | omega | (simp only [InR]; omega)
 refine ⟨_,hc,?_⟩
 rintro r mem' ⟨rfl,rfl⟩ _
 refine ⟨mem'.length,czf _,czf _,?_⟩
 rw [czm]
 exact ⟨rfl,by simp [AV.bare,zal,zaF,zaI,zak,zas,zai,tokz1,lk,zaa,zcs],hm⟩
theorem zkf (w:WkS):zfi Tryz.prog 64 [.sl [] .no] [.cells [.ref (wkC w) 0]]
  (fun r m => (r = .sl [] .full ∧ m = [.cells [.ref (wkC w) 0]]) ∨ (r = .sl [] (.own 1) ∧ m = [.cells [.ref (wkC w) 0],.tok 0 1])):=by
 have hw:wkC w = [.sl (w.s.stacks.map EncE.cs) .no,.int .i64 w.s.hands,.int .i64 w.s.rain.lo,.int .i64 w.s.rain.hi,.mpr w.ks (w.vs.map (AV.int .i64))]:=rfl
 rw [hw]
 refine zbc (Φ:=P26) Tryz.func64 rfl (by rfl) (by rw [Tryz.ntmps64]; simp) zaA zgB ?_
 rw [Tryz.ntmps64]
 simp only [Tryz.f64,zaj,zao]
 simp (maxSteps:=4000000) only [go_sem,AV.one,zae,zab,zac,zan,zaq,zaa,czb,cza,↓reduceIte,zaf,onz]
 all_goals (repeat' first | (with_reducible first | rfl | apply And.intro | assumption) | ((with_reducible show zad _ _ = true); rfl)) <;> try first | omega | (simp only [InR]; omega)
 intro b
 cases b
 ·simp (maxSteps:=4000000) only [go_sem,AV.one,zae,zab,zac,zan,zaq,zaa,czb,cza,↓reduceIte,zaf,onz]
  all_goals (repeat' first | (with_reducible first | rfl | apply And.intro | assumption) | ((with_reducible show zad _ _ = true); rfl)) <;> try first | omega | (simp only [InR]; omega)
  ·refine ⟨2,by simp,by simp,.inr ?_,?_⟩
   ·simp
   ·simp [AV.bare,zal,zaF,zaI,zak,zas,zai,tokz1,lk,zaa,zcs,-List.map_map]
 ·simp (maxSteps:=4000000) only [go_sem,AV.one,zae,zab,zac,zan,zaq,zaa,czb,cza,↓reduceIte,zaf,onz]
  all_goals (repeat' first | (with_reducible first | rfl | apply And.intro | assumption) | ((with_reducible show zad _ _ = true); rfl)) <;> try first | omega | (simp only [InR]; omega)
  refine ⟨1,by simp,by simp,.inl ?_,?_⟩
  ·simp
  ·simp [AV.bare,zal,zaF,zaI,zak,zas,zai,tokz1,lk,zaa,zcs,-List.map_map]
end Go.Proofs
