/- The texts H47, HB, H49, H50, joined. -/
import Derived.Test.YtilbconikmpadaaGreatG21
import Derived.Test.YtilbconikmpadaaGreatG19
import Derived.Test.YtilbconikmpadaaGreatG18
set_option linter.all false
namespace Go.Proofs
open Go.Fs
set_option maxHeartbeats 4000000
set_option maxRecDepth 8000
theorem zsR (ws:List (Uk .u8)) (n:Int) (h:WsOk ws ∧ 0 ≤ n):zaP Tryz.prog 112 [Enc.enc ws,Enc.enc n] (· = Enc.enc (zdL ws n)):=by
 have hb:=ziV h.1 n
 have hn:=h.2
 unfold zdL at hb ⊢
 by_cases c:ws = []
 ·rw [if_pos c]
  have c':decide ((ws.length:Int) = 0) = true:=by rw [c]; rfl
  simp only [zcf]
  refine cpz zqV Tryz.func112 zaB ?_
  rw [Tryz.ntmps112]
  simp only [Tryz.f112,zai,zam]
  simp (maxSteps:=4000000) only [go_sem,AV.one,zae,zac,zad,zan,zaq,zaa,czb,cza,↓reduceIte,zab,zay,onz,zbH,c']
 ·have hl:0 < ws.length:=by
   cases ws with
   | nil => exact absurd rfl c
   | cons _ _ => simp
  rw [if_neg c] at hb ⊢
  have c':decide ((ws.length:Int) = 0) = false:=by rw [decide_eq_false_iff_not]; omega
  have h1:=Int.emod_nonneg n (show (ws.length:Int) ≠ 0 by omega)
  have h2:=Int.emod_lt_of_pos n (show (0:Int) < ws.length by omega)
  obtain ⟨k,ek⟩:=czu h1
  rw [ek] at h2 hb ⊢
  have hg:(ws.map EncE.cs).getD k [] = [AV.int .u8 (at_ ws k).n]:=by rw [zax (by omega)]; rfl
  rw [czF] at hb ⊢
  simp only [zcf]
  refine cpz zqV Tryz.func112 zaB ?_
  rw [Tryz.ntmps112]
  simp only [Tryz.f112,zai,zam]
  simp (maxSteps:=4000000) only [go_sem,AV.one,zae,zac,zad,zan,zaq,zaa,czb,cza,↓reduceIte,zab,zay,onz,zbH,c',ek,hg]
  all_goals exact auz
def P155 (g:FuncId):=(zas 112 (zbF (fun (ws:List (Uk .u8)) (n:Int) => WsOk ws ∧ 0 ≤ n) zdL) (P154):zaJ) g
theorem zqU:zaz Tryz.prog P155:=zah (zaM zsR) (zqV)
theorem zn5 (d:Option Nat):zaF P155 d = none:=(zag (by decide) d).trans (zn6 d)
attribute [go_sem] P155 zn5
theorem zq4 (y:Yd) (ws:List (Uk .u8)) (h:WsOk ws ∧ y.chairs.length ≤ 4096):zaP Tryz.prog 54 [Enc.enc y,Enc.enc ws] (· = Enc.enc (ordW y ws)):=by
 obtain ⟨hw,hc⟩:=h
 simp only [zcf]
 refine cpz zqU Tryz.func54 zaB ?_
 rw [Tryz.ntmps54]
 simp only [Tryz.f54,zai,zam]
 simp (maxSteps:=4000000) only [go_sem,AV.one,zae,zac,zad,zan,zaq,zaa,czb,cza,↓reduceIte,zab,zay,onz,zbH]
 all_goals (repeat' first | (with_reducible first | rfl | apply And.intro | assumption) | ((with_reducible show zaj _ _ = true); rfl)) <;> try first | omega | (simp only [InR]; omega)
 refine zbG (y.chairs.length) [] [1,2,4] (fun i => [(6,.int .i64 i),(5,.sl ((ziP ws i).map EncE.cs) .no)]) (fun _ m => m) (fun _ => True) ?_ ?_ ?_ ?_
 ·trivial
 ·simp [AV.bare,zal,zaN,zaR,zak,zar,zaf,tokz1,lk,zaa,za3,ziP,zbH,-List.map_map]
 ·intro i hi _
  have hi':=czH.2 hi
  have hb:=ziV hw i
  have hol:=ordN_len ws i
  have hos:ziP ws (i + 1) = if zdL ws i % 8 = 7 then ziP ws i else (ziP ws i).take (posW ws (ziP ws i) i) ++ [(i:Int)] ++ (ziP ws i).drop (posW ws (ziP ws i) i):=rfl
  obtain ⟨P,hP⟩:∃ P,ziP ws i = P:=⟨_,rfl⟩
  rw [hP] at hol hos
  rw [hP]
  obtain ⟨w,hwd⟩:∃ w,zdL ws i = w:=⟨_,rfl⟩
  rw [hwd] at hb hos
  cases c1:decide (w % 8 = 7)
  ·have h1:=Int.emod_nonneg (w / 8) (show ((P.length:Int) + 1) ≠ 0 by omega)
   have h2:=Int.emod_lt_of_pos (w / 8) (show (0:Int) < (P.length:Int) + 1 by omega)
   have hpos:posW ws P i = (w / 8 % ((P.length:Int) + 1)).toNat:=by unfold posW; rw [hwd]
   obtain ⟨k,ek⟩:=czu h1
   rw [ek,czF] at hpos
   rw [ek] at h1 h2
   rw [if_neg (by simpa using c1),hpos] at hos
   have hkl:k ≤ P.length:=by omega
   have ht:((k:Int) - 0).toNat = k:=by omega
   have hd:((P.length:Int) - k).toNat = P.length - k:=by omega
   have hmt:(P.map EncE.cs).take k = (P.take k).map EncE.cs:=by rw [List.map_take]
   have hmd:((P.map EncE.cs).drop k).take (P.length - k) = (P.drop k).map EncE.cs:=by rw [cze (by simp),List.map_drop]
   have hl1:(P.take k).length = k:=by simp; omega
   have hl2:(P.drop k).length = P.length - k:=by simp
   have hone:∀ l:List Int,∀ x ∈ l.map EncE.cs,∀ c ∈ x,AV.one c = true:=fun l x hx c hc => by
    obtain ⟨a,_,rfl⟩:=czx.1 hx
    simp only [zeF,czC] at hc
    subst hc; rfl
   have hlen1:∀ l:List Int,∀ x ∈ l.map EncE.cs,x.length = 1:=fun l x hx => by
    obtain ⟨a,_,rfl⟩:=czx.1 hx
    rfl
   obtain ⟨A1,hA1⟩:∃ A1,P.take k = A1:=⟨_,rfl⟩
   obtain ⟨A2,hA2⟩:∃ A2,P.drop k = A2:=⟨_,rfl⟩
   rw [hA1] at hmt hl1 hos
   rw [hA2] at hmd hl2 hos
   have hone1:=hone A1
   have hone2:=hone A2
   have hln1:=hlen1 A1
   have hln2:=hlen1 A2
   have hln3:∀ x ∈ A1.map EncE.cs ++ [[AV.int .i64 (i:Int)]],x.length = 1:=fun x hx => by
    rcases czv.1 hx with q | q
    ·exact hln1 x q
    ·rw [czC] at q; subst q; rfl
   simp (maxSteps:=4000000) only [go_sem,zae,zac,zad,zan,zaq,zaa,czb,cza,↓reduceIte,zab,zay,onz,zbH,hi',hw,hwd,c1,ek,ht,hd,hmt,hmd,czc,czz,hl1,hl2,decide_true,decide_false]
   all_goals (repeat' first | (with_reducible first | rfl | apply And.intro | assumption) | ((with_reducible show zaj _ _ = true); rfl)) <;> try first | omega | (simp only [InR]; omega)
   refine nxt hi trivial ?_
   simp [AV.bare,zal,zaN,zaR,zak,zar,zaf,tokz1,lk,zaa,za3,hos,zbH,-List.map_map]
  ·rw [if_pos (by simpa using c1)] at hos
   simp (maxSteps:=4000000) only [go_sem,AV.one,zae,zac,zad,zan,zaq,zaa,czb,cza,↓reduceIte,zab,zay,onz,zbH,hi',hw,hwd,c1,decide_true,decide_false]
   all_goals (repeat' first | (with_reducible first | rfl | apply And.intro | assumption) | ((with_reducible show zaj _ _ = true); rfl)) <;> try first | omega | (simp only [InR]; omega)
   refine nxt hi trivial ?_
   simp [AV.bare,zal,zaN,zaR,zak,zar,zaf,tokz1,lk,zaa,za3,hos,zbH,-List.map_map]
 ·intro _
  simp (maxSteps:=4000000) only [go_sem,AV.one,zae,zac,zad,zan,zaq,zaa,czb,cza,↓reduceIte,zab,zay,onz,zbH,czA,decide_false]
  all_goals (repeat' first | (with_reducible first | rfl | apply And.intro | assumption) | ((with_reducible show zaj _ _ = true); rfl)) <;> try first | omega | (simp only [InR]; omega)
  rfl
theorem zuR (y:Yd) (which:Uk .u16) (ws:List (Uk .u8)) (h:(VY y ∧ InR .u16 which.n) ∧ WsOk ws):zaP Tryz.prog 53 [Enc.enc y,Enc.enc which,Enc.enc ws] (· = Enc.enc (hiredY y which.n ws,zmy y which.n)):=by
 obtain ⟨⟨hv,hw⟩,hws⟩:=h
 have h1:=(vy_hok hv).1
 have h2:=(vy_hok hv).2
 have hb7:=ziV hws 7
 have ho:y.order.length ≤ 4096:=by have:=zjB hv.ord; have:=hv.c5; omega
 obtain ⟨m5,mc⟩:=manyW_le y ws
 have hlen:0 < (zaS y.t).length:=List.length_pos_iff.2 hv.tr
 have hw0:0 ≤ which.n ∧ which.n ≤ 65535:=hw
 have e1:=Int.emod_nonneg which.n (show ((zaS y.t).length:Int) ≠ 0 by omega)
 have e2:=Int.emod_lt_of_pos which.n (show (0:Int) < (zaS y.t).length by omega)
 have htm:=zsV hv (which:=which.n) hw0.1
 unfold hiredY
 unfold zmy at htm ⊢
 obtain ⟨k,ek⟩:=czu e1
 rw [ek] at e2 htm ⊢
 rw [czF] at htm ⊢
 have hkl:k < (zaS y.t).length:=by omega
 have hg:=zax (f:=EncE.cs) hkl
 have hth:=zhg hv htm
 obtain ⟨T,hT⟩:∃ T,at_ (zaS y.t) k = T:=⟨_,rfl⟩
 rw [hT] at hg hth ⊢
 simp only [zab,enc_uk]
 simp only [zcf]
 refine cpz zqU Tryz.func53 zaB ?_
 rw [Tryz.ntmps53]
 simp only [Tryz.f53,zai,zam]
 simp (maxSteps:=4000000) only [go_sem,zae,zac,zad,zan,zaq,zaa,czb,cza,↓reduceIte,zab,zay,onz,zbH,ek,hg]
 all_goals (repeat' first | (with_reducible first | rfl | apply And.intro | assumption) | ((with_reducible show zaj _ _ = true); rfl)) <;> try first | omega | (simp only [InR]; omega)
 refine zbG (ziQ y ws) [.cell 2 8 2] [2,3,6,7,9,10] (fun i => [(11,.int .i64 i)]) (fun i m => (m.set 2 (.cells [.int .i64 y.t.last,.sl (y.t.heights.map EncE.cs) .no,.int .i64 y.t.step,.sl (y.t.levels.map EncE.cs) .no,.sl (y.t.marks.map EncE.cs) .no,.int .i64 y.hands,.sl (y.chairs.map EncE.cs) .no,.sl (y.order.map EncE.cs) .no,.sl ((zfL y T ws i).map EncE.cs) (.own 3)])).set 3 (.tok (zfL y T ws i).length 2)) (fun _ => True) ?_ ?_ ?_ ?_
 ·trivial
 ·simp [AV.bare,zal,zaN,zaR,zak,zar,zaf,tokz1,lk,zaa,za3,zfL,zbH,-List.map_map]
 ·intro i hi _
  have hcp:=mc (by omega)
  have hmw:ziQ y ws = (zdL ws 7 % 6).toNat:=by unfold ziQ; rw [if_neg (by omega)]
  have hi6:decide ((i:Int) < zdL ws 7 % 6) = true:=by simp; omega
  have hcp':decide ((0:Int) < y.chairs.length) = true:=by simp; omega
  have hb:=ziV hws ((i:Int) + 8)
  have hh:=hireW_ok hv hws hcp i
  have hlo:zdL ws ((i:Int) + 8) % (y.chairs.length:Int) = (zhK y ws i).lo:=rfl
  have hhi:zdL ws ((i:Int) + 8) / 8 % (y.t.last + 1) = (zhK y ws i).hi:=rfl
  have hsl:=zk5 y T ws i
  have hss:zfL y T ws (i + 1) = if canY y y.order T (zhK y ws i).lo (zhK y ws i).hi.toNat then zfL y T ws i ++ [zhK y ws i] else zfL y T ws i:=rfl
  obtain ⟨A,hA⟩:∃ A,zhK y ws i = A:=⟨_,rfl⟩
  rw [hA] at hh hlo hhi hss
  obtain ⟨w,hwd⟩:∃ w,zdL ws ((i:Int) + 8) = w:=⟨_,rfl⟩
  rw [hwd] at hb hlo hhi
  obtain ⟨Hs,hHs⟩:∃ Hs,zfL y T ws i = Hs:=⟨_,rfl⟩
  rw [hHs] at hsl hss
  rw [hHs]
  have hl0:=hv.l0
  have hhr:=hv.hrs
  have hpre:=rpre hv ho hth hh.1.1 hh.1.2
  have hkl:A.hi < T.length:=by omega
  cases d:canY y y.order T A.lo A.hi.toNat
  all_goals
   rw [d] at hss
   simp only [czp,if_false,if_true] at hss
   simp (maxSteps:=4000000) only [go_sem,zae,zac,zad,zan,zaq,zaa,czb,cza,↓reduceIte,zab,zay,onz,zbH,gt_iff_lt,hws,hi6,hcp',hwd,hlo,hhi,hpre,hkl,d,decide_true,decide_false]
   all_goals (repeat' first | (with_reducible first | rfl | apply And.intro | assumption) | ((with_reducible show zaj _ _ = true); rfl)) <;> try first | omega | (simp only [InR]; omega)
   refine nxt hi trivial ?_
   simp [AV.bare,zal,zaN,zaR,zak,zar,zaf,tokz1,lk,zaa,za3,hHs,hss,zbH,-List.map_map]
 ·intro _
  by_cases hcp:y.chairs.length = 0
  ·have hmw:ziQ y ws = 0:=by unfold ziQ; rw [if_pos hcp]
   rw [hmw]
   have hcp':decide ((0:Int) < y.chairs.length) = false:=decide_eq_false (by omega)
   cases d:decide (((0:Nat):Int) < zdL ws 7 % 6)
   all_goals
    simp (maxSteps:=4000000) only [go_sem,zae,zac,zad,zan,zaq,zaa,czb,cza,↓reduceIte,zab,zay,onz,zbH,gt_iff_lt,hws,d,hcp',decide_true,decide_false]
    all_goals (repeat' first | (with_reducible first | rfl | apply And.intro | assumption) | ((with_reducible show zaj _ _ = true); rfl)) <;> try first | omega | (simp only [InR]; omega)
  ·have hmw:ziQ y ws = (zdL ws 7 % 6).toNat:=by unfold ziQ; rw [if_neg hcp]
   have hi6:decide (((ziQ y ws:Nat):Int) < zdL ws 7 % 6) = false:=by
    have:=Int.emod_nonneg (zdL ws 7) (show (6:Int) ≠ 0 by omega)
    refine decide_eq_false ?_
    rw [hmw]
    omega
   simp (maxSteps:=4000000) only [go_sem,zae,zac,zad,zan,zaq,zaa,czb,cza,↓reduceIte,zab,zay,onz,zbH,gt_iff_lt,hws,hi6,decide_true,decide_false]
   all_goals exact auz
def P156 (g:FuncId):=(zas 54 (zbF (fun (y:Yd) (ws:List (Uk .u8)) => WsOk ws ∧ y.chairs.length ≤ 4096) ordW) (zas 53 (zec (fun (y:Yd) (which:Uk .u16) (ws:List (Uk .u8)) => (VY y ∧ InR .u16 which.n) ∧ WsOk ws) (fun y which ws => (hiredY y which.n ws,zmy y which.n))) (P155)):zaJ) g
theorem P156_ok:zaz Tryz.prog P156:=zah (zaM zq4) (zah (zb8 zuR) (zqU))
theorem zn4 (d:Option Nat):zaF P156 d = none:=(zag (by decide) d).trans ((zag (by decide) d).trans (zn5 d))
attribute [go_sem] P156 zn4
def P256:zaJ:=zuY [1000010] P156
theorem P256_app (g:FuncId) (h:¬ (g = 4000000000)):P256 g = P156 g:=by unfold P256 zuY; rw [if_neg h]
theorem P256_ok:zaz Tryz.prog P256:=zls P156_ok
theorem P256_flag (d:Nat):zaF P256 (some d) = if d ∈ ([1000010]:List Nat) then some d else none:=zfx _ _ d
attribute [go_sem] P256_app P256_flag
theorem zp2 {y:Yd} {K:List Sea} {S:Nat} {RR:List (List AV)} (hw:zu1 ⟨y,K⟩) (hvb:∀ k st,zb6 k (.vec (K.map EncE.cs ++ RR) 2 st)) {a:List Int × Int} {oc0:AV} {mn0:Int} {Ms0:List AObj}
  (hM0:Mm y K Ms0) (hO0:OrdC oc0 mn0 a) :
  zeK Tryz.prog 107 [.ptr (11 + K.length) 0,.ptr 0 0,.ptr 8 0,.ptr (10 + K.length) 0,.ptr 2 0,.ptr 1 0,.ptr (12 + K.length) 0] (bM y K S RR oc0 mn0 Ms0 (.sl [] .full) [] 0)
   (Add0 y K S RR (tryF y K y.chairs.length [] a)):=by
 cases e:y.chairs.length with
 | zero => exact ztH hw hvb hM0 e hO0
 | succ f => exact top_call hw hvb rfl hM0 e.symm hO0
theorem zuX (y:Yd) (h12:y.t.heights.length ≤ 4096 ∧ y.order.length ≤ 4096):zaP Tryz.prog 42 [Enc.enc y] (· = Enc.enc (zui y)):=by
 unfold zui
 have ha:FnFine.best.ask = true:=rfl
 simp only [zaH,ydC]
 simp only [zcf]
 refine cpz P256_ok Tryz.func42 zaB ?_
 rw [Tryz.ntmps42]
 simp only [Tryz.f42,zai,zam]
 refine zkI fun Q0 hQ0 => ?_
 refine zaC fun Q1 h1 => ?_
 simp (maxSteps:=4000000) only [go_sem,zae,zac,zad,zan,zaq,zaa,czb,cza,↓reduceIte,zaQ,zau,zav,zat,zaw,zao,zap,zaH,zab,onz]
 all_goals (repeat' first | (with_reducible first | rfl | apply And.intro | assumption) | ((with_reducible show zaj _ _ = true); rfl)) <;> try first | omega | (simp only [InR]; omega)
 rw [h1]; clear h1 Q1; simp only [zaW,zaA]
 refine zaC fun Q1 h1 => ?_
 simp (maxSteps:=4000000) only [go_sem,zae,zac,zad,zan,zaq,zaa,czb,cza,↓reduceIte,zaQ,zau,zav,zat,zaw,zao,zap,zaH,zab,onz]
 refine ⟨_,askedb y h12 (zcY ⟨zcc y _,by simp [AV.bare,zal,zaN,zaR,zak,zar,zaf,tokz1,lk,zaa,za3],by simp [AV.bare,zal,zaN,zaR,zak,zar,zaf,tokz1,lk,zaa,za3],trivial⟩),?_⟩
 rintro r m hR _
 rw [ha] at hR
 unfold zlp at hR
 rw [zkd] at hR
 by_cases e:zgN y true = 0
 ·rw [if_pos e] at hR hQ0
  obtain ⟨rfl,rfl⟩:=hR
  obtain ⟨hv,ht,htr,_,hk⟩:=zjb e
  have hc5:=hv.c5
  have hk2:=zrh hv
  have hts:(wkY y).ts = zee y:=hk.symm
  rw [hts] at hQ0
  obtain ⟨K,hK⟩:∃ K,zee y = K:=⟨_,rfl⟩
  have hW:wkY y = ⟨y,K⟩:=by rw [← hK,hk]; rfl
  rw [hW] at hk2
  unfold zhY yC
  rw [hK] at hQ0 ⊢
  simp (maxSteps:=4000000) only [go_sem,zae,zac,zad,zan,zaq,zaa,czb,cza,↓reduceIte,zaQ,zau,zav,zat,zaw,zao,zap,zaH,zab,onz]
  rw [h1]; clear h1 Q1
  simp only [zaW,zaA]
  have hvb0:=fun k st => ziY K ((zba y).length - K.length) k st
  generalize hr:List.replicate ((zba y).length - K.length) zoV = RR at hvb0 ⊢
  generalize hs:(zba y).length = S at ⊢
  iterate 2 (
   refine zaC fun Q1 h1 => ?_
   simp (maxSteps:=4000000) only [go_sem,zae,zac,zad,zan,zaq,zaa,czb,cza,↓reduceIte,zaQ,zau,zav,zat,zaw,zao,zap,zaH,zab,onz,decide_true,decide_false]
   all_goals (repeat' first | (with_reducible first | rfl | apply And.intro | assumption) | ((with_reducible show zaj _ _ = true); rfl)) <;> try first | omega | (simp only [InR]; omega)
   rw [h1]; clear h1 Q1; simp only [zaW,zaA])
  refine zaC fun Q1 h1 => ?_
  simp (maxSteps:=4000000) only [go_sem,zae,zac,zad,zan,zaq,zaa,czb,cza,↓reduceIte,zaQ,zau,zav,zat,zaw,zao,zap,zaH,zab,onz,decide_true,decide_false]
  have hfr:=zk6 (mem:=[yC y,.cells [.sl [] .full],.cells [.int .i64 0],yC y,yC y,wC y 7 S K.length,.cells [.ptr 5 0],.vec (K.map EncE.cs ++ RR) 2 S,.cells [.ptr 5 0]]) (a:=5) (v:=7) y K S RR hk2.l1 rfl rfl
   (zcY (k:=9) ⟨zcc y _,by simp [AV.bare,zal,zaN,zaR,zak,zar,zaf,tokz1,lk,zaa,za3],by simp [AV.bare,zal,zaN,zaR,zak,zar,zaf,tokz1,lk,zaa,za3],zcc y _,zcc y _,by simp [wC,AV.bare,zal,zaN,zaR,zak,zar,zaf,tokz1,lk,zaa,za3,-List.map_map],by simp [AV.bare,zal,zaN,zaR,zak,zar,zaf,tokz1,lk,zaa,za3],hvb0 _ _,by simp [AV.bare,zal,zaN,zaR,zak,zar,zaf,tokz1,lk,zaa,za3],trivial⟩)
  rw [show ([yC y,.cells [.sl [] .full],.cells [.int .i64 0],yC y,yC y,wC y 7 S K.length,.cells [.ptr 5 0],.vec (K.map EncE.cs ++ RR) 2 S,.cells [.ptr 5 0]]:List AObj).length = 9 from rfl] at hfr
  unfold yC wC at hfr
  refine ⟨_,hfr,?_⟩
  rintro r m ⟨rfl,rfl⟩ _
  obtain ⟨Ms,hMs⟩:∃ Ms,List.replicate K.length (AObj.map [] []) = Ms:=⟨_,rfl⟩
  have hMm:Mm y K Ms:=by
   rw [← hMs]
   exact ⟨by simp,fun i hi => ⟨[],[],zm5 _ _,by simp [zaa,List.getD,hi]⟩⟩
  obtain ⟨M1,hM1⟩:∃ M1,bA y K S RR (.sl [] .full) 0 ++ Ms = M1:=⟨_,rfl⟩
  obtain ⟨M2,hM2⟩:∃ M2,bA y K S RR (.sl [] .full) ((y.chairs.length:Int) + 1) ++ Ms = M2:=⟨_,rfl⟩
  have hl1:M1.length = 10 + K.length:=by rw [← hM1,czc,zhW,hMm.len]
  have hl2:M2.length = 10 + K.length:=by rw [← hM2,czc,zhW,hMm.len]
  have hm1:[AObj.cells [.int .i64 y.t.last,.sl (y.t.heights.map EncE.cs) .no,.int .i64 y.t.step,.sl (y.t.levels.map EncE.cs) .no,.sl (y.t.marks.map EncE.cs) .no,.int .i64 y.hands,.sl (y.chairs.map EncE.cs) .no,.sl (y.order.map EncE.cs) .no,.sl (y.hires.map EncE.cs) .no],.cells [.sl [] .full],.cells [.int .i64 0],
    .cells [.int .i64 y.t.last,.sl (y.t.heights.map EncE.cs) .no,.int .i64 y.t.step,.sl (y.t.levels.map EncE.cs) .no,.sl (y.t.marks.map EncE.cs) .no,.int .i64 y.hands,.sl (y.chairs.map EncE.cs) .no,.sl (y.order.map EncE.cs) .no,.sl (y.hires.map EncE.cs) .no],
    .cells [.int .i64 y.t.last,.sl (y.t.heights.map EncE.cs) .no,.int .i64 y.t.step,.sl (y.t.levels.map EncE.cs) .no,.sl (y.t.marks.map EncE.cs) .no,.int .i64 y.hands,.sl (y.chairs.map EncE.cs) .no,.sl (y.order.map EncE.cs) .no,.sl (y.hires.map EncE.cs) .no],
    .cells [.int .i64 y.t.last,.sl (y.t.heights.map EncE.cs) .no,.int .i64 y.t.step,.sl (y.t.levels.map EncE.cs) .no,.sl (y.t.marks.map EncE.cs) .no,.int .i64 y.hands,.sl (y.chairs.map EncE.cs) .no,.sl (y.order.map EncE.cs) .no,.sl (y.hires.map EncE.cs) .no,.vec 7 S 0 K.length 2],
    .cells [.ptr 5 0],.vec (K.map EncE.cs ++ RR) 2 S,.cells [.ptr 5 0]] ++ AObj.cells ((List.range K.length).map fun i => .mp (9 + 1 + i)) :: List.replicate K.length (.map [] []) = M1:=by
   rw [hMs,← hM1]; rfl
  have g10:∀ r,zaa (M1 ++ r) 0 = yC y:=fun r => by rw [← hM1]; rfl
  have s10:∀ r o,(M1 ++ r).set (10 + K.length) o = M1 ++ r.set 0 o:=fun r o => by rw [← hl1]; exact zbN _ _ 0 _
  have s12:∀ r,(M1 ++ r).set 2 (.cells [.int .i64 ((y.chairs.length:Int) + 1)]) = M2 ++ r:=fun r => by rw [← hM1,← hM2]; rfl
  have g12:∀ r,zaa (M1 ++ r) 2 = .cells [.int .i64 0]:=fun r => by rw [← hM1]; rfl
  have g20:∀ r,zaa (M2 ++ r) 0 = yC y:=fun r => by rw [← hM2]; rfl
  have g2k:∀ r k,zaa (M2 ++ r) (10 + K.length + k) = zaa r k:=fun r k => by rw [← hl2]; exact zaK _ _ k
  have s2k:∀ r k o,(M2 ++ r).set (10 + K.length + k) o = M2 ++ r.set k o:=fun r k o => by rw [← hl2]; exact zbN _ _ k _
  have k10:∀ r:List AObj,(M1 ++ r).getD (10 + K.length) .dead = r.getD 0 .dead:=fun r => by rw [← hl1]; exact zaK _ _ 0
  have k12:∀ r:List AObj,(M1 ++ r).getD 2 .dead = .cells [.int .i64 0]:=g12
  have k2k:∀ (r:List AObj) k,(M2 ++ r).getD (10 + K.length + k) .dead = r.getD k .dead:=fun r k => by rw [← hl2]; exact zaK _ _ k
  have hfc:=zp2 (S:=S) (RR:=RR) (a:=([],(y.chairs.length:Int) + 1)) hk2 hvb0 hMm (oc0:=.sl [] .full) (mn0:=(y.chairs.length:Int) + 1) ⟨rfl,.inr ⟨rfl,rfl⟩⟩
  have hbm:bM y K S RR (.sl [] .full) ((y.chairs.length:Int) + 1) Ms (.sl [] .full) [] 0 = M2 ++ [.cells [.arr 9 0 K.length 1],.cells [.sl [] .full],.cells [.fn (.func 107) [] [.ptr (10 + K.length + 1) 0,.ptr 0 0,.ptr 8 0,.ptr (10 + K.length) 0,.ptr 2 0,.ptr 1 0,.ptr (10 + K.length + 2) 0]]]:=by
   rw [← hM2,czd]
   unfold bM bT addF
   rw [show 11 + K.length = 10 + K.length + 1 by omega,show 12 + K.length = 10 + K.length + 2 by omega]
   rfl
  rw [hbm,show 11 + K.length = 10 + K.length + 1 by omega,show 12 + K.length = 10 + K.length + 2 by omega] at hfc
  rw [hm1]
  unfold yC at g10 g20
  simp (maxSteps:=4000000) only [go_sem,zae,zac,zad,zan,zaq,czb,cza,↓reduceIte,zaQ,zau,zav,zat,zaw,zao,zap,zaH,zab,onz,g10,hl1,s10,k10,decide_true,decide_false,czc]
  rw [h1]; clear h1 Q1
  simp only [zaW,zaA]
  refine zaC fun Q1 h1 => ?_
  simp (maxSteps:=4000000) only [go_sem,zae,zac,zad,zan,zaq,czb,cza,↓reduceIte,zaQ,zau,zav,zat,zaw,zao,zap,zaH,zab,onz,g10,g12,hl1,s12,k12,decide_true,decide_false,czc]
  refine ⟨(by simp only [InR]; omega),?_⟩
  rw [h1]; clear h1 Q1
  simp only [zaW,zaA]
  simp (maxSteps:=4000000) only [go_sem,zae,zac,zad,zan,zaq,czb,cza,↓reduceIte,zaQ,zau,zav,zat,zaw,zao,zap,zaH,zab,onz,g2k,s2k,k2k,hl2,decide_true,decide_false,czc,czd,czs,List.nil_append]
  refine ⟨_,hfc,?_⟩
  rintro r m ⟨rfl,oc,mn,Ms',nw,V,rfl,hM',hO'⟩ _
  have n1:=bM_A (y:=y) (K:=K) (S:=S) (RR:=RR) (Ms:=Ms') (i:=1) (by omega) oc mn nw V 0
  have n2:=bM_A (y:=y) (K:=K) (S:=S) (RR:=RR) (Ms:=Ms') (i:=2) (by omega) oc mn nw V 0
  have nl:=zgS (y:=y) (S:=S) (RR:=RR) hM'.len oc mn nw V 0
  rw [show zaa (bA y K S RR oc mn) 1 = .cells [oc] from rfl] at n1
  rw [show zaa (bA y K S RR oc mn) 2 = .cells [.int .i64 mn] from rfl] at n2
  obtain ⟨m,hm⟩:∃ m,bM y K S RR oc mn Ms' nw V 0 = m:=⟨_,rfl⟩
  rw [hm] at n1 n2 nl ⊢
  have hmn:=hO'.1
  generalize tryF y K y.chairs.length [] ([],(y.chairs.length:Int) + 1) = a at hO' hmn hQ0
  obtain ⟨al,am⟩:=a
  dsimp only at hmn
  subst hmn
  have n3:∀ o,zaa (m.set 1 o) 2 = .cells [.int .i64 mn]:=fun o => by rw [zaD _ _ _ _ (by omega),if_neg (by decide)]; exact n2
  have n4:∀ o,zaa (m.set 1 o) 1 = o:=fun o => zd4 (by omega) o
  have n5:∀ o p,zaa ((m.set 1 o).set 2 p) 1 = o:=fun o p => by rw [zaD _ _ _ _ (by rw [czt]; omega),if_neg (by decide)]; exact n4 o
  have n6:∀ o p,zaa ((m.set 1 o).set 2 p) 2 = p:=fun o p => zd4 (by rw [czt]; omega) p
  rcases hO'.2 with rfl | ⟨rfl,hal⟩
  ·refine ⟨21949123963738723012075312962025600931802499239048399859060604530595504787143150154351985502881171567205176961768353693698,by rfl,?_⟩
   simp (maxSteps:=4000000) only [go_sem,zae,zac,zad,zan,zaq,czb,cza,↓reduceIte,zaQ,zau,zav,zat,zaw,zao,zap,zaH,zab,onz,(show Nat.testBit 21949123963738723012075312962025600931802499239048399859060604530595504787143150154351985502881171567205176961768353693698 399 = true from rfl),Bool.false_and,Bool.true_and,czp,(show Nat.testBit 21949123963738723012075312962025600931802499239048399859060604530595504787143150154351985502881171567205176961768353693698 400 = false from rfl),(show Nat.testBit 21949123963738723012075312962025600931802499239048399859060604530595504787143150154351985502881171567205176961768353693698 401 = false from rfl),(show Nat.testBit 21949123963738723012075312962025600931802499239048399859060604530595504787143150154351985502881171567205176961768353693698 402 = false from rfl),(show Nat.testBit 21949123963738723012075312962025600931802499239048399859060604530595504787143150154351985502881171567205176961768353693698 403 = true from rfl),(show Nat.testBit 21949123963738723012075312962025600931802499239048399859060604530595504787143150154351985502881171567205176961768353693698 404 = false from rfl),(show Nat.testBit 21949123963738723012075312962025600931802499239048399859060604530595504787143150154351985502881171567205176961768353693698 200 = false from rfl),zgC,zeQ,hideO,zqe,vcFr,Go.Fs.freeR,effL,zus,zkv,List.all_cons,List.all_nil,List.contains_cons,List.contains_nil,Nat.reduceBEq,Bool.or_self,(show Nat.testBit 21949123963738723012075312962025600931802499239048399859060604530595504787143150154351985502881171567205176961768353693698 0 = false from rfl),(show Nat.testBit 21949123963738723012075312962025600931802499239048399859060604530595504787143150154351985502881171567205176961768353693698 1 = true from rfl),(show Nat.testBit 21949123963738723012075312962025600931802499239048399859060604530595504787143150154351985502881171567205176961768353693698 2 = false from rfl),(show Nat.testBit 21949123963738723012075312962025600931802499239048399859060604530595504787143150154351985502881171567205176961768353693698 3 = false from rfl),(show Nat.testBit 21949123963738723012075312962025600931802499239048399859060604530595504787143150154351985502881171567205176961768353693698 4 = false from rfl),n1,n2,n3,n4,n5,n6,hQ0]
   rfl
  ·dsimp only at hal
   subst hal
   refine ⟨21949123963738723012075312962025600931802499239048399859060604530595504787143150154351985502881171567205176961768353693698,by rfl,?_⟩
   simp (maxSteps:=4000000) only [go_sem,zae,zac,zad,zan,zaq,czb,cza,↓reduceIte,zaQ,zau,zav,zat,zaw,zao,zap,zaH,zab,onz,(show Nat.testBit 21949123963738723012075312962025600931802499239048399859060604530595504787143150154351985502881171567205176961768353693698 399 = true from rfl),Bool.false_and,Bool.true_and,czp,(show Nat.testBit 21949123963738723012075312962025600931802499239048399859060604530595504787143150154351985502881171567205176961768353693698 400 = false from rfl),(show Nat.testBit 21949123963738723012075312962025600931802499239048399859060604530595504787143150154351985502881171567205176961768353693698 401 = false from rfl),(show Nat.testBit 21949123963738723012075312962025600931802499239048399859060604530595504787143150154351985502881171567205176961768353693698 402 = false from rfl),(show Nat.testBit 21949123963738723012075312962025600931802499239048399859060604530595504787143150154351985502881171567205176961768353693698 403 = true from rfl),(show Nat.testBit 21949123963738723012075312962025600931802499239048399859060604530595504787143150154351985502881171567205176961768353693698 404 = false from rfl),(show Nat.testBit 21949123963738723012075312962025600931802499239048399859060604530595504787143150154351985502881171567205176961768353693698 200 = false from rfl),zgC,zeQ,hideO,zqe,vcFr,Go.Fs.freeR,effL,zus,zkv,List.all_cons,List.all_nil,List.contains_cons,List.contains_nil,Nat.reduceBEq,Bool.or_self,(show Nat.testBit 21949123963738723012075312962025600931802499239048399859060604530595504787143150154351985502881171567205176961768353693698 0 = false from rfl),(show Nat.testBit 21949123963738723012075312962025600931802499239048399859060604530595504787143150154351985502881171567205176961768353693698 1 = true from rfl),(show Nat.testBit 21949123963738723012075312962025600931802499239048399859060604530595504787143150154351985502881171567205176961768353693698 2 = false from rfl),(show Nat.testBit 21949123963738723012075312962025600931802499239048399859060604530595504787143150154351985502881171567205176961768353693698 3 = false from rfl),(show Nat.testBit 21949123963738723012075312962025600931802499239048399859060604530595504787143150154351985502881171567205176961768353693698 4 = false from rfl),n1,n2,n3,n4,n5,n6,hQ0]
   rfl
 ·rw [if_neg e] at hR hQ0
  obtain ⟨rfl,rfl⟩:=hR
  simp (maxSteps:=4000000) only [go_sem,zae,zac,zad,zan,zaq,zaa,czb,cza,↓reduceIte,zaQ,zau,zav,zat,zaw,zao,zap,zaH,zab,onz]
  rw [h1]; clear h1 Q1
  simp only [zaW,zaA]
  simp (maxSteps:=4000000) only [go_sem,zae,zac,zad,zan,zaq,zaa,czb,cza,↓reduceIte,zaQ,zau,zav,zat,zaw,zao,zap,zaH,zab,onz,e,hQ0,decide_true,decide_false]
  all_goals exact auz
def P157 (g:FuncId):=(zas 42 (zcC (fun y:Yd => y.t.heights.length ≤ 4096 ∧ y.order.length ≤ 4096) zui) (P156):zaJ) g
theorem zmj:zaz Tryz.prog P157:=zah (zbj zuX) (P156_ok)
theorem zkh (d:Option Nat):zaF P157 d = none:=(zag (by decide) d).trans (zn4 d)
attribute [go_sem] P157 zkh
end Go.Proofs
