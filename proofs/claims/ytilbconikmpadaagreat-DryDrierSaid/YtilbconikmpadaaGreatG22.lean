/- The texts H47, HB, H49, H50, joined. -/
import Derived.Test.YtilbconikmpadaaGreatG21
import Derived.Test.YtilbconikmpadaaGreatG19
import Derived.Test.YtilbconikmpadaaGreatG18
set_option linter.all false
namespace Go.Proofs
open Go.Fs
set_option maxHeartbeats 4000000
set_option maxRecDepth 8000
theorem ztf (ws:List (Uk .u8)) (n:Int) (h:WsOk ws ∧ 0 ≤ n):zaQ Tryz.prog 112 [Enc.enc ws,Enc.enc n] (· = Enc.enc (zdM ws n)):=by
 have hb:=ziZ h.1 n
 have hn:=h.2
 unfold zdM at hb ⊢
 by_cases c:ws = []
 ·rw [if_pos c]
  have c':decide ((ws.length:Int) = 0) = true:=by rw [c]; rfl
  simp only [zb5]
  refine cpz zrk Tryz.func112 zaC ?_
  rw [Tryz.ntmps112]
  simp only [Tryz.f112,zah,zam]
  simp (maxSteps:=4000000) only [go_sem,AV.one,zae,zac,zad,zan,zaq,zaa,czb,cza,↓reduceIte,zab,zay,onz,zbx,c']
 ·have hl:0 < ws.length:=by
   cases ws with
   | nil => exact absurd rfl c
   | cons _ _ => simp
  rw [if_neg c] at hb ⊢
  have c':decide ((ws.length:Int) = 0) = false:=by rw [decide_eq_false_iff_not]; omega
  have h1:=Int.emod_nonneg n (show (ws.length:Int) ≠ 0 by omega)
  have h2:=Int.emod_lt_of_pos n (show (0:Int) < ws.length by omega)
  obtain ⟨k,ek⟩:=czu h1
  rw [ek] at h2 hb ⊢
  have hg:(ws.map EncE.cs).getD k [] = [AV.int .u8 (at_ ws k).n]:=by rw [zar (by omega)]; rfl
  rw [czF] at hb ⊢
  simp only [zb5]
  refine cpz zrk Tryz.func112 zaC ?_
  rw [Tryz.ntmps112]
  simp only [Tryz.f112,zah,zam]
  simp (maxSteps:=4000000) only [go_sem,AV.one,zae,zac,zad,zan,zaq,zaa,czb,cza,↓reduceIte,zab,zay,onz,zbx,c',ek,hg]
  all_goals exact auz
def P155 (g:FuncId):=(zaz 112 (zbE (fun (ws:List (Uk .u8)) (n:Int) => WsOk ws ∧ 0 ≤ n) zdM) (P154):zaJ) g
theorem zrj:zaA Tryz.prog P155:=zai (zaM ztf) (zrk)
theorem zoq (d:Option Nat):zaG P155 d = none:=(zag (by decide) d).trans (zor d)
attribute [go_sem] P155 zoq
theorem zrt (y:Yd) (ws:List (Uk .u8)) (h:WsOk ws ∧ y.chairs.length ≤ 4096):zaQ Tryz.prog 54 [Enc.enc y,Enc.enc ws] (· = Enc.enc (ordW y ws)):=by
 obtain ⟨hw,hc⟩:=h
 simp only [zb5]
 refine cpz zrj Tryz.func54 zaC ?_
 rw [Tryz.ntmps54]
 simp only [Tryz.f54,zah,zam]
 simp (maxSteps:=4000000) only [go_sem,AV.one,zae,zac,zad,zan,zaq,zaa,czb,cza,↓reduceIte,zab,zay,onz,zbx]
 all_goals (repeat' first | (with_reducible first | rfl | apply And.intro | assumption) | ((with_reducible show zaj _ _ = true); rfl)) <;> try first | omega | (simp only [InR]; omega)
 refine zbG (y.chairs.length) [] [1,2,4] (fun i => [(6,.int .i64 i),(5,.sl ((ziU ws i).map EncE.cs) .no)]) (fun _ m => m) (fun _ => True) ?_ ?_ ?_ ?_
 ·trivial
 ·simp [AV.bare,zal,zaN,zaS,zak,zas,zaf,tokz1,lk,zaa,za3,ziU,zbx,-List.map_map]
 ·intro i hi _
  have hi':=czH.2 hi
  have hb:=ziZ hw i
  have hol:=ordN_len ws i
  have hos:ziU ws (i + 1) = if zdM ws i % 8 = 7 then ziU ws i else (ziU ws i).take (posW ws (ziU ws i) i) ++ [(i:Int)] ++ (ziU ws i).drop (posW ws (ziU ws i) i):=rfl
  obtain ⟨P,hP⟩:∃ P,ziU ws i = P:=⟨_,rfl⟩
  rw [hP] at hol hos
  rw [hP]
  obtain ⟨w,hwd⟩:∃ w,zdM ws i = w:=⟨_,rfl⟩
  rw [hwd] at hb hos
  cases c1:decide (w % 8 = 7)
  ·have h1:=Int.emod_nonneg (w / 8) (show ((P.length:Int) + 1) ≠ 0 by omega)
   have h2:=Int.emod_lt_of_pos (w / 8) (show (0:Int) < (P.length:Int) + 1 by omega)
   have hpos:posW ws P i = (w / 8 % ((P.length:Int) + 1)).toNat:=by unfold posW; rw [hwd]
   obtain ⟨k,ek⟩:=czu h1
   rw [ek,czF] at hpos
   rw [ek] at h1 h2
   rw [if_neg (by simpa using c1),hpos] at hos
   have hkl:k ≤ P.length:=by omega
   have ht:((k:Int) - 0).toNat = k:=by omega
   have hd:((P.length:Int) - k).toNat = P.length - k:=by omega
   have hmt:(P.map EncE.cs).take k = (P.take k).map EncE.cs:=by rw [List.map_take]
   have hmd:((P.map EncE.cs).drop k).take (P.length - k) = (P.drop k).map EncE.cs:=by rw [cze (by simp),List.map_drop]
   have hl1:(P.take k).length = k:=by simp; omega
   have hl2:(P.drop k).length = P.length - k:=by simp
   have hone:∀ l:List Int,∀ x ∈ l.map EncE.cs,∀ c ∈ x,AV.one c = true:=fun l x hx c hc => by
    obtain ⟨a,_,rfl⟩:=czx.1 hx
    simp only [zeg,czC] at hc
    subst hc; rfl
   have hlen1:∀ l:List Int,∀ x ∈ l.map EncE.cs,x.length = 1:=fun l x hx => by
    obtain ⟨a,_,rfl⟩:=czx.1 hx
    rfl
   obtain ⟨A1,hA1⟩:∃ A1,P.take k = A1:=⟨_,rfl⟩
   obtain ⟨A2,hA2⟩:∃ A2,P.drop k = A2:=⟨_,rfl⟩
   rw [hA1] at hmt hl1 hos
   rw [hA2] at hmd hl2 hos
   have hone1:=hone A1
   have hone2:=hone A2
   have hln1:=hlen1 A1
   have hln2:=hlen1 A2
   have hln3:∀ x ∈ A1.map EncE.cs ++ [[AV.int .i64 (i:Int)]],x.length = 1:=fun x hx => by
    rcases czv.1 hx with q | q
    ·exact hln1 x q
    ·rw [czC] at q; subst q; rfl
   simp (maxSteps:=4000000) only [go_sem,zae,zac,zad,zan,zaq,zaa,czb,cza,↓reduceIte,zab,zay,onz,zbx,hi',hw,hwd,c1,ek,ht,hd,hmt,hmd,czc,czz,hl1,hl2,decide_true,decide_false]
   all_goals (repeat' first | (with_reducible first | rfl | apply And.intro | assumption) | ((with_reducible show zaj _ _ = true); rfl)) <;> try first | omega | (simp only [InR]; omega)
   refine nxt hi trivial ?_
   simp [AV.bare,zal,zaN,zaS,zak,zas,zaf,tokz1,lk,zaa,za3,hos,zbx,-List.map_map]
  ·rw [if_pos (by simpa using c1)] at hos
   simp (maxSteps:=4000000) only [go_sem,AV.one,zae,zac,zad,zan,zaq,zaa,czb,cza,↓reduceIte,zab,zay,onz,zbx,hi',hw,hwd,c1,decide_true,decide_false]
   all_goals (repeat' first | (with_reducible first | rfl | apply And.intro | assumption) | ((with_reducible show zaj _ _ = true); rfl)) <;> try first | omega | (simp only [InR]; omega)
   refine nxt hi trivial ?_
   simp [AV.bare,zal,zaN,zaS,zak,zas,zaf,tokz1,lk,zaa,za3,hos,zbx,-List.map_map]
 ·intro _
  simp (maxSteps:=4000000) only [go_sem,AV.one,zae,zac,zad,zan,zaq,zaa,czb,cza,↓reduceIte,zab,zay,onz,zbx,czA,decide_false]
  all_goals (repeat' first | (with_reducible first | rfl | apply And.intro | assumption) | ((with_reducible show zaj _ _ = true); rfl)) <;> try first | omega | (simp only [InR]; omega)
  rfl
theorem zve (y:Yd) (which:Uk .u16) (ws:List (Uk .u8)) (h:(VY y ∧ InR .u16 which.n) ∧ WsOk ws):zaQ Tryz.prog 53 [Enc.enc y,Enc.enc which,Enc.enc ws] (· = Enc.enc (hiredY y which.n ws,zmO y which.n)):=by
 obtain ⟨⟨hv,hw⟩,hws⟩:=h
 have h1:=(vy_hok hv).1
 have h2:=(vy_hok hv).2
 have hb7:=ziZ hws 7
 have ho:y.order.length ≤ 4096:=by have:=zgc hv.ord; have:=hv.c5; omega
 obtain ⟨m5,mc⟩:=manyW_le y ws
 have hlen:0 < (zaR y.t).length:=List.length_pos_iff.2 hv.tr
 have hw0:0 ≤ which.n ∧ which.n ≤ 65535:=hw
 have e1:=Int.emod_nonneg which.n (show ((zaR y.t).length:Int) ≠ 0 by omega)
 have e2:=Int.emod_lt_of_pos which.n (show (0:Int) < (zaR y.t).length by omega)
 have htm:=ztj hv (which:=which.n) hw0.1
 unfold hiredY
 unfold zmO at htm ⊢
 obtain ⟨k,ek⟩:=czu e1
 rw [ek] at e2 htm ⊢
 rw [czF] at htm ⊢
 have hkl:k < (zaR y.t).length:=by omega
 have hg:=zar (f:=EncE.cs) hkl
 have hth:=zhi hv htm
 obtain ⟨T,hT⟩:∃ T,at_ (zaR y.t) k = T:=⟨_,rfl⟩
 rw [hT] at hg hth ⊢
 simp only [zab,enc_uk]
 simp only [zb5]
 refine cpz zrj Tryz.func53 zaC ?_
 rw [Tryz.ntmps53]
 simp only [Tryz.f53,zah,zam]
 simp (maxSteps:=4000000) only [go_sem,zae,zac,zad,zan,zaq,zaa,czb,cza,↓reduceIte,zab,zay,onz,zbx,ek,hg]
 all_goals (repeat' first | (with_reducible first | rfl | apply And.intro | assumption) | ((with_reducible show zaj _ _ = true); rfl)) <;> try first | omega | (simp only [InR]; omega)
 refine zbG (ziV y ws) [.cell 2 8 2] [2,3,6,7,9,10] (fun i => [(11,.int .i64 i)]) (fun i m => (m.set 2 (.cells [.int .i64 y.t.last,.sl (y.t.heights.map EncE.cs) .no,.int .i64 y.t.step,.sl (y.t.levels.map EncE.cs) .no,.sl (y.t.marks.map EncE.cs) .no,.int .i64 y.hands,.sl (y.chairs.map EncE.cs) .no,.sl (y.order.map EncE.cs) .no,.sl ((zfM y T ws i).map EncE.cs) (.own 3)])).set 3 (.tok (zfM y T ws i).length 2)) (fun _ => True) ?_ ?_ ?_ ?_
 ·trivial
 ·simp [AV.bare,zal,zaN,zaS,zak,zas,zaf,tokz1,lk,zaa,za3,zfM,zbx,-List.map_map]
 ·intro i hi _
  have hcp:=mc (by omega)
  have hmw:ziV y ws = (zdM ws 7 % 6).toNat:=by unfold ziV; rw [if_neg (by omega)]
  have hi6:decide ((i:Int) < zdM ws 7 % 6) = true:=by simp; omega
  have hcp':decide ((0:Int) < y.chairs.length) = true:=by simp; omega
  have hb:=ziZ hws ((i:Int) + 8)
  have hh:=hireW_ok hv hws hcp i
  have hlo:zdM ws ((i:Int) + 8) % (y.chairs.length:Int) = (zhP y ws i).lo:=rfl
  have hhi:zdM ws ((i:Int) + 8) / 8 % (y.t.last + 1) = (zhP y ws i).hi:=rfl
  have hsl:=zlh y T ws i
  have hss:zfM y T ws (i + 1) = if canY y y.order T (zhP y ws i).lo (zhP y ws i).hi.toNat then zfM y T ws i ++ [zhP y ws i] else zfM y T ws i:=rfl
  obtain ⟨A,hA⟩:∃ A,zhP y ws i = A:=⟨_,rfl⟩
  rw [hA] at hh hlo hhi hss
  obtain ⟨w,hwd⟩:∃ w,zdM ws ((i:Int) + 8) = w:=⟨_,rfl⟩
  rw [hwd] at hb hlo hhi
  obtain ⟨Hs,hHs⟩:∃ Hs,zfM y T ws i = Hs:=⟨_,rfl⟩
  rw [hHs] at hsl hss
  rw [hHs]
  have hl0:=hv.l0
  have hhr:=hv.hrs
  have hpre:=rpre hv ho hth hh.1.1 hh.1.2
  have hkl:A.hi < T.length:=by omega
  cases d:canY y y.order T A.lo A.hi.toNat
  all_goals
   rw [d] at hss
   simp only [czp,if_false,if_true] at hss
   simp (maxSteps:=4000000) only [go_sem,zae,zac,zad,zan,zaq,zaa,czb,cza,↓reduceIte,zab,zay,onz,zbx,gt_iff_lt,hws,hi6,hcp',hwd,hlo,hhi,hpre,hkl,d,decide_true,decide_false]
   all_goals (repeat' first | (with_reducible first | rfl | apply And.intro | assumption) | ((with_reducible show zaj _ _ = true); rfl)) <;> try first | omega | (simp only [InR]; omega)
   refine nxt hi trivial ?_
   simp [AV.bare,zal,zaN,zaS,zak,zas,zaf,tokz1,lk,zaa,za3,hHs,hss,zbx,-List.map_map]
 ·intro _
  by_cases hcp:y.chairs.length = 0
  ·have hmw:ziV y ws = 0:=by unfold ziV; rw [if_pos hcp]
   rw [hmw]
   have hcp':decide ((0:Int) < y.chairs.length) = false:=decide_eq_false (by omega)
   cases d:decide (((0:Nat):Int) < zdM ws 7 % 6)
   all_goals
    simp (maxSteps:=4000000) only [go_sem,zae,zac,zad,zan,zaq,zaa,czb,cza,↓reduceIte,zab,zay,onz,zbx,gt_iff_lt,hws,d,hcp',decide_true,decide_false]
    all_goals (repeat' first | (with_reducible first | rfl | apply And.intro | assumption) | ((with_reducible show zaj _ _ = true); rfl)) <;> try first | omega | (simp only [InR]; omega)
  ·have hmw:ziV y ws = (zdM ws 7 % 6).toNat:=by unfold ziV; rw [if_neg hcp]
   have hi6:decide (((ziV y ws:Nat):Int) < zdM ws 7 % 6) = false:=by
    have:=Int.emod_nonneg (zdM ws 7) (show (6:Int) ≠ 0 by omega)
    refine decide_eq_false ?_
    rw [hmw]
    omega
   simp (maxSteps:=4000000) only [go_sem,zae,zac,zad,zan,zaq,zaa,czb,cza,↓reduceIte,zab,zay,onz,zbx,gt_iff_lt,hws,hi6,decide_true,decide_false]
   all_goals exact auz
def P156 (g:FuncId):=(zaz 54 (zbE (fun (y:Yd) (ws:List (Uk .u8)) => WsOk ws ∧ y.chairs.length ≤ 4096) ordW) (zaz 53 (zeb (fun (y:Yd) (which:Uk .u16) (ws:List (Uk .u8)) => (VY y ∧ InR .u16 which.n) ∧ WsOk ws) (fun y which ws => (hiredY y which.n ws,zmO y which.n))) (P155)):zaJ) g
theorem P156_ok:zaA Tryz.prog P156:=zai (zaM zrt) (zai (zb6 zve) (zrj))
theorem zop (d:Option Nat):zaG P156 d = none:=(zag (by decide) d).trans ((zag (by decide) d).trans (zoq d))
attribute [go_sem] P156 zop
def P256:zaJ:=vecT [1000010] P156
theorem P256_app (g:FuncId) (h:¬ (g = 4000000000)):P256 g = P156 g:=by unfold P256 vecT; rw [if_neg h]
theorem P256_ok:zaA Tryz.prog P256:=zpq P156_ok
theorem P256_flag (d:Nat):zaG P256 (some d) = if d ∈ ([1000010]:List Nat) then some d else none:=zhc _ _ d
attribute [go_sem] P256_app P256_flag
theorem zqq {y:Yd} {K:List Sea} {S:Nat} {RR:List (List AV)} (hw:zvn ⟨y,K⟩) (hvb:∀ k st,zb9 k (.vec (K.map EncE.cs ++ RR) 2 st)) {a:List Int × Int} {oc0:AV} {mn0:Int} {Ms0:List AObj}
  (hM0:Mm y K Ms0) (hO0:OrdC oc0 mn0 a) :
  ze3 Tryz.prog 107 [.ptr (11 + K.length) 0,.ptr 0 0,.ptr 8 0,.ptr (10 + K.length) 0,.ptr 2 0,.ptr 1 0,.ptr (12 + K.length) 0] (bM y K S RR oc0 mn0 Ms0 (.sl [] .full) [] 0)
   (Add0 y K S RR (tryF y K y.chairs.length [] a)):=by
 cases e:y.chairs.length with
 | zero => exact zt4 hw hvb hM0 e hO0
 | succ f => exact top_call hw hvb rfl hM0 e.symm hO0
theorem zvk (y:Yd) (h12:y.t.heights.length ≤ 4096 ∧ y.order.length ≤ 4096):zaQ Tryz.prog 42 [Enc.enc y] (· = Enc.enc (zuF y)):=by
 unfold zuF
 have ha:FnFine.best.ask = true:=rfl
 simp only [zaE,ydC]
 simp only [zb5]
 refine cpz P256_ok Tryz.func42 zaC ?_
 rw [Tryz.ntmps42]
 simp only [Tryz.f42,zah,zam]
 refine zkR fun Q0 hQ0 => ?_
 refine zaB fun Q1 h1 => ?_
 simp (maxSteps:=4000000) only [go_sem,zae,zac,zad,zan,zaq,zaa,czb,cza,↓reduceIte,zaP,zav,zaw,zau,zax,zao,zap,zaE,zab,onz]
 all_goals (repeat' first | (with_reducible first | rfl | apply And.intro | assumption) | ((with_reducible show zaj _ _ = true); rfl)) <;> try first | omega | (simp only [InR]; omega)
 rw [h1]; clear h1 Q1; simp only [zaU,zat]
 refine zaB fun Q1 h1 => ?_
 simp (maxSteps:=4000000) only [go_sem,zae,zac,zad,zan,zaq,zaa,czb,cza,↓reduceIte,zaP,zav,zaw,zau,zax,zao,zap,zaE,zab,onz]
 refine ⟨_,askedb y h12 (zcV ⟨zcb y _,by simp [AV.bare,zal,zaN,zaS,zak,zas,zaf,tokz1,lk,zaa,za3],by simp [AV.bare,zal,zaN,zaS,zak,zas,zaf,tokz1,lk,zaa,za3],trivial⟩),?_⟩
 rintro r m hR _
 rw [ha] at hR
 unfold zlD at hR
 rw [zkn] at hR
 by_cases e:zgP y true = 0
 ·rw [if_pos e] at hR hQ0
  obtain ⟨rfl,rfl⟩:=hR
  obtain ⟨hv,ht,htr,_,hk⟩:=zjf e
  have hc5:=hv.c5
  have hk2:=zrF hv
  have hts:(wkY y).ts = zee y:=hk.symm
  rw [hts] at hQ0
  obtain ⟨K,hK⟩:∃ K,zee y = K:=⟨_,rfl⟩
  have hW:wkY y = ⟨y,K⟩:=by rw [← hK,hk]; rfl
  rw [hW] at hk2
  unfold zh4 yC
  rw [hK] at hQ0 ⊢
  simp (maxSteps:=4000000) only [go_sem,zae,zac,zad,zan,zaq,zaa,czb,cza,↓reduceIte,zaP,zav,zaw,zau,zax,zao,zap,zaE,zab,onz]
  rw [h1]; clear h1 Q1
  simp only [zaU,zat]
  have hvb0:=fun k st => zi2 K ((zba y).length - K.length) k st
  generalize hr:List.replicate ((zba y).length - K.length) zpg = RR at hvb0 ⊢
  generalize hs:(zba y).length = S at ⊢
  iterate 2 (
   refine zaB fun Q1 h1 => ?_
   simp (maxSteps:=4000000) only [go_sem,zae,zac,zad,zan,zaq,zaa,czb,cza,↓reduceIte,zaP,zav,zaw,zau,zax,zao,zap,zaE,zab,onz,decide_true,decide_false]
   all_goals (repeat' first | (with_reducible first | rfl | apply And.intro | assumption) | ((with_reducible show zaj _ _ = true); rfl)) <;> try first | omega | (simp only [InR]; omega)
   rw [h1]; clear h1 Q1; simp only [zaU,zat])
  refine zaB fun Q1 h1 => ?_
  simp (maxSteps:=4000000) only [go_sem,zae,zac,zad,zan,zaq,zaa,czb,cza,↓reduceIte,zaP,zav,zaw,zau,zax,zao,zap,zaE,zab,onz,decide_true,decide_false]
  have hfr:=zli (mem:=[yC y,.cells [.sl [] .full],.cells [.int .i64 0],yC y,yC y,wC y 7 S K.length,.cells [.ptr 5 0],.vec (K.map EncE.cs ++ RR) 2 S,.cells [.ptr 5 0]]) (a:=5) (v:=7) y K S RR hk2.l1 rfl rfl
   (zcV (k:=9) ⟨zcb y _,by simp [AV.bare,zal,zaN,zaS,zak,zas,zaf,tokz1,lk,zaa,za3],by simp [AV.bare,zal,zaN,zaS,zak,zas,zaf,tokz1,lk,zaa,za3],zcb y _,zcb y _,by simp [wC,AV.bare,zal,zaN,zaS,zak,zas,zaf,tokz1,lk,zaa,za3,-List.map_map],by simp [AV.bare,zal,zaN,zaS,zak,zas,zaf,tokz1,lk,zaa,za3],hvb0 _ _,by simp [AV.bare,zal,zaN,zaS,zak,zas,zaf,tokz1,lk,zaa,za3],trivial⟩)
  rw [show ([yC y,.cells [.sl [] .full],.cells [.int .i64 0],yC y,yC y,wC y 7 S K.length,.cells [.ptr 5 0],.vec (K.map EncE.cs ++ RR) 2 S,.cells [.ptr 5 0]]:List AObj).length = 9 from rfl] at hfr
  unfold yC wC at hfr
  refine ⟨_,hfr,?_⟩
  rintro r m ⟨rfl,rfl⟩ _
  obtain ⟨Ms,hMs⟩:∃ Ms,List.replicate K.length (AObj.map [] []) = Ms:=⟨_,rfl⟩
  have hMm:Mm y K Ms:=by
   rw [← hMs]
   exact ⟨by simp,fun i hi => ⟨[],[],znn _ _,by simp [zaa,List.getD,hi]⟩⟩
  obtain ⟨M1,hM1⟩:∃ M1,bA y K S RR (.sl [] .full) 0 ++ Ms = M1:=⟨_,rfl⟩
  obtain ⟨M2,hM2⟩:∃ M2,bA y K S RR (.sl [] .full) ((y.chairs.length:Int) + 1) ++ Ms = M2:=⟨_,rfl⟩
  have hl1:M1.length = 10 + K.length:=by rw [← hM1,czc,zh3,hMm.len]
  have hl2:M2.length = 10 + K.length:=by rw [← hM2,czc,zh3,hMm.len]
  have hm1:[AObj.cells [.int .i64 y.t.last,.sl (y.t.heights.map EncE.cs) .no,.int .i64 y.t.step,.sl (y.t.levels.map EncE.cs) .no,.sl (y.t.marks.map EncE.cs) .no,.int .i64 y.hands,.sl (y.chairs.map EncE.cs) .no,.sl (y.order.map EncE.cs) .no,.sl (y.hires.map EncE.cs) .no],.cells [.sl [] .full],.cells [.int .i64 0],
    .cells [.int .i64 y.t.last,.sl (y.t.heights.map EncE.cs) .no,.int .i64 y.t.step,.sl (y.t.levels.map EncE.cs) .no,.sl (y.t.marks.map EncE.cs) .no,.int .i64 y.hands,.sl (y.chairs.map EncE.cs) .no,.sl (y.order.map EncE.cs) .no,.sl (y.hires.map EncE.cs) .no],
    .cells [.int .i64 y.t.last,.sl (y.t.heights.map EncE.cs) .no,.int .i64 y.t.step,.sl (y.t.levels.map EncE.cs) .no,.sl (y.t.marks.map EncE.cs) .no,.int .i64 y.hands,.sl (y.chairs.map EncE.cs) .no,.sl (y.order.map EncE.cs) .no,.sl (y.hires.map EncE.cs) .no],
    .cells [.int .i64 y.t.last,.sl (y.t.heights.map EncE.cs) .no,.int .i64 y.t.step,.sl (y.t.levels.map EncE.cs) .no,.sl (y.t.marks.map EncE.cs) .no,.int .i64 y.hands,.sl (y.chairs.map EncE.cs) .no,.sl (y.order.map EncE.cs) .no,.sl (y.hires.map EncE.cs) .no,.vec 7 S 0 K.length 2],
    .cells [.ptr 5 0],.vec (K.map EncE.cs ++ RR) 2 S,.cells [.ptr 5 0]] ++ AObj.cells ((List.range K.length).map fun i => .mp (9 + 1 + i)) :: List.replicate K.length (.map [] []) = M1:=by
   rw [hMs,← hM1]; rfl
  have g10:∀ r,zaa (M1 ++ r) 0 = yC y:=fun r => by rw [← hM1]; rfl
  have s10:∀ r o,(M1 ++ r).set (10 + K.length) o = M1 ++ r.set 0 o:=fun r o => by rw [← hl1]; exact zbV _ _ 0 _
  have s12:∀ r,(M1 ++ r).set 2 (.cells [.int .i64 ((y.chairs.length:Int) + 1)]) = M2 ++ r:=fun r => by rw [← hM1,← hM2]; rfl
  have g12:∀ r,zaa (M1 ++ r) 2 = .cells [.int .i64 0]:=fun r => by rw [← hM1]; rfl
  have g20:∀ r,zaa (M2 ++ r) 0 = yC y:=fun r => by rw [← hM2]; rfl
  have g2k:∀ r k,zaa (M2 ++ r) (10 + K.length + k) = zaa r k:=fun r k => by rw [← hl2]; exact zaL _ _ k
  have s2k:∀ r k o,(M2 ++ r).set (10 + K.length + k) o = M2 ++ r.set k o:=fun r k o => by rw [← hl2]; exact zbV _ _ k _
  have k10:∀ r:List AObj,(M1 ++ r).getD (10 + K.length) .dead = r.getD 0 .dead:=fun r => by rw [← hl1]; exact zaL _ _ 0
  have k12:∀ r:List AObj,(M1 ++ r).getD 2 .dead = .cells [.int .i64 0]:=g12
  have k2k:∀ (r:List AObj) k,(M2 ++ r).getD (10 + K.length + k) .dead = r.getD k .dead:=fun r k => by rw [← hl2]; exact zaL _ _ k
  have hfc:=zqq (S:=S) (RR:=RR) (a:=([],(y.chairs.length:Int) + 1)) hk2 hvb0 hMm (oc0:=.sl [] .full) (mn0:=(y.chairs.length:Int) + 1) ⟨rfl,.inr ⟨rfl,rfl⟩⟩
  have hbm:bM y K S RR (.sl [] .full) ((y.chairs.length:Int) + 1) Ms (.sl [] .full) [] 0 = M2 ++ [.cells [.arr 9 0 K.length 1],.cells [.sl [] .full],.cells [.fn (.func 107) [] [.ptr (10 + K.length + 1) 0,.ptr 0 0,.ptr 8 0,.ptr (10 + K.length) 0,.ptr 2 0,.ptr 1 0,.ptr (10 + K.length + 2) 0]]]:=by
   rw [← hM2,czd]
   unfold bM bT addF
   rw [show 11 + K.length = 10 + K.length + 1 by omega,show 12 + K.length = 10 + K.length + 2 by omega]
   rfl
  rw [hbm,show 11 + K.length = 10 + K.length + 1 by omega,show 12 + K.length = 10 + K.length + 2 by omega] at hfc
  rw [hm1]
  unfold yC at g10 g20
  simp (maxSteps:=4000000) only [go_sem,zae,zac,zad,zan,zaq,czb,cza,↓reduceIte,zaP,zav,zaw,zau,zax,zao,zap,zaE,zab,onz,g10,hl1,s10,k10,decide_true,decide_false,czc]
  rw [h1]; clear h1 Q1
  simp only [zaU,zat]
  refine zaB fun Q1 h1 => ?_
  simp (maxSteps:=4000000) only [go_sem,zae,zac,zad,zan,zaq,czb,cza,↓reduceIte,zaP,zav,zaw,zau,zax,zao,zap,zaE,zab,onz,g10,g12,hl1,s12,k12,decide_true,decide_false,czc]
  refine ⟨(by simp only [InR]; omega),?_⟩
  rw [h1]; clear h1 Q1
  simp only [zaU,zat]
  simp (maxSteps:=4000000) only [go_sem,zae,zac,zad,zan,zaq,czb,cza,↓reduceIte,zaP,zav,zaw,zau,zax,zao,zap,zaE,zab,onz,g2k,s2k,k2k,hl2,decide_true,decide_false,czc,czd,czs,List.nil_append]
  refine ⟨_,hfc,?_⟩
  rintro r m ⟨rfl,oc,mn,Ms',nw,V,rfl,hM',hO'⟩ _
  have n1:=bM_A (y:=y) (K:=K) (S:=S) (RR:=RR) (Ms:=Ms') (i:=1) (by omega) oc mn nw V 0
  have n2:=bM_A (y:=y) (K:=K) (S:=S) (RR:=RR) (Ms:=Ms') (i:=2) (by omega) oc mn nw V 0
  have nl:=zgU (y:=y) (S:=S) (RR:=RR) hM'.len oc mn nw V 0
  rw [show zaa (bA y K S RR oc mn) 1 = .cells [oc] from rfl] at n1
  rw [show zaa (bA y K S RR oc mn) 2 = .cells [.int .i64 mn] from rfl] at n2
  obtain ⟨m,hm⟩:∃ m,bM y K S RR oc mn Ms' nw V 0 = m:=⟨_,rfl⟩
  rw [hm] at n1 n2 nl ⊢
  have hmn:=hO'.1
  generalize tryF y K y.chairs.length [] ([],(y.chairs.length:Int) + 1) = a at hO' hmn hQ0
  obtain ⟨al,am⟩:=a
  dsimp only at hmn
  subst hmn
  have n3:∀ o,zaa (m.set 1 o) 2 = .cells [.int .i64 mn]:=fun o => by rw [zaD _ _ _ _ (by omega),if_neg (by decide)]; exact n2
  have n4:∀ o,zaa (m.set 1 o) 1 = o:=fun o => zd3 (by omega) o
  have n5:∀ o p,zaa ((m.set 1 o).set 2 p) 1 = o:=fun o p => by rw [zaD _ _ _ _ (by rw [czt]; omega),if_neg (by decide)]; exact n4 o
  have n6:∀ o p,zaa ((m.set 1 o).set 2 p) 2 = p:=fun o p => zd3 (by rw [czt]; omega) p
  rcases hO'.2 with rfl | ⟨rfl,hal⟩
  ·refine ⟨21949123963738723012075312962025600931802499239048399859060604530595504787143150154351985502881171567205176961768353693698,by rfl,?_⟩
   simp (maxSteps:=4000000) only [go_sem,zae,zac,zad,zan,zaq,czb,cza,↓reduceIte,zaP,zav,zaw,zau,zax,zao,zap,zaE,zab,onz,(show Nat.testBit 21949123963738723012075312962025600931802499239048399859060604530595504787143150154351985502881171567205176961768353693698 399 = true from rfl),Bool.false_and,Bool.true_and,czp,(show Nat.testBit 21949123963738723012075312962025600931802499239048399859060604530595504787143150154351985502881171567205176961768353693698 400 = false from rfl),(show Nat.testBit 21949123963738723012075312962025600931802499239048399859060604530595504787143150154351985502881171567205176961768353693698 401 = false from rfl),(show Nat.testBit 21949123963738723012075312962025600931802499239048399859060604530595504787143150154351985502881171567205176961768353693698 402 = false from rfl),(show Nat.testBit 21949123963738723012075312962025600931802499239048399859060604530595504787143150154351985502881171567205176961768353693698 403 = true from rfl),(show Nat.testBit 21949123963738723012075312962025600931802499239048399859060604530595504787143150154351985502881171567205176961768353693698 404 = false from rfl),(show Nat.testBit 21949123963738723012075312962025600931802499239048399859060604530595504787143150154351985502881171567205176961768353693698 200 = false from rfl),zgD,zeS,hideO,zqC,vcFr,Go.Fs.freeR,effL,zuP,zkE,List.all_cons,List.all_nil,List.contains_cons,List.contains_nil,Nat.reduceBEq,Bool.or_self,(show Nat.testBit 21949123963738723012075312962025600931802499239048399859060604530595504787143150154351985502881171567205176961768353693698 0 = false from rfl),(show Nat.testBit 21949123963738723012075312962025600931802499239048399859060604530595504787143150154351985502881171567205176961768353693698 1 = true from rfl),(show Nat.testBit 21949123963738723012075312962025600931802499239048399859060604530595504787143150154351985502881171567205176961768353693698 2 = false from rfl),(show Nat.testBit 21949123963738723012075312962025600931802499239048399859060604530595504787143150154351985502881171567205176961768353693698 3 = false from rfl),(show Nat.testBit 21949123963738723012075312962025600931802499239048399859060604530595504787143150154351985502881171567205176961768353693698 4 = false from rfl),n1,n2,n3,n4,n5,n6,hQ0]
   rfl
  ·dsimp only at hal
   subst hal
   refine ⟨21949123963738723012075312962025600931802499239048399859060604530595504787143150154351985502881171567205176961768353693698,by rfl,?_⟩
   simp (maxSteps:=4000000) only [go_sem,zae,zac,zad,zan,zaq,czb,cza,↓reduceIte,zaP,zav,zaw,zau,zax,zao,zap,zaE,zab,onz,(show Nat.testBit 21949123963738723012075312962025600931802499239048399859060604530595504787143150154351985502881171567205176961768353693698 399 = true from rfl),Bool.false_and,Bool.true_and,czp,(show Nat.testBit 21949123963738723012075312962025600931802499239048399859060604530595504787143150154351985502881171567205176961768353693698 400 = false from rfl),(show Nat.testBit 21949123963738723012075312962025600931802499239048399859060604530595504787143150154351985502881171567205176961768353693698 401 = false from rfl),(show Nat.testBit 21949123963738723012075312962025600931802499239048399859060604530595504787143150154351985502881171567205176961768353693698 402 = false from rfl),(show Nat.testBit 21949123963738723012075312962025600931802499239048399859060604530595504787143150154351985502881171567205176961768353693698 403 = true from rfl),(show Nat.testBit 21949123963738723012075312962025600931802499239048399859060604530595504787143150154351985502881171567205176961768353693698 404 = false from rfl),(show Nat.testBit 21949123963738723012075312962025600931802499239048399859060604530595504787143150154351985502881171567205176961768353693698 200 = false from rfl),zgD,zeS,hideO,zqC,vcFr,Go.Fs.freeR,effL,zuP,zkE,List.all_cons,List.all_nil,List.contains_cons,List.contains_nil,Nat.reduceBEq,Bool.or_self,(show Nat.testBit 21949123963738723012075312962025600931802499239048399859060604530595504787143150154351985502881171567205176961768353693698 0 = false from rfl),(show Nat.testBit 21949123963738723012075312962025600931802499239048399859060604530595504787143150154351985502881171567205176961768353693698 1 = true from rfl),(show Nat.testBit 21949123963738723012075312962025600931802499239048399859060604530595504787143150154351985502881171567205176961768353693698 2 = false from rfl),(show Nat.testBit 21949123963738723012075312962025600931802499239048399859060604530595504787143150154351985502881171567205176961768353693698 3 = false from rfl),(show Nat.testBit 21949123963738723012075312962025600931802499239048399859060604530595504787143150154351985502881171567205176961768353693698 4 = false from rfl),n1,n2,n3,n4,n5,n6,hQ0]
   rfl
 ·rw [if_neg e] at hR hQ0
  obtain ⟨rfl,rfl⟩:=hR
  simp (maxSteps:=4000000) only [go_sem,zae,zac,zad,zan,zaq,zaa,czb,cza,↓reduceIte,zaP,zav,zaw,zau,zax,zao,zap,zaE,zab,onz]
  rw [h1]; clear h1 Q1
  simp only [zaU,zat]
  simp (maxSteps:=4000000) only [go_sem,zae,zac,zad,zan,zaq,zaa,czb,cza,↓reduceIte,zaP,zav,zaw,zau,zax,zao,zap,zaE,zab,onz,e,hQ0,decide_true,decide_false]
  all_goals exact auz
def P157 (g:FuncId):=(zaz 42 (zcM (fun y:Yd => y.t.heights.length ≤ 4096 ∧ y.order.length ≤ 4096) zuF) (P156):zaJ) g
theorem zri:zaA Tryz.prog P157:=zai (zbi zvk) (P156_ok)
theorem zkr (d:Option Nat):zaG P157 d = none:=(zag (by decide) d).trans (zop d)
attribute [go_sem] P157 zkr
theorem zjj {y:Yd} (hv:VY y) {hs:List Int} (h:za8 y.t hs = true):hs.length = hrs y:=by
 have h1:=zbR h
 have h2:=hv.fok.len
 have h3:=hv.hrs.1
 omega
def zfJ (y:Yd) (o hs:List Int):List Sy:=(List.range y.chairs.length).map fun c:Nat => zek y o hs c
theorem zia (y:Yd) (o hs:List Int):(zfJ y o hs).length = y.chairs.length:=by simp [zfJ]
theorem zjF {y:Yd} (o hs:List Int) {i:Nat} (h:i < y.chairs.length):at_ (zfJ y o hs) i = zek y o hs i:=zgM _ h
theorem playL_eq {y:Yd} (hv:VY y) {hs:List Int} (hl:hs.length = hrs y) (o:List Int):zhB y (zbW y.t hs) o = zfJ y o hs:=by
 unfold zhB zfJ
 apply List.map_congr_left
 intro c hc
 have hc':c < y.chairs.length:=by simpa using hc
 exact zmR hv hl (by omega) (by omega)
theorem zpZ {y:Yd} (hv:VY y) {o hs:List Int} (h1:za8 y.t hs = true) (h2:za2 y.chairs.length o = true):zjG y o hs = (zfJ y o hs,0):=by
 unfold zjG
 rw [if_pos hv.fault,h1,h2,Bool.and_self,if_pos rfl,playL_eq hv (zjj hv h1)]
end Go.Proofs
