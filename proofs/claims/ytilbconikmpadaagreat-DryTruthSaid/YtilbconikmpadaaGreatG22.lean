/- The texts H47, HB, H49, H50, joined. -/
import Derived.Test.YtilbconikmpadaaGreatG21
import Derived.Test.YtilbconikmpadaaGreatG19
import Derived.Test.YtilbconikmpadaaGreatG18
set_option linter.all false
namespace Go.Proofs
open Go.Fs
set_option maxHeartbeats 4000000
set_option maxRecDepth 8000
theorem zvm (ws:List (Uk .u8)) (n:Int) (h:zxa ws ∧ 0 ≤ n):zaU Tryz.prog 112 [Enc.enc ws,Enc.enc n] (· = Enc.enc (zd4 ws n)):=by
 have hb:=zj3 h.1 n
 have hn:=h.2
 unfold zd4 at hb ⊢
 by_cases c:ws = []
 ·rw [if_pos c]
  have c':decide ((ws.length:Int) = 0) = true:=by rw [c]; rfl
  simp only [zbY]
  refine cpz ztc Tryz.func112 zaF ?_
  rw [Tryz.ntmps112]
  simp only [Tryz.f112,zah,zaq]
  simp (maxSteps:=4000000) only [go_sem,AV.one,zae,zac,zad,zap,zas,zab,czb,cza,↓reduceIte,zaa,zao,onz,zaE,c']
 ·have hl:0 < ws.length:=by
   cases ws with
   | nil => exact absurd rfl c
   | cons _ _ => simp
  rw [if_neg c] at hb ⊢
  have c':decide ((ws.length:Int) = 0) = false:=by rw [decide_eq_false_iff_not]; omega
  have h1:=Int.emod_nonneg n (show (ws.length:Int) ≠ 0 by omega)
  have h2:=Int.emod_lt_of_pos n (show (0:Int) < ws.length by omega)
  obtain ⟨k,ek⟩:=czu h1
  rw [ek] at h2 hb ⊢
  have hg:(ws.map EncE.cs).getD k [] = [AV.int .u8 (at_ ws k).n]:=by rw [zat (by omega)]; rfl
  rw [czF] at hb ⊢
  simp only [zbY]
  refine cpz ztc Tryz.func112 zaF ?_
  rw [Tryz.ntmps112]
  simp only [Tryz.f112,zah,zaq]
  simp (maxSteps:=4000000) only [go_sem,AV.one,zae,zac,zad,zap,zas,zab,czb,cza,↓reduceIte,zaa,zao,onz,zaE,c',ek,hg]
  all_goals exact auz
def P155 (g:FuncId):=(zax 112 (zbL (fun (ws:List (Uk .u8)) (n:Int) => zxa ws ∧ 0 ≤ n) zd4) (P154):zaN) g
theorem ztb:zaD Tryz.prog P155:=zaj (zaR zvm) (ztc)
theorem zp7 (d:Option Nat):zaK P155 d = none:=(zai (by decide) d).trans (zp8 d)
attribute [go_sem] P155 zp7
theorem ztl (y:Yd) (ws:List (Uk .u8)) (h:zxa ws ∧ y.chairs.length ≤ 4096):zaU Tryz.prog 54 [Enc.enc y,Enc.enc ws] (· = Enc.enc (ordW y ws)):=by
 obtain ⟨hw,hc⟩:=h
 simp only [zbY]
 refine cpz ztb Tryz.func54 zaF ?_
 rw [Tryz.ntmps54]
 simp only [Tryz.f54,zah,zaq]
 simp (maxSteps:=4000000) only [go_sem,AV.one,zae,zac,zad,zap,zas,zab,czb,cza,↓reduceIte,zaa,zao,onz,zaE]
 all_goals (repeat' first | (with_reducible first | rfl | apply And.intro | assumption) | ((with_reducible show zaf _ _ = true); rfl)) <;> try first | omega | (simp only [InR]; omega)
 refine zbA (y.chairs.length) [] [1,2,4] (fun i => [(6,.int .i64 i),(5,.sl ((zjX ws i).map EncE.cs) .no)]) (fun _ m => m) (fun _ => True) ?_ ?_ ?_ ?_
 ·trivial
 ·simp [AV.bare,zal,zaP,zaS,zak,zau,zag,tokz1,lk,zab,za4,zjX,zaE,-List.map_map]
 ·intro i hi _
  have hi':=czH.2 hi
  have hb:=zj3 hw i
  have hol:=ordN_len ws i
  have hos:zjX ws (i + 1) = if zd4 ws i % 8 = 7 then zjX ws i else (zjX ws i).take (posW ws (zjX ws i) i) ++ [(i:Int)] ++ (zjX ws i).drop (posW ws (zjX ws i) i):=rfl
  obtain ⟨P,hP⟩:∃ P,zjX ws i = P:=⟨_,rfl⟩
  rw [hP] at hol hos
  rw [hP]
  obtain ⟨w,hwd⟩:∃ w,zd4 ws i = w:=⟨_,rfl⟩
  rw [hwd] at hb hos
  cases c1:decide (w % 8 = 7)
  ·have h1:=Int.emod_nonneg (w / 8) (show ((P.length:Int) + 1) ≠ 0 by omega)
   have h2:=Int.emod_lt_of_pos (w / 8) (show (0:Int) < (P.length:Int) + 1 by omega)
   have hpos:posW ws P i = (w / 8 % ((P.length:Int) + 1)).toNat:=by unfold posW; rw [hwd]
   obtain ⟨k,ek⟩:=czu h1
   rw [ek,czF] at hpos
   rw [ek] at h1 h2
   rw [if_neg (by simpa using c1),hpos] at hos
   have hkl:k ≤ P.length:=by omega
   have ht:((k:Int) - 0).toNat = k:=by omega
   have hd:((P.length:Int) - k).toNat = P.length - k:=by omega
   have hmt:(P.map EncE.cs).take k = (P.take k).map EncE.cs:=by rw [List.map_take]
   have hmd:((P.map EncE.cs).drop k).take (P.length - k) = (P.drop k).map EncE.cs:=by rw [cze (by simp),List.map_drop]
   have hl1:(P.take k).length = k:=by simp; omega
   have hl2:(P.drop k).length = P.length - k:=by simp
   have hone:∀ l:List Int,∀ x ∈ l.map EncE.cs,∀ c ∈ x,AV.one c = true:=fun l x hx c hc => by
    obtain ⟨a,_,rfl⟩:=czx.1 hx
    simp only [zeI,czC] at hc
    subst hc; rfl
   have hlen1:∀ l:List Int,∀ x ∈ l.map EncE.cs,x.length = 1:=fun l x hx => by
    obtain ⟨a,_,rfl⟩:=czx.1 hx
    rfl
   obtain ⟨A1,hA1⟩:∃ A1,P.take k = A1:=⟨_,rfl⟩
   obtain ⟨A2,hA2⟩:∃ A2,P.drop k = A2:=⟨_,rfl⟩
   rw [hA1] at hmt hl1 hos
   rw [hA2] at hmd hl2 hos
   have hone1:=hone A1
   have hone2:=hone A2
   have hln1:=hlen1 A1
   have hln2:=hlen1 A2
   have hln3:∀ x ∈ A1.map EncE.cs ++ [[AV.int .i64 (i:Int)]],x.length = 1:=fun x hx => by
    rcases czv.1 hx with q | q
    ·exact hln1 x q
    ·rw [czC] at q; subst q; rfl
   simp (maxSteps:=4000000) only [go_sem,zae,zac,zad,zap,zas,zab,czb,cza,↓reduceIte,zaa,zao,onz,zaE,hi',hw,hwd,c1,ek,ht,hd,hmt,hmd,czc,czz,hl1,hl2,decide_true,decide_false]
   all_goals (repeat' first | (with_reducible first | rfl | apply And.intro | assumption) | ((with_reducible show zaf _ _ = true); rfl)) <;> try first | omega | (simp only [InR]; omega)
   refine nxt hi trivial ?_
   simp [AV.bare,zal,zaP,zaS,zak,zau,zag,tokz1,lk,zab,za4,hos,zaE,-List.map_map]
  ·rw [if_pos (by simpa using c1)] at hos
   simp (maxSteps:=4000000) only [go_sem,AV.one,zae,zac,zad,zap,zas,zab,czb,cza,↓reduceIte,zaa,zao,onz,zaE,hi',hw,hwd,c1,decide_true,decide_false]
   all_goals (repeat' first | (with_reducible first | rfl | apply And.intro | assumption) | ((with_reducible show zaf _ _ = true); rfl)) <;> try first | omega | (simp only [InR]; omega)
   refine nxt hi trivial ?_
   simp [AV.bare,zal,zaP,zaS,zak,zau,zag,tokz1,lk,zab,za4,hos,zaE,-List.map_map]
 ·intro _
  simp (maxSteps:=4000000) only [go_sem,AV.one,zae,zac,zad,zap,zas,zab,czb,cza,↓reduceIte,zaa,zao,onz,zaE,czA,decide_false]
  all_goals (repeat' first | (with_reducible first | rfl | apply And.intro | assumption) | ((with_reducible show zaf _ _ = true); rfl)) <;> try first | omega | (simp only [InR]; omega)
  rfl
theorem zxn (y:Yd) (which:Uk .u16) (ws:List (Uk .u8)) (h:(VY y ∧ InR .u16 which.n) ∧ zxa ws):zaU Tryz.prog 53 [Enc.enc y,Enc.enc which,Enc.enc ws] (· = Enc.enc (zjE y which.n ws,zjt y which.n)):=by
 obtain ⟨⟨hv,hw⟩,hws⟩:=h
 have h1:=(zty hv).1
 have h2:=(zty hv).2
 have hb7:=zj3 hws 7
 have ho:y.order.length ≤ 4096:=by have:=zev hv.ord; have:=hv.c5; omega
 obtain ⟨m5,mc⟩:=zt6 y ws
 have hlen:0 < (zaC y.t).length:=List.length_pos_iff.2 hv.tr
 have hw0:0 ≤ which.n ∧ which.n ≤ 65535:=hw
 have e1:=Int.emod_nonneg which.n (show ((zaC y.t).length:Int) ≠ 0 by omega)
 have e2:=Int.emod_lt_of_pos which.n (show (0:Int) < (zaC y.t).length by omega)
 have htm:=zmi hv (which:=which.n) hw0.1
 unfold zjE
 unfold zjt at htm ⊢
 obtain ⟨k,ek⟩:=czu e1
 rw [ek] at e2 htm ⊢
 rw [czF] at htm ⊢
 have hkl:k < (zaC y.t).length:=by omega
 have hg:=zat (f:=EncE.cs) hkl
 have hth:=zfy hv htm
 obtain ⟨T,hT⟩:∃ T,at_ (zaC y.t) k = T:=⟨_,rfl⟩
 rw [hT] at hg hth ⊢
 simp only [zaa,enc_uk]
 simp only [zbY]
 refine cpz ztb Tryz.func53 zaF ?_
 rw [Tryz.ntmps53]
 simp only [Tryz.f53,zah,zaq]
 simp (maxSteps:=4000000) only [go_sem,zae,zac,zad,zap,zas,zab,czb,cza,↓reduceIte,zaa,zao,onz,zaE,ek,hg]
 all_goals (repeat' first | (with_reducible first | rfl | apply And.intro | assumption) | ((with_reducible show zaf _ _ = true); rfl)) <;> try first | omega | (simp only [InR]; omega)
 refine zbA (zjc y ws) [.cell 2 8 2] [2,3,6,7,9,10] (fun i => [(11,.int .i64 i)]) (fun i m => (m.set 2 (.cells [.int .i64 y.t.last,.sl (y.t.heights.map EncE.cs) .no,.int .i64 y.t.step,.sl (y.t.levels.map EncE.cs) .no,.sl (y.t.marks.map EncE.cs) .no,.int .i64 y.hands,.sl (y.chairs.map EncE.cs) .no,.sl (y.order.map EncE.cs) .no,.sl ((ze7 y T ws i).map EncE.cs) (.own 3)])).set 3 (.tok (ze7 y T ws i).length 2)) (fun _ => True) ?_ ?_ ?_ ?_
 ·trivial
 ·simp [AV.bare,zal,zaP,zaS,zak,zau,zag,tokz1,lk,zab,za4,ze7,zaE,-List.map_map]
 ·intro i hi _
  have hcp:=mc (by omega)
  have hmw:zjc y ws = (zd4 ws 7 % 6).toNat:=by unfold zjc; rw [if_neg (by omega)]
  have hi6:decide ((i:Int) < zd4 ws 7 % 6) = true:=by simp; omega
  have hcp':decide ((0:Int) < y.chairs.length) = true:=by simp; omega
  have hb:=zj3 hws ((i:Int) + 8)
  have hh:=zue hv hws hcp i
  have hlo:zd4 ws ((i:Int) + 8) % (y.chairs.length:Int) = (zhT y ws i).lo:=rfl
  have hhi:zd4 ws ((i:Int) + 8) / 8 % (y.t.last + 1) = (zhT y ws i).hi:=rfl
  have hsl:=zje y T ws i
  have hss:ze7 y T ws (i + 1) = if zfO y y.order T (zhT y ws i).lo (zhT y ws i).hi.toNat then ze7 y T ws i ++ [zhT y ws i] else ze7 y T ws i:=rfl
  obtain ⟨A,hA⟩:∃ A,zhT y ws i = A:=⟨_,rfl⟩
  rw [hA] at hh hlo hhi hss
  obtain ⟨w,hwd⟩:∃ w,zd4 ws ((i:Int) + 8) = w:=⟨_,rfl⟩
  rw [hwd] at hb hlo hhi
  obtain ⟨Hs,hHs⟩:∃ Hs,ze7 y T ws i = Hs:=⟨_,rfl⟩
  rw [hHs] at hsl hss
  rw [hHs]
  have hl0:=hv.l0
  have hhr:=hv.hrs
  have hpre:=rpre hv ho hth hh.1.1 hh.1.2
  have hkl:A.hi < T.length:=by omega
  cases d:zfO y y.order T A.lo A.hi.toNat
  all_goals
   rw [d] at hss
   simp only [czp,if_false,if_true] at hss
   simp (maxSteps:=4000000) only [go_sem,zae,zac,zad,zap,zas,zab,czb,cza,↓reduceIte,zaa,zao,onz,zaE,gt_iff_lt,hws,hi6,hcp',hwd,hlo,hhi,hpre,hkl,d,decide_true,decide_false]
   all_goals (repeat' first | (with_reducible first | rfl | apply And.intro | assumption) | ((with_reducible show zaf _ _ = true); rfl)) <;> try first | omega | (simp only [InR]; omega)
   refine nxt hi trivial ?_
   simp [AV.bare,zal,zaP,zaS,zak,zau,zag,tokz1,lk,zab,za4,hHs,hss,zaE,-List.map_map]
 ·intro _
  by_cases hcp:y.chairs.length = 0
  ·have hmw:zjc y ws = 0:=by unfold zjc; rw [if_pos hcp]
   rw [hmw]
   have hcp':decide ((0:Int) < y.chairs.length) = false:=decide_eq_false (by omega)
   cases d:decide (((0:Nat):Int) < zd4 ws 7 % 6)
   all_goals
    simp (maxSteps:=4000000) only [go_sem,zae,zac,zad,zap,zas,zab,czb,cza,↓reduceIte,zaa,zao,onz,zaE,gt_iff_lt,hws,d,hcp',decide_true,decide_false]
    all_goals (repeat' first | (with_reducible first | rfl | apply And.intro | assumption) | ((with_reducible show zaf _ _ = true); rfl)) <;> try first | omega | (simp only [InR]; omega)
  ·have hmw:zjc y ws = (zd4 ws 7 % 6).toNat:=by unfold zjc; rw [if_neg hcp]
   have hi6:decide (((zjc y ws:Nat):Int) < zd4 ws 7 % 6) = false:=by
    have:=Int.emod_nonneg (zd4 ws 7) (show (6:Int) ≠ 0 by omega)
    refine decide_eq_false ?_
    rw [hmw]
    omega
   simp (maxSteps:=4000000) only [go_sem,zae,zac,zad,zap,zas,zab,czb,cza,↓reduceIte,zaa,zao,onz,zaE,gt_iff_lt,hws,hi6,decide_true,decide_false]
   all_goals exact auz
def P156 (g:FuncId):=(zax 54 (zbL (fun (y:Yd) (ws:List (Uk .u8)) => zxa ws ∧ y.chairs.length ≤ 4096) ordW) (zax 53 (zeB (fun (y:Yd) (which:Uk .u16) (ws:List (Uk .u8)) => (VY y ∧ InR .u16 which.n) ∧ zxa ws) (fun y which ws => (zjE y which.n ws,zjt y which.n))) (P155)):zaN) g
theorem P156_ok:zaD Tryz.prog P156:=zaj (zaR ztl) (zaj (zcc zxn) (ztb))
theorem zp6 (d:Option Nat):zaK P156 d = none:=(zai (by decide) d).trans ((zai (by decide) d).trans (zp7 d))
attribute [go_sem] P156 zp6
def P256:zaN:=vecT [1000010] P156
theorem P256_app (g:FuncId) (h:¬ (g = 4000000000)):P256 g = P156 g:=by unfold P256 vecT; rw [if_neg h]
theorem P256_ok:zaD Tryz.prog P256:=vecT_ok P156_ok
theorem P256_flag (d:Nat):zaK P256 (some d) = if d ∈ ([1000010]:List Nat) then some d else none:=zlj _ _ d
attribute [go_sem] P256_app P256_flag
theorem zsi {y:Yd} {K:List Sea} {S:Nat} {RR:List (List AV)} (hw:zxx ⟨y,K⟩) (hvb:∀ k st,zcd k (.vec (K.map EncE.cs ++ RR) 2 st)) {a:List Int × Int} {oc0:AV} {mn0:Int} {Ms0:List AObj}
  (hM0:Mm y K Ms0) (hO0:OrdC oc0 mn0 a) :
  zfs Tryz.prog 107 [.ptr (11 + K.length) 0,.ptr 0 0,.ptr 8 0,.ptr (10 + K.length) 0,.ptr 2 0,.ptr 1 0,.ptr (12 + K.length) 0] (bM y K S RR oc0 mn0 Ms0 (.sl [] .full) [] 0)
   (Add0 y K S RR (tryF y K y.chairs.length [] a)):=by
 cases e:y.chairs.length with
 | zero => exact zwc hw hvb hM0 e hO0
 | succ f => exact top_call hw hvb rfl hM0 e.symm hO0
theorem zxt (y:Yd) (h12:y.t.heights.length ≤ 4096 ∧ y.order.length ≤ 4096):zaU Tryz.prog 42 [Enc.enc y] (· = Enc.enc (zwN y)):=by
 unfold zwN
 have ha:FnFine.best.ask = true:=rfl
 simp only [zam,ydC]
 simp only [zbY]
 refine cpz P256_ok Tryz.func42 zaF ?_
 rw [Tryz.ntmps42]
 simp only [Tryz.f42,zah,zaq]
 refine zlU fun Q0 hQ0 => ?_
 refine zar fun Q1 h1 => ?_
 simp (maxSteps:=4000000) only [go_sem,zae,zac,zad,zap,zas,zab,czb,cza,↓reduceIte,zaV,zaz,zaA,zay,zaB,zav,zaw,zam,zaa,onz]
 all_goals (repeat' first | (with_reducible first | rfl | apply And.intro | assumption) | ((with_reducible show zaf _ _ = true); rfl)) <;> try first | omega | (simp only [InR]; omega)
 rw [h1]; clear h1 Q1; simp only [zaG,zan]
 refine zar fun Q1 h1 => ?_
 simp (maxSteps:=4000000) only [go_sem,zae,zac,zad,zap,zas,zab,czb,cza,↓reduceIte,zaV,zaz,zaA,zay,zaB,zav,zaw,zam,zaa,onz]
 refine ⟨_,askedb y h12 (zc6 ⟨zcf y _,by simp [AV.bare,zal,zaP,zaS,zak,zau,zag,tokz1,lk,zab,za4],by simp [AV.bare,zal,zaP,zaS,zak,zau,zag,tokz1,lk,zab,za4],trivial⟩),?_⟩
 rintro r m hR _
 rw [ha] at hR
 unfold znc at hR
 rw [zlI] at hR
 by_cases e:zfq y true = 0
 ·rw [if_pos e] at hR hQ0
  obtain ⟨rfl,rfl⟩:=hR
  obtain ⟨hv,ht,htr,_,hk⟩:=zko e
  have hc5:=hv.c5
  have hk2:=ztw hv
  have hts:(wkY y).ts = zeD y:=hk.symm
  rw [hts] at hQ0
  obtain ⟨K,hK⟩:∃ K,zeD y = K:=⟨_,rfl⟩
  have hW:wkY y = ⟨y,K⟩:=by rw [← hK,hk]; rfl
  rw [hW] at hk2
  unfold ziX yC
  rw [hK] at hQ0 ⊢
  simp (maxSteps:=4000000) only [go_sem,zae,zac,zad,zap,zas,zab,czb,cza,↓reduceIte,zaV,zaz,zaA,zay,zaB,zav,zaw,zam,zaa,onz]
  rw [h1]; clear h1 Q1
  simp only [zaG,zan]
  have hvb0:=fun k st => zj5 K ((zbd y).length - K.length) k st
  generalize hr:List.replicate ((zbd y).length - K.length) zqZ = RR at hvb0 ⊢
  generalize hs:(zbd y).length = S at ⊢
  iterate 2 (
   refine zar fun Q1 h1 => ?_
   simp (maxSteps:=4000000) only [go_sem,zae,zac,zad,zap,zas,zab,czb,cza,↓reduceIte,zaV,zaz,zaA,zay,zaB,zav,zaw,zam,zaa,onz,decide_true,decide_false]
   all_goals (repeat' first | (with_reducible first | rfl | apply And.intro | assumption) | ((with_reducible show zaf _ _ = true); rfl)) <;> try first | omega | (simp only [InR]; omega)
   rw [h1]; clear h1 Q1; simp only [zaG,zan])
  refine zar fun Q1 h1 => ?_
  simp (maxSteps:=4000000) only [go_sem,zae,zac,zad,zap,zas,zab,czb,cza,↓reduceIte,zaV,zaz,zaA,zay,zaB,zav,zaw,zam,zaa,onz,decide_true,decide_false]
  have hfr:=zmQ (mem:=[yC y,.cells [.sl [] .full],.cells [.int .i64 0],yC y,yC y,wC y 7 S K.length,.cells [.ptr 5 0],.vec (K.map EncE.cs ++ RR) 2 S,.cells [.ptr 5 0]]) (a:=5) (v:=7) y K S RR hk2.l1 rfl rfl
   (zc6 (k:=9) ⟨zcf y _,by simp [AV.bare,zal,zaP,zaS,zak,zau,zag,tokz1,lk,zab,za4],by simp [AV.bare,zal,zaP,zaS,zak,zau,zag,tokz1,lk,zab,za4],zcf y _,zcf y _,by simp [wC,AV.bare,zal,zaP,zaS,zak,zau,zag,tokz1,lk,zab,za4,-List.map_map],by simp [AV.bare,zal,zaP,zaS,zak,zau,zag,tokz1,lk,zab,za4],hvb0 _ _,by simp [AV.bare,zal,zaP,zaS,zak,zau,zag,tokz1,lk,zab,za4],trivial⟩)
  rw [show ([yC y,.cells [.sl [] .full],.cells [.int .i64 0],yC y,yC y,wC y 7 S K.length,.cells [.ptr 5 0],.vec (K.map EncE.cs ++ RR) 2 S,.cells [.ptr 5 0]]:List AObj).length = 9 from rfl] at hfr
  unfold yC wC at hfr
  refine ⟨_,hfr,?_⟩
  rintro r m ⟨rfl,rfl⟩ _
  obtain ⟨Ms,hMs⟩:∃ Ms,List.replicate K.length (AObj.map [] []) = Ms:=⟨_,rfl⟩
  have hMm:Mm y K Ms:=by
   rw [← hMs]
   exact ⟨by simp,fun i hi => ⟨[],[],zo0 _ _,by simp [zab,List.getD,hi]⟩⟩
  obtain ⟨M1,hM1⟩:∃ M1,bA y K S RR (.sl [] .full) 0 ++ Ms = M1:=⟨_,rfl⟩
  obtain ⟨M2,hM2⟩:∃ M2,bA y K S RR (.sl [] .full) ((y.chairs.length:Int) + 1) ++ Ms = M2:=⟨_,rfl⟩
  have hl1:M1.length = 10 + K.length:=by rw [← hM1,czc,ziW,hMm.len]
  have hl2:M2.length = 10 + K.length:=by rw [← hM2,czc,ziW,hMm.len]
  have hm1:[AObj.cells [.int .i64 y.t.last,.sl (y.t.heights.map EncE.cs) .no,.int .i64 y.t.step,.sl (y.t.levels.map EncE.cs) .no,.sl (y.t.marks.map EncE.cs) .no,.int .i64 y.hands,.sl (y.chairs.map EncE.cs) .no,.sl (y.order.map EncE.cs) .no,.sl (y.hires.map EncE.cs) .no],.cells [.sl [] .full],.cells [.int .i64 0],
    .cells [.int .i64 y.t.last,.sl (y.t.heights.map EncE.cs) .no,.int .i64 y.t.step,.sl (y.t.levels.map EncE.cs) .no,.sl (y.t.marks.map EncE.cs) .no,.int .i64 y.hands,.sl (y.chairs.map EncE.cs) .no,.sl (y.order.map EncE.cs) .no,.sl (y.hires.map EncE.cs) .no],
    .cells [.int .i64 y.t.last,.sl (y.t.heights.map EncE.cs) .no,.int .i64 y.t.step,.sl (y.t.levels.map EncE.cs) .no,.sl (y.t.marks.map EncE.cs) .no,.int .i64 y.hands,.sl (y.chairs.map EncE.cs) .no,.sl (y.order.map EncE.cs) .no,.sl (y.hires.map EncE.cs) .no],
    .cells [.int .i64 y.t.last,.sl (y.t.heights.map EncE.cs) .no,.int .i64 y.t.step,.sl (y.t.levels.map EncE.cs) .no,.sl (y.t.marks.map EncE.cs) .no,.int .i64 y.hands,.sl (y.chairs.map EncE.cs) .no,.sl (y.order.map EncE.cs) .no,.sl (y.hires.map EncE.cs) .no,.vec 7 S 0 K.length 2],
    .cells [.ptr 5 0],.vec (K.map EncE.cs ++ RR) 2 S,.cells [.ptr 5 0]] ++ AObj.cells ((List.range K.length).map fun i => .mp (9 + 1 + i)) :: List.replicate K.length (.map [] []) = M1:=by
   rw [hMs,← hM1]; rfl
  have g10:∀ r,zab (M1 ++ r) 0 = yC y:=fun r => by rw [← hM1]; rfl
  have s10:∀ r o,(M1 ++ r).set (10 + K.length) o = M1 ++ r.set 0 o:=fun r o => by rw [← hl1]; exact zb2 _ _ 0 _
  have s12:∀ r,(M1 ++ r).set 2 (.cells [.int .i64 ((y.chairs.length:Int) + 1)]) = M2 ++ r:=fun r => by rw [← hM1,← hM2]; rfl
  have g12:∀ r,zab (M1 ++ r) 2 = .cells [.int .i64 0]:=fun r => by rw [← hM1]; rfl
  have g20:∀ r,zab (M2 ++ r) 0 = yC y:=fun r => by rw [← hM2]; rfl
  have g2k:∀ r k,zab (M2 ++ r) (10 + K.length + k) = zab r k:=fun r k => by rw [← hl2]; exact zaQ _ _ k
  have s2k:∀ r k o,(M2 ++ r).set (10 + K.length + k) o = M2 ++ r.set k o:=fun r k o => by rw [← hl2]; exact zb2 _ _ k _
  have k10:∀ r:List AObj,(M1 ++ r).getD (10 + K.length) .dead = r.getD 0 .dead:=fun r => by rw [← hl1]; exact zaQ _ _ 0
  have k12:∀ r:List AObj,(M1 ++ r).getD 2 .dead = .cells [.int .i64 0]:=g12
  have k2k:∀ (r:List AObj) k,(M2 ++ r).getD (10 + K.length + k) .dead = r.getD k .dead:=fun r k => by rw [← hl2]; exact zaQ _ _ k
  have hfc:=zsi (S:=S) (RR:=RR) (a:=([],(y.chairs.length:Int) + 1)) hk2 hvb0 hMm (oc0:=.sl [] .full) (mn0:=(y.chairs.length:Int) + 1) ⟨rfl,.inr ⟨rfl,rfl⟩⟩
  have hbm:bM y K S RR (.sl [] .full) ((y.chairs.length:Int) + 1) Ms (.sl [] .full) [] 0 = M2 ++ [.cells [.arr 9 0 K.length 1],.cells [.sl [] .full],.cells [.fn (.func 107) [] [.ptr (10 + K.length + 1) 0,.ptr 0 0,.ptr 8 0,.ptr (10 + K.length) 0,.ptr 2 0,.ptr 1 0,.ptr (10 + K.length + 2) 0]]]:=by
   rw [← hM2,czd]
   unfold bM bT addF
   rw [show 11 + K.length = 10 + K.length + 1 by omega,show 12 + K.length = 10 + K.length + 2 by omega]
   rfl
  rw [hbm,show 11 + K.length = 10 + K.length + 1 by omega,show 12 + K.length = 10 + K.length + 2 by omega] at hfc
  rw [hm1]
  unfold yC at g10 g20
  simp (maxSteps:=4000000) only [go_sem,zae,zac,zad,zap,zas,czb,cza,↓reduceIte,zaV,zaz,zaA,zay,zaB,zav,zaw,zam,zaa,onz,g10,hl1,s10,k10,decide_true,decide_false,czc]
  rw [h1]; clear h1 Q1
  simp only [zaG,zan]
  refine zar fun Q1 h1 => ?_
  simp (maxSteps:=4000000) only [go_sem,zae,zac,zad,zap,zas,czb,cza,↓reduceIte,zaV,zaz,zaA,zay,zaB,zav,zaw,zam,zaa,onz,g10,g12,hl1,s12,k12,decide_true,decide_false,czc]
  refine ⟨(by simp only [InR]; omega),?_⟩
  rw [h1]; clear h1 Q1
  simp only [zaG,zan]
  simp (maxSteps:=4000000) only [go_sem,zae,zac,zad,zap,zas,czb,cza,↓reduceIte,zaV,zaz,zaA,zay,zaB,zav,zaw,zam,zaa,onz,g2k,s2k,k2k,hl2,decide_true,decide_false,czc,czd,czs,List.nil_append]
  refine ⟨_,hfc,?_⟩
  rintro r m ⟨rfl,oc,mn,Ms',nw,V,rfl,hM',hO'⟩ _
  have n1:=bM_A (y:=y) (K:=K) (S:=S) (RR:=RR) (Ms:=Ms') (i:=1) (by omega) oc mn nw V 0
  have n2:=bM_A (y:=y) (K:=K) (S:=S) (RR:=RR) (Ms:=Ms') (i:=2) (by omega) oc mn nw V 0
  have nl:=zhE (y:=y) (S:=S) (RR:=RR) hM'.len oc mn nw V 0
  rw [show zab (bA y K S RR oc mn) 1 = .cells [oc] from rfl] at n1
  rw [show zab (bA y K S RR oc mn) 2 = .cells [.int .i64 mn] from rfl] at n2
  obtain ⟨m,hm⟩:∃ m,bM y K S RR oc mn Ms' nw V 0 = m:=⟨_,rfl⟩
  rw [hm] at n1 n2 nl ⊢
  have hmn:=hO'.1
  generalize tryF y K y.chairs.length [] ([],(y.chairs.length:Int) + 1) = a at hO' hmn hQ0
  obtain ⟨al,am⟩:=a
  dsimp only at hmn
  subst hmn
  have n3:∀ o,zab (m.set 1 o) 2 = .cells [.int .i64 mn]:=fun o => by rw [zaH _ _ _ _ (by omega),if_neg (by decide)]; exact n2
  have n4:∀ o,zab (m.set 1 o) 1 = o:=fun o => zeq (by omega) o
  have n5:∀ o p,zab ((m.set 1 o).set 2 p) 1 = o:=fun o p => by rw [zaH _ _ _ _ (by rw [czt]; omega),if_neg (by decide)]; exact n4 o
  have n6:∀ o p,zab ((m.set 1 o).set 2 p) 2 = p:=fun o p => zeq (by rw [czt]; omega) p
  rcases hO'.2 with rfl | ⟨rfl,hal⟩
  ·refine ⟨21949123963738723012075312962025600931802499239048399859060604530595504787143150154351985502881171567205176961768353693698,by rfl,?_⟩
   simp (maxSteps:=4000000) only [go_sem,zae,zac,zad,zap,zas,czb,cza,↓reduceIte,zaV,zaz,zaA,zay,zaB,zav,zaw,zam,zaa,onz,(show Nat.testBit 21949123963738723012075312962025600931802499239048399859060604530595504787143150154351985502881171567205176961768353693698 399 = true from rfl),Bool.false_and,Bool.true_and,czp,(show Nat.testBit 21949123963738723012075312962025600931802499239048399859060604530595504787143150154351985502881171567205176961768353693698 400 = false from rfl),(show Nat.testBit 21949123963738723012075312962025600931802499239048399859060604530595504787143150154351985502881171567205176961768353693698 401 = false from rfl),(show Nat.testBit 21949123963738723012075312962025600931802499239048399859060604530595504787143150154351985502881171567205176961768353693698 402 = false from rfl),(show Nat.testBit 21949123963738723012075312962025600931802499239048399859060604530595504787143150154351985502881171567205176961768353693698 403 = true from rfl),(show Nat.testBit 21949123963738723012075312962025600931802499239048399859060604530595504787143150154351985502881171567205176961768353693698 404 = false from rfl),(show Nat.testBit 21949123963738723012075312962025600931802499239048399859060604530595504787143150154351985502881171567205176961768353693698 200 = false from rfl),zhh,zfk,hideO,zsu,vcFr,Go.Fs.freeR,effL,zwW,zlY,List.all_cons,List.all_nil,List.contains_cons,List.contains_nil,Nat.reduceBEq,Bool.or_self,(show Nat.testBit 21949123963738723012075312962025600931802499239048399859060604530595504787143150154351985502881171567205176961768353693698 0 = false from rfl),(show Nat.testBit 21949123963738723012075312962025600931802499239048399859060604530595504787143150154351985502881171567205176961768353693698 1 = true from rfl),(show Nat.testBit 21949123963738723012075312962025600931802499239048399859060604530595504787143150154351985502881171567205176961768353693698 2 = false from rfl),(show Nat.testBit 21949123963738723012075312962025600931802499239048399859060604530595504787143150154351985502881171567205176961768353693698 3 = false from rfl),(show Nat.testBit 21949123963738723012075312962025600931802499239048399859060604530595504787143150154351985502881171567205176961768353693698 4 = false from rfl),n1,n2,n3,n4,n5,n6,hQ0]
   rfl
  ·dsimp only at hal
   subst hal
   refine ⟨21949123963738723012075312962025600931802499239048399859060604530595504787143150154351985502881171567205176961768353693698,by rfl,?_⟩
   simp (maxSteps:=4000000) only [go_sem,zae,zac,zad,zap,zas,czb,cza,↓reduceIte,zaV,zaz,zaA,zay,zaB,zav,zaw,zam,zaa,onz,(show Nat.testBit 21949123963738723012075312962025600931802499239048399859060604530595504787143150154351985502881171567205176961768353693698 399 = true from rfl),Bool.false_and,Bool.true_and,czp,(show Nat.testBit 21949123963738723012075312962025600931802499239048399859060604530595504787143150154351985502881171567205176961768353693698 400 = false from rfl),(show Nat.testBit 21949123963738723012075312962025600931802499239048399859060604530595504787143150154351985502881171567205176961768353693698 401 = false from rfl),(show Nat.testBit 21949123963738723012075312962025600931802499239048399859060604530595504787143150154351985502881171567205176961768353693698 402 = false from rfl),(show Nat.testBit 21949123963738723012075312962025600931802499239048399859060604530595504787143150154351985502881171567205176961768353693698 403 = true from rfl),(show Nat.testBit 21949123963738723012075312962025600931802499239048399859060604530595504787143150154351985502881171567205176961768353693698 404 = false from rfl),(show Nat.testBit 21949123963738723012075312962025600931802499239048399859060604530595504787143150154351985502881171567205176961768353693698 200 = false from rfl),zhh,zfk,hideO,zsu,vcFr,Go.Fs.freeR,effL,zwW,zlY,List.all_cons,List.all_nil,List.contains_cons,List.contains_nil,Nat.reduceBEq,Bool.or_self,(show Nat.testBit 21949123963738723012075312962025600931802499239048399859060604530595504787143150154351985502881171567205176961768353693698 0 = false from rfl),(show Nat.testBit 21949123963738723012075312962025600931802499239048399859060604530595504787143150154351985502881171567205176961768353693698 1 = true from rfl),(show Nat.testBit 21949123963738723012075312962025600931802499239048399859060604530595504787143150154351985502881171567205176961768353693698 2 = false from rfl),(show Nat.testBit 21949123963738723012075312962025600931802499239048399859060604530595504787143150154351985502881171567205176961768353693698 3 = false from rfl),(show Nat.testBit 21949123963738723012075312962025600931802499239048399859060604530595504787143150154351985502881171567205176961768353693698 4 = false from rfl),n1,n2,n3,n4,n5,n6,hQ0]
   rfl
 ·rw [if_neg e] at hR hQ0
  obtain ⟨rfl,rfl⟩:=hR
  simp (maxSteps:=4000000) only [go_sem,zae,zac,zad,zap,zas,zab,czb,cza,↓reduceIte,zaV,zaz,zaA,zay,zaB,zav,zaw,zam,zaa,onz]
  rw [h1]; clear h1 Q1
  simp only [zaG,zan]
  simp (maxSteps:=4000000) only [go_sem,zae,zac,zad,zap,zas,zab,czb,cza,↓reduceIte,zaV,zaz,zaA,zay,zaB,zav,zaw,zam,zaa,onz,e,hQ0,decide_true,decide_false]
  all_goals exact auz
def P157 (g:FuncId):=(zax 42 (zcU (fun y:Yd => y.t.heights.length ≤ 4096 ∧ y.order.length ≤ 4096) zwN) (P156):zaN) g
theorem zta:zaD Tryz.prog P157:=zaj (zbm zxt) (P156_ok)
theorem zlM (d:Option Nat):zaK P157 d = none:=(zai (by decide) d).trans (zp6 d)
attribute [go_sem] P157 zlM
theorem zdf {y:Yd} (hv:VY y) {hs:List Int} (h:za3 y.t hs = true):hs.length = hrs y:=by
 have h1:=zbI h
 have h2:=hv.fok.len
 have h3:=hv.hrs.1
 omega
theorem ztU {y:Yd} (hv:VY y) (hs:List Int):zik y hs = zkh y hs:=by
 unfold zik zkh
 rw [hv.fault,decide_eq_true rfl,Bool.true_and,ztT hv.f]
 cases c:zbE y.t hs
 ·rfl
 ·have hli:za3 y.t hs = true:=by unfold zbE at c; simp only [czl] at c; exact c.1
  rw [zmv hv (zdf hv hli)]
def zd9 (y:Yd) (o hs:List Int):List Sy:=(List.range y.chairs.length).map fun c:Nat => zbG y o hs c
theorem zcN (y:Yd) (o hs:List Int):(zd9 y o hs).length = y.chairs.length:=by simp [zd9]
theorem zeu {y:Yd} (o hs:List Int) {i:Nat} (h:i < y.chairs.length):at_ (zd9 y o hs) i = zbG y o hs i:=zhu _ h
theorem playL_eq {y:Yd} (hv:VY y) {hs:List Int} (hl:hs.length = hrs y) (o:List Int):zin y (zbP y.t hs) o = zd9 y o hs:=by
 unfold zin zd9
 apply List.map_congr_left
 intro c hc
 have hc':c < y.chairs.length:=by simpa using hc
 exact zgx hv hl (by omega) (by omega)
theorem zgJ {y:Yd} (hv:VY y) {o hs:List Int} (h1:za3 y.t hs = true) (h2:za2 y.chairs.length o = true):zkR y o hs = (zd9 y o hs,0):=by
 unfold zkR
 rw [if_pos hv.fault,h1,h2,Bool.and_self,if_pos rfl,playL_eq hv (zdf hv h1)]
theorem ask_bad {y:Yd} (h:zbB y ≠ 0) (a:Bool):zfq y a = zbB y:=by unfold zfq; rw [if_pos h]
theorem ask_ok {y:Yd} (hv:VY y) (h:zaJ y ≠ []):zfq y true = 0:=by unfold zfq; rw [if_neg (by simp [hv.fault]),if_neg (by simp),if_neg h]
def zmh (y:Yd) (o:List Int):List Int:=(at_ (wkY y).ts (zcm y (wkY y).ts o (wkY y).ts.length).2.toNat).hs
theorem worst_mem {y:Yd} (hv:VY y) (h:zaJ y ≠ []) (o:List Int):zmh y o ∈ zaJ y:=(zk5 hv h o).1
theorem zvl {y:Yd} (hv:VY y) (h:zaJ y ≠ []) (o:List Int):zb7 y o (zmh y o) = zgQ y (zaJ y) o:=(zk5 hv h o).2
theorem zrW {y:Yd} (hv:VY y) (h:zaJ y ≠ []) {o:List Int} (ho:za2 y.chairs.length o = true):zk4 y o = ⟨zgQ y (zaJ y) o,zmh y o,0⟩:=by
 unfold zk4
 rw [ho,ask_ok hv h,if_pos rfl,zmH hv h]
 rfl
theorem zkj {y:Yd} (hv:VY y) (h:zaJ y ≠ []) {o:List Int} {c:Int} (ho:zxw y o c = true) (h0:0 ≤ c) (h1:c < y.chairs.length):zhA y o c = (zeG y (zaJ y) o c,0):=by
 unfold zhA
 rw [ho,ask_ok hv h,if_pos rfl,zgS hv h o h0 h1]
theorem hours_err {y:Yd} {o:List Int} {c e:Int} (h:zfq y (zxw y o c) = e) (h0:e ≠ 0):zhA y o c = (⟨0,0⟩,e):=by
 unfold zhA
 rw [h,if_neg h0]
theorem zle {y:Yd} (hv:VY y) (h:zaJ y ≠ []) {o:List Int} {c k:Int} (ho:zjl y o c k = true) (h0:0 ≤ c) (h1:c < y.chairs.length) (k0:0 ≤ k) (k1:k ≤ y.t.last):freeR y o c k = (zdR y (zaJ y) o c k,0):=by
 unfold freeR
 rw [ho,ask_ok hv h,if_pos rfl,free8_eq hv h o h0 h1 k0 k1]
theorem ziI {y:Yd} (hv:VY y):zf0 y = (zhz (allY y) (2 ^ y.hires.length - 1) (2 ^ y.hires.length),0):=by unfold zf0; rw [if_pos hv.fault]
theorem zpu {y:Yd} (hv:VY y):zeE y = zhV y y.hires.length 0:=by unfold zeE; rw [if_pos hv.fault,zmT hv]
def zvR (y:Yd) (n:Nat):Bool:=(zaC y.t).any fun p => (List.range n).all fun k => zcx y p k
theorem some_pre {y:Yd} {n:Nat} (h:n ≤ y.hires.length):zvx y n [] = zvR y n:=by
 unfold zvx zvR
 rw [Nat.min_eq_left h]
 simp
theorem zkd {y:Yd} {n:Nat}:zvR y n = true ↔ ∃ p ∈ zaC y.t,∀ k,k < n → zcx y p k = true:=by
 unfold zvR
 simp [List.any_eq_true,czG]
theorem ztW {y:Yd}:zvR y y.hires.length = true ↔ zaJ y ≠ []:=by
 rw [zkd]
 constructor
 ·rintro ⟨p,hp,h⟩ e
  have:p ∈ zaJ y:=zb3.2 ⟨hp,by unfold zcG; rw [czG]; exact fun k hk => h k (by simpa using hk)⟩
  rw [e] at this; cases this
 ·intro h
  obtain ⟨p,hp⟩:=List.exists_mem_of_ne_nil _ h
  obtain ⟨h1,h2⟩:=zb3.1 hp
  refine ⟨p,h1,fun k hk => ?_⟩
  unfold zcG at h2
  rw [czG] at h2
  exact h2 k (by simpa using hk)
theorem zgT {y:Yd}:∀ f n,f + n = y.hires.length → (zhV y f n = (0,7) ∧ ∀ k,n ≤ k → k < y.hires.length → zvR y (k + 1) = true) ∨
  ∃ m:Nat,n ≤ m ∧ m < y.hires.length ∧ zhV y f n = ((m:Int),0) ∧ zvR y (m + 1) = false ∧ ∀ k,n ≤ k → k < m → zvR y (k + 1) = true
 | 0,n,h => .inl ⟨rfl,fun k h1 h2 => by omega⟩
 | f + 1,n,h => by
  unfold zhV
  rw [some_pre (by omega)]
  cases c:zvR y (n + 1)
  ·exact .inr ⟨n,czf _,by omega,by simp,c,fun k h1 h2 => by omega⟩
  ·simp only [if_true]
   rcases zgT (y:=y) f (n + 1) (by omega) with ⟨h1,h2⟩ | ⟨m,h1,h2,h3,h4,h5⟩
   ·refine .inl ⟨h1,fun k k1 k2 => ?_⟩
    by_cases e:k = n
    ·subst e; exact c
    ·exact h2 k (by omega) k2
   ·refine .inr ⟨m,by omega,h2,h3,h4,fun k k1 k2 => ?_⟩
    by_cases e:k = n
    ·subst e; exact c
    ·exact h5 k (by omega) k2
theorem pre_mono {y:Yd} {n m:Nat} (h:n ≤ m) (hp:zvR y m = true):zvR y n = true:=by
 rw [zkd] at hp ⊢
 obtain ⟨p,h1,h2⟩:=hp
 exact ⟨p,h1,fun k hk => h2 k (by omega)⟩
theorem zlk {y:Yd} (hv:VY y) (h:zaJ y ≠ []):zeE y = (0,7):=by
 rw [zpu hv]
 rcases zgT (y:=y) y.hires.length 0 (by omega) with ⟨h1,_⟩ | ⟨m,h1,h2,h3,h4,h5⟩
 ·exact h1
 ·rw [pre_mono (m:=y.hires.length) (by omega) (ztW.2 h)] at h4
  cases h4
end Go.Proofs
