/- The law TopSoaked. -/
import Derived.Test.YtilbconikmpadaaGreatG23
import Derived.Test.YtilbconikmpadaaGreatCH58
set_option linter.all false
namespace Go.Proofs
open Go.Fs
set_option maxHeartbeats 4000000
set_option maxRecDepth 8000
theorem zq6 (v:Int):zaU Tryz.prog 72 [Enc.enc v] (· = Enc.enc (turnN v)):=by
 unfold turnN
 by_cases h1:v = 1
 ·simp only [zbY]
  refine cpz zdt Tryz.func72 zaF ?_
  rw [Tryz.ntmps72]
  simp only [Tryz.f72,zah,zaq]
  simp (maxSteps:=4000000) only [go_sem,AV.one,zae,zac,zad,zap,zas,zab,czb,cza,↓reduceIte,zam,zaa,zao,onz,zaE,h1]
 ·by_cases h2:v = 2
  ·simp only [zbY]
   refine cpz zdt Tryz.func72 zaF ?_
   rw [Tryz.ntmps72]
   simp only [Tryz.f72,zah,zaq]
   simp (maxSteps:=4000000) only [go_sem,AV.one,zae,zac,zad,zap,zas,zab,czb,cza,↓reduceIte,zam,zaa,zao,onz,zaE,h2]
  ·simp only [zbY]
   refine cpz zdt Tryz.func72 zaF ?_
   rw [Tryz.ntmps72]
   simp only [Tryz.f72,zah,zaq]
   simp (maxSteps:=4000000) only [go_sem,AV.one,zae,zac,zad,zap,zas,zab,czb,cza,↓reduceIte,zam,zaa,zao,onz,zaE,h1,h2]
def tinyT:Tb:=⟨0,[⟨6,6⟩],0,[5],[]⟩
theorem tiny_wet:wetQ tinyT 0 0 = (1,0):=by decide +kernel
theorem tiny_free:freeR (zbM tinyT 0) [] 0 0 = (2,0):=by decide +kernel
theorem zri:zaU Tryz.prog 68 [] (· = Enc.enc true):=by
 have k1:=tiny_wet
 have k2:=tiny_free
 unfold zbM at k2
 have ht:(⟨0,[⟨6,6⟩],0,[5],[]⟩:Tb) = tinyT:=rfl
 have hl:tinyT.heights.length = 1 ∧ tinyT.levels.length = 1:=⟨rfl,rfl⟩
 obtain ⟨T,hT⟩:∃ T,tinyT = T:=⟨_,rfl⟩
 rw [hT] at k1 k2 ht hl
 obtain ⟨hl1,hl2⟩:=hl
 simp only [zbY]
 refine cpz zdt Tryz.func68 zaF ?_
 rw [Tryz.ntmps68]
 simp only [Tryz.f68,zah,zaq]
 iterate 2 (
  refine zar fun Q1 h1 => ?_
  simp (maxSteps:=4000000) only [go_sem,AV.one,zae,zac,zad,zap,zas,zab,czb,cza,↓reduceIte,zam,zaa,zao,onz,zaE,ht,k1,k2]
  all_goals (repeat' first | (with_reducible first | rfl | apply And.intro | assumption) | ((with_reducible show zaf _ _ = true); rfl)) <;> try first | omega | (simp only [InR]; omega)
  rw [h1]; clear h1 Q1; simp only [zaG,zan])
 simp (maxSteps:=4000000) only [go_sem,AV.one,zae,zac,zad,zap,zas,zab,czb,cza,↓reduceIte,zam,zaa,zao,onz,zaE,ht,k1,k2,decide_true,decide_false]
 all_goals exact auz
def P160 (g:FuncId):=(zax 72 (zcU (fun _:Int => True) turnN) (zax 68 (zre true) (P158)):zaN) g
theorem zhX:zaD Tryz.prog P160:=zaj (zbm fun v _ => zq6 v) (zaj (zj6 zri) (zdt))
theorem P160_flag (d:Option Nat):zaK P160 d = none:=(zai (by decide) d).trans ((zai (by decide) d).trans (zp5 d))
attribute [go_sem] P160 P160_flag
theorem zmc (t:Tb) (u row:Int) (hu:InR .u16 u) (hrow:InR .u8 row):zaU Tryz.prog 18 [Enc.enc t,AV.int .u16 u,AV.int .u8 row] (· = Enc.enc true):=by
 cases c1:zop t
 ·simp only [zbY]
  refine cpz zhX Tryz.func18 zaF ?_
  rw [Tryz.ntmps18]
  simp only [Tryz.f18,zah,zaq]
  iterate 2 (
   refine zar fun Q1 h1 => ?_
   simp (maxSteps:=4000000) only [go_sem,AV.one,zae,zac,zad,zap,zas,zab,czb,cza,↓reduceIte,zam,zaa,zao,onz,zaE,c1]
   all_goals (repeat' first | (with_reducible first | rfl | apply And.intro | assumption) | ((with_reducible show zaf _ _ = true); rfl)) <;> try first | omega | (simp only [InR]; omega)
   rw [h1]; clear h1 Q1; simp only [zaG,zan])
  simp (maxSteps:=4000000) only [go_sem,AV.one,zae,zac,zad,zap,zas,zab,czb,cza,↓reduceIte,zam,zaa,zao,onz,zaE]
  all_goals exact auz
 have hthin:=zng c1
 cases c2:decide (zbl t = 0)
 ·simp only [zbY]
  refine cpz zhX Tryz.func18 zaF ?_
  rw [Tryz.ntmps18]
  simp only [Tryz.f18,zah,zaq]
  iterate 2 (
   refine zar fun Q1 h1 => ?_
   simp (maxSteps:=4000000) only [go_sem,AV.one,zae,zac,zad,zap,zas,zab,czb,cza,↓reduceIte,zam,zaa,zao,onz,zaE,c1,c2]
   all_goals (repeat' first | (with_reducible first | rfl | apply And.intro | assumption) | ((with_reducible show zaf _ _ = true); rfl)) <;> try first | omega | (simp only [InR]; omega)
   rw [h1]; clear h1 Q1; simp only [zaG,zan])
  simp (maxSteps:=4000000) only [go_sem,AV.one,zae,zac,zad,zap,zas,zab,czb,cza,↓reduceIte,zam,zaa,zao,onz,zaE]
  all_goals exact auz
 have hf:zbl t = 0:=by simpa using c2
 have hfo:=fok_of hf
 have hvo:=hfo.vok
 have hok:=hvo.hok
 have hmok:=hvo.mok
 cases c3:decide ((t.levels.length:Int) = 0)
 case true =>
  simp only [zbY]
  refine cpz zhX Tryz.func18 zaF ?_
  rw [Tryz.ntmps18]
  simp only [Tryz.f18,zah,zaq]
  iterate 2 (
   refine zar fun Q1 h1 => ?_
   simp (maxSteps:=4000000) only [go_sem,AV.one,zae,zac,zad,zap,zas,zab,czb,cza,↓reduceIte,zam,zaa,zao,onz,zaE,c1,c2,c3]
   all_goals (repeat' first | (with_reducible first | rfl | apply And.intro | assumption) | ((with_reducible show zaf _ _ = true); rfl)) <;> try first | omega | (simp only [InR]; omega)
   rw [h1]; clear h1 Q1; simp only [zaG,zan])
  simp (maxSteps:=4000000) only [go_sem,AV.one,zae,zac,zad,zap,zas,zab,czb,cza,↓reduceIte,zam,zaa,zao,onz,zaE]
  all_goals exact auz
 cases c4:decide (7 < t.last)
 case true =>
  simp only [zbY]
  refine cpz zhX Tryz.func18 zaF ?_
  rw [Tryz.ntmps18]
  simp only [Tryz.f18,zah,zaq]
  iterate 2 (
   refine zar fun Q1 h1 => ?_
   simp (maxSteps:=4000000) only [go_sem,AV.one,zae,zac,zad,zap,zas,zab,czb,cza,↓reduceIte,zam,zaa,zao,onz,zaE,c1,c2,c3,gt_iff_lt,c4]
   all_goals (repeat' first | (with_reducible first | rfl | apply And.intro | assumption) | ((with_reducible show zaf _ _ = true); rfl)) <;> try first | omega | (simp only [InR]; omega)
   rw [h1]; clear h1 Q1; simp only [zaG,zan])
  simp (maxSteps:=4000000) only [go_sem,AV.one,zae,zac,zad,zap,zas,zab,czb,cza,↓reduceIte,zam,zaa,zao,onz,zaE]
  all_goals exact auz
 cases c5:decide (60 < zde t.heights)
 case true =>
  simp only [zbY]
  refine cpz zhX Tryz.func18 zaF ?_
  rw [Tryz.ntmps18]
  simp only [Tryz.f18,zah,zaq]
  iterate 2 (
   refine zar fun Q1 h1 => ?_
   simp (maxSteps:=4000000) only [go_sem,AV.one,zae,zac,zad,zap,zas,zab,czb,cza,↓reduceIte,zam,zaa,zao,onz,zaE,c1,c2,c3,gt_iff_lt,c4,hok,c5]
   all_goals (repeat' first | (with_reducible first | rfl | apply And.intro | assumption) | ((with_reducible show zaf _ _ = true); rfl)) <;> try first | omega | (simp only [InR]; omega)
   rw [h1]; clear h1 Q1; simp only [zaG,zan])
  simp (maxSteps:=4000000) only [go_sem,AV.one,zae,zac,zad,zap,zas,zab,czb,cza,↓reduceIte,zam,zaa,zao,onz,zaE]
  all_goals exact auz
 have c3':=c3
 have c4':=c4
 rw [decide_eq_false_iff_not] at c3' c4'
 have h7:t.last ≤ 7:=by omega
 have hlv6:=hfo.lv
 have hl0:=hfo.l0
 have hlen:=hfo.len
 have hrow':0 ≤ row ∧ row ≤ 255:=hrow
 have hu':0 ≤ u ∧ u ≤ 65535:=hu
 have q1:=Int.emod_nonneg row (show (t.levels.length:Int) ≠ 0 by omega)
 have q2:=Int.emod_lt_of_pos row (show (0:Int) < t.levels.length by omega)
 obtain ⟨k,ek⟩:=czu q1
 rw [ek] at q2
 have hkl:k < t.levels.length:=by omega
 have hY:(⟨⟨t.last,t.heights,t.step,t.levels,t.marks⟩,0,[⟨(k:Int),0,9⟩],[],[]⟩:Yd) = zbM t k:=rfl
 have hm5:=hfo.m5
 by_cases hz:zaC t = []
 ·have e0:=soak_bad hf hz k
  have e1:zhA (zbM t k) [] 0 = (⟨0,0⟩,11):=hours_err (by rw [ask_bad (by rw [e0]; decide),e0]) (by decide)
  have y1:(zbM t k).t.heights.length ≤ 4096:=by show t.heights.length ≤ 4096; omega
  have y2:(zbM t k).order.length ≤ 4096:=by show ([]:List Int).length ≤ 4096; simp
  obtain ⟨Y,hY2⟩:∃ Y,zbM t k = Y:=⟨_,rfl⟩
  rw [hY2] at hY e1 y1 y2
  simp only [zbY]
  refine cpz zhX Tryz.func18 zaF ?_
  rw [Tryz.ntmps18]
  simp only [Tryz.f18,zah,zaq]
  iterate 2 (
   refine zar fun Q1 h1 => ?_
   simp (maxSteps:=4000000) only [go_sem,AV.one,zae,zac,zad,zap,zas,zab,czb,cza,↓reduceIte,zam,zaa,zao,onz,zaE,c1,c2,c3,gt_iff_lt,c4,hok,c5]
   all_goals (repeat' first | (with_reducible first | rfl | apply And.intro | assumption) | ((with_reducible show zaf _ _ = true); rfl)) <;> try first | omega | (simp only [InR]; omega)
   rw [h1]; clear h1 Q1; simp only [zaG,zan])
  iterate 2 (
   refine zar fun Q1 h1 => ?_
   simp (maxSteps:=4000000) only [go_sem,AV.one,zae,zac,zad,zap,zas,zab,czb,cza,↓reduceIte,zam,zaa,zao,onz,zaE,ek]
   all_goals (repeat' first | (with_reducible first | rfl | apply And.intro | assumption) | ((with_reducible show zaf _ _ = true); rfl)) <;> try first | omega | (simp only [InR]; omega)
   rw [h1]; clear h1 Q1; simp only [zaG,zan])
  refine zar fun Q1 h1 => ?_
  simp (maxSteps:=4000000) only [go_sem,AV.one,zae,zac,zad,zap,zas,zab,czb,cza,↓reduceIte,zam,zaa,zao,onz,zaE]
  all_goals (repeat' first | (with_reducible first | rfl | apply And.intro | assumption) | ((with_reducible show zaf _ _ = true); rfl)) <;> try first | omega | (simp only [InR]; omega)
  rw [h1]; clear h1 Q1; simp only [zaG,zan]
  refine zar fun Q1 h1 => ?_
  simp (maxSteps:=4000000) only [go_sem,AV.one,zae,zac,zad,zap,zas,zab,czb,cza,↓reduceIte,zam,zaa,zao,onz,zaE,hok,hmok,hz]
  all_goals (repeat' first | (with_reducible first | rfl | apply And.intro | assumption) | ((with_reducible show zaf _ _ = true); rfl)) <;> try first | omega | (simp only [InR]; omega)
  rw [h1]; clear h1 Q1; simp only [zaG,zan]
  refine zar fun Q1 h1 => ?_
  simp (maxSteps:=4000000) only [go_sem,AV.one,zae,zac,zad,zap,zas,zab,czb,cza,↓reduceIte,zam,zaa,zao,onz,zaE,hY,e1]
  all_goals (repeat' first | (with_reducible first | rfl | apply And.intro | assumption) | ((with_reducible show zaf _ _ = true); rfl)) <;> try first | omega | (simp only [InR]; omega)
  rw [h1]; clear h1 Q1; simp only [zaG,zan]
  refine zar fun Q1 h1 => ?_
  simp (maxSteps:=4000000) only [go_sem,AV.one,zae,zac,zad,zap,zas,zab,czb,cza,↓reduceIte,zam,zaa,zao,onz,zaE,List.map_nil,czy,Int.natCast_zero,decide_true]
  all_goals (repeat' first | (with_reducible first | rfl | apply And.intro | assumption) | ((with_reducible show zaf _ _ = true); rfl)) <;> try first | omega | (simp only [InR]; omega)
  rw [h1]; clear h1 Q1; simp only [zaG,zan]
  simp (maxSteps:=4000000) only [go_sem,AV.one,zae,zac,zad,zap,zas,zab,czb,cza,↓reduceIte,zam,zaa,zao,onz,zaE,decide_true,decide_false]
  all_goals exact auz
 have hv:=soak_ok hf hz (k:=(k:Int)) (by omega) (by omega)
 have htr:=zhI t k
 have hty:zaJ (zbM t k) ≠ []:=by rw [htr]; exact hz
 have hpos:=List.length_pos_iff.2 hz
 have w1:=Int.emod_nonneg u (show ((zaC t).length:Int) ≠ 0 by omega)
 have w2:=Int.emod_lt_of_pos u (show (0:Int) < (zaC t).length by omega)
 obtain ⟨j,ej⟩:=czu w1
 rw [ej] at w2
 have hjl:j < (zaC t).length:=by omega
 have hg:=zat (f:=EncE.cs) hjl
 have hS:=zbb hjl
 obtain ⟨S,hSe⟩:∃ S,at_ (zaC t) j = S:=⟨_,rfl⟩
 rw [hSe] at hg hS
 have hSl:za3 t S = true:=zfx hv hS
 have hSn:S.length = hrs (zbM t k):=zdf hv hSl
 have hn:((hrs (zbM t k):Nat):Int) = t.last + 1:=by show (((t.last + 1).toNat:Nat):Int) = _; omega
 have hll:=zq7 hvo
 have e1:=zkj hv hty (o:=[]) (c:=0) rfl (by omega) (by show (0:Int) < 1; omega)
 have e2:zim t S = (t.levels.map (zd5 S),0):=by unfold zim; rw [if_pos hf,if_pos hSl]
 have e3:=zgJ hv hSl (o:=[]) (ziq _)
 have hin:inB (k:Int) 0 ((t.levels.length:Int) - 1) = true:=(zbn _ _ _).2 (by omega)
 have e4:rchQ t k = (zmy (zaC t) (at_ t.levels k),0):=by unfold rchQ; rw [hin,zlH hf hz,if_pos rfl,czF]
 have hR:=(zmx hvo hz (at_ t.levels k)).all _ ⟨S,hS,rfl⟩
 have e5:∀ h:Nat,(h:Int) ≤ t.last → wetQ t k h = (zdj (zaC t) (at_ t.levels k) h,0):=fun h hh => by
  unfold wetQ
  rw [hin,(zbn (h:Int) 0 t.last).2 (by omega),Bool.and_self,zlH hf hz,if_pos rfl,czF]
 have e6:∀ h:Nat,(h:Int) ≤ t.last → freeR (zbM t k) [] 0 h = (zdR (zbM t k) (zaC t) [] 0 h,0):=fun h hh => by
  have:=zle hv hty (o:=[]) (c:=0) (k:=(h:Int)) (by unfold zjl; rw [ziq,(zbn (h:Int) 0 (zbM t k).t.last).2 (by show 0 ≤ (h:Int) ∧ (h:Int) ≤ t.last; omega)]; rfl) (by omega) (by show (0:Int) < 1; omega) (by omega) hh
  rwa [htr] at this
 have e7:∀ h:Nat,(h:Int) ≤ t.last → zdR (zbM t k) (zaC t) [] 0 h = turnN (zdj (zaC t) (at_ t.levels k) h):=fun h hh => by
  have:=soak_turn (t:=t) (k:=(k:Int)) h7 hz (h:=h) (by omega)
  rwa [czF] at this
 obtain ⟨s1,s2⟩:=zkE (k:=(k:Int)) h7 hz hS
 have hfl:=zou (k:=(k:Int)) (p:=S) h7
 have hwl:=row_len (p:=S) (l:=at_ t.levels k)
 have hwe:=(sy_row (y:=zbM t k) (t:=S) hSn 0).1
 have hrt:(zbG (zbM t k) [] S 0).rot = ((hrs (zbM t k):Nat):Int):=by rw [zil,ztG h7]
 have hcn:=zul (zmt S (at_ t.levels k)) (hrs (zbM t k))
 have hhb:=zud hv hty [] (c:=0) (by omega) (by show (0:Int) < 1; omega) (p:=S) (by rw [htr]; exact hS)
 rw [htr] at hhb e1
 have hfs:=fstD_soon S (at_ t.levels k)
 have hlv0:lvY (zbM t k) 0 = at_ t.levels k:=by show at_ t.levels (k:Int).toNat = _; rw [czF]
 rw [hlv0] at hwe
 rw [czF] at hfl
 rw [hSn] at hwl
 rw [← hwl,← hfl] at hcn
 have hg1:((zd9 (zbM t k) [] S).map EncE.cs).getD 0 [] = EncE.cs (zbG (zbM t k) [] S 0):=by
  have h1:0 < (zbM t k).chairs.length:=Nat.zero_lt_one
  rw [zat (by rw [zcN]; exact h1),zeu [] S h1]
  rfl
 have hpl:(zd9 (zbM t k) [] S).length = 1:=zcN _ _ _
 have hgw:((t.levels.map (zd5 S)).map EncE.cs).getD k [] = EncE.cs (zd5 S (at_ t.levels k)):=by rw [zat (by simpa using hkl)]; show EncE.cs ((t.levels.map (zd5 S)).getD k []) = _; rw [at_mapL hkl]
 have hgl:=zat (f:=EncE.cs) hkl
 obtain ⟨r1,r2⟩:=zvy h7 hz hv
 have hdn:=fun i (h:i < hrs (zbM t k)) => (show cntD (fun h => decide (zdR (zbM t k) (zaC t) [] 0 (h:Int) = 1)) (hrs (zbM t k)) (i + 1) = _ from rfl)
 obtain ⟨vf,hvf⟩:∃ f:Nat → Int,∀ h:Nat,zdj (zaC t) (at_ t.levels k) (h:Int) = f h:=⟨_,fun _ => rfl⟩
 obtain ⟨uf,huf⟩:∃ f:Nat → Int,∀ h:Nat,zdR (zbM t k) (zaC t) [] 0 (h:Int) = f h:=⟨_,fun _ => rfl⟩
 clear hdn s1 s2
 simp only [huf] at r1 r2 e6 e7
 simp only [hvf] at e5 e7
 have y1:(zbM t k).t.heights.length ≤ 4096:=by show t.heights.length ≤ 4096; omega
 have y2:(zbM t k).order.length ≤ 4096:=by show ([]:List Int).length ≤ 4096; simp
 rw [hSn] at hfs
 obtain ⟨Y,hY2⟩:∃ Y,zbM t k = Y:=⟨_,rfl⟩
 rw [hY2] at y1 y2 hY e1 e3 hpl hg1 hwe hrt hn hSn hcn hhb hfs r1 r2
 simp only [hY2] at e6
 obtain ⟨n,hne⟩:∃ n,hrs Y = n:=⟨_,rfl⟩
 rw [hne] at hn hSn hcn hrt r1 r2 hfs
 obtain ⟨P,hP⟩:∃ P,zbG Y [] S 0 = P:=⟨_,rfl⟩
 rw [hP] at hg1 hwe hcn hrt hhb
 obtain ⟨lv,hlv⟩:∃ l,at_ t.levels k = l:=⟨_,rfl⟩
 rw [hlv] at e4 hR hwl hcn hwe hfs hgw hgl
 obtain ⟨w,hw⟩:∃ w,zd5 S lv = w:=⟨_,rfl⟩
 rw [hw] at hcn hwe hgw
 obtain ⟨L,hL⟩:∃ L,zaC t = L:=⟨_,rfl⟩
 rw [hL] at hg e1 e4 hR ej hhb w2 hjl hpos r1 r2
 obtain ⟨H,hH⟩:∃ H,zeG Y L [] 0 = H:=⟨_,rfl⟩
 rw [hH] at e1 hhb r1 r2
 obtain ⟨R,hRR⟩:∃ R,zmy L lv = R:=⟨_,rfl⟩
 rw [hRR] at e4 hR
 have n9:n ≤ 10:=by omega
 have hS4:S.length ≤ 4096:=by omega
 have hpf4:P.free.length ≤ 4096:=by omega
 have hwl4:w.length ≤ 4096:=by omega
 have p1:decide (P.wet = ((w.length:Nat):Int)) = true:=decide_eq_true hwe
 have p2:decide (((P.free.length:Nat):Int) = t.last + 1 - ((w.length:Nat):Int)) = true:=decide_eq_true (by omega)
 have p3:decide (P.rot = t.last + 1) = true:=decide_eq_true (by omega)
 have hL0:decide ((L.length:Int) = 0) = false:=decide_eq_false (by omega)
 have hone:∀ x ∈ S.map EncE.cs,∀ c ∈ x,AV.one c = true:=fun x hx c hc => by
  obtain ⟨a,_,rfl⟩:=czx.1 hx
  simp only [EncE.cs,czn,czk,or_false] at hc
  rw [hc]; rfl
 have hln:∀ x ∈ S.map EncE.cs,x.length = 1:=fun x hx => by
  obtain ⟨a,_,rfl⟩:=czx.1 hx
  rfl
 simp only [zbY]
 refine cpz zhX Tryz.func18 zaF ?_
 rw [Tryz.ntmps18]
 simp only [Tryz.f18,zah,zaq]
 iterate 2 (
  refine zar fun Q1 h1 => ?_
  simp (maxSteps:=4000000) only [go_sem,AV.one,zae,zac,zad,zap,zas,zab,czb,cza,↓reduceIte,zam,zaa,zao,onz,zaE,c1,c2,c3,gt_iff_lt,c4,hok,c5]
  all_goals (repeat' first | (with_reducible first | rfl | apply And.intro | assumption) | ((with_reducible show zaf _ _ = true); rfl)) <;> try first | omega | (simp only [InR]; omega)
  rw [h1]; clear h1 Q1; simp only [zaG,zan])
 iterate 2 (
  refine zar fun Q1 h1 => ?_
  simp (maxSteps:=4000000) only [go_sem,AV.one,zae,zac,zad,zap,zas,zab,czb,cza,↓reduceIte,zam,zaa,zao,onz,zaE,ek]
  all_goals (repeat' first | (with_reducible first | rfl | apply And.intro | assumption) | ((with_reducible show zaf _ _ = true); rfl)) <;> try first | omega | (simp only [InR]; omega)
  rw [h1]; clear h1 Q1; simp only [zaG,zan])
 refine zar fun Q1 h1 => ?_
 simp (maxSteps:=4000000) only [go_sem,AV.one,zae,zac,zad,zap,zas,zab,czb,cza,↓reduceIte,zam,zaa,zao,onz,zaE]
 all_goals (repeat' first | (with_reducible first | rfl | apply And.intro | assumption) | ((with_reducible show zaf _ _ = true); rfl)) <;> try first | omega | (simp only [InR]; omega)
 rw [h1]; clear h1 Q1; simp only [zaG,zan]
 refine zar fun Q1 h1 => ?_
 simp (maxSteps:=4000000) only [go_sem,AV.one,zae,zac,zad,zap,zas,zab,czb,cza,↓reduceIte,zam,zaa,zao,onz,zaE,hok,hmok,hL]
 all_goals (repeat' first | (with_reducible first | rfl | apply And.intro | assumption) | ((with_reducible show zaf _ _ = true); rfl)) <;> try first | omega | (simp only [InR]; omega)
 rw [h1]; clear h1 Q1; simp only [zaG,zan]
 refine zar fun Q1 h1 => ?_
 simp (maxSteps:=4000000) only [go_sem,AV.one,zae,zac,zad,zap,zas,zab,czb,cza,↓reduceIte,zam,zaa,zao,onz,zaE,hY,e1]
 all_goals (repeat' first | (with_reducible first | rfl | apply And.intro | assumption) | ((with_reducible show zaf _ _ = true); rfl)) <;> try first | omega | (simp only [InR]; omega)
 rw [h1]; clear h1 Q1; simp only [zaG,zan]
 refine zar fun Q1 h1 => ?_
 simp (maxSteps:=4000000) only [go_sem,AV.one,zae,zac,zad,zap,zas,zab,czb,cza,↓reduceIte,zam,zaa,zao,onz,zaE,hL0]
 all_goals (repeat' first | (with_reducible first | rfl | apply And.intro | assumption) | ((with_reducible show zaf _ _ = true); rfl)) <;> try first | omega | (simp only [InR]; omega)
 rw [h1]; clear h1 Q1; simp only [zaG,zan]
 iterate 2 (
  refine zar fun Q1 h1 => ?_
  simp (maxSteps:=4000000) only [go_sem,zae,zac,zad,zap,zas,zab,czb,cza,↓reduceIte,zam,zaa,zao,onz,zaE,ej,hg,hone,hln,zuj]
  all_goals (repeat' first | (with_reducible first | rfl | apply And.intro | assumption) | ((with_reducible show zaf _ _ = true); rfl)) <;> try first | omega | (simp only [InR]; omega)
  rw [h1]; clear h1 Q1; simp only [zaG,zan])
 refine zar fun Q1 h1 => ?_
 simp (maxSteps:=4000000) only [go_sem,AV.one,zae,zac,zad,zap,zas,zab,czb,cza,↓reduceIte,zam,zaa,zao,onz,zaE,e2]
 all_goals (repeat' first | (with_reducible first | rfl | apply And.intro | assumption) | ((with_reducible show zaf _ _ = true); rfl)) <;> try first | omega | (simp only [InR]; omega)
 rw [h1]; clear h1 Q1; simp only [zaG,zan]
 refine zar fun Q1 h1 => ?_
 simp (maxSteps:=4000000) only [go_sem,zae,zac,zad,zap,zas,zab,czb,cza,↓reduceIte,zam,zaa,zao,onz,zaE,hY,e3,hone,hln]
 all_goals (repeat' first | (with_reducible first | rfl | apply And.intro | assumption) | ((with_reducible show zaf _ _ = true); rfl)) <;> try first | omega | (simp only [InR]; omega)
 rw [h1]; clear h1 Q1; simp only [zaG,zan]
 refine zar fun Q1 h1 => ?_
 simp (maxSteps:=4000000) only [go_sem,AV.one,zae,zac,zad,zap,zas,zab,czb,cza,↓reduceIte,zam,zaa,zao,onz,zaE,e4]
 all_goals (repeat' first | (with_reducible first | rfl | apply And.intro | assumption) | ((with_reducible show zaf _ _ = true); rfl)) <;> try first | omega | (simp only [InR]; omega)
 rw [h1]; clear h1 Q1; simp only [zaG,zan]
 obtain ⟨C1,c10,c1s,c1b,c1n⟩:∃ C:Nat → Nat,C 0 = 0 ∧ (∀ i,C (i + 1) = if decide (uf (n - 1 - i) = 1) = true then C i + 1 else C i) ∧ (∀ i,C i ≤ i) ∧ C n = zl7 (fun h => decide (uf h = 1)) n:=⟨cntD _ n,rfl,fun _ => rfl,zsC _ _,zun _ _⟩
 obtain ⟨C2,c20,c2s,c2b,c2n⟩:∃ C:Nat → Nat,C 0 = 0 ∧ (∀ i,C (i + 1) = if decide (uf (n - 1 - i) ≠ 2) = true then C i + 1 else C i) ∧ (∀ i,C i ≤ i) ∧ C n = zl7 (fun h => decide (uf h ≠ 2)) n:=⟨cntD _ n,rfl,fun _ => rfl,zsC _ _,zun _ _⟩
 obtain ⟨F1,f10,f1s,f1n⟩:∃ f:Nat → Int,f 0 = t.last + 1 ∧ (∀ i,f (i + 1) = if decide (lv < at_ S (n - 1 - i)) = true then ((n - 1 - i:Nat):Int) else f i) ∧ f n = zdz S lv:=⟨fstD (zmt S lv) n,hn,fun _ => rfl,hfs⟩
 rw [← c1n] at r1
 rw [← c2n] at r2
 refine zar fun Q1 h1 => ?_
 simp (maxSteps:=4000000) only [go_sem,AV.one,zae,zac,zad,zap,zas,zab,czb,cza,↓reduceIte,zam,zaa,zao,onz,zaE,List.append_eq,czz,hpl,hg1,hgw,hkl,p1,p2,p3,bne_self_eq_false,decide_true,decide_false]
 all_goals (repeat' first | (with_reducible first | rfl | apply And.intro | assumption) | ((with_reducible show zaf _ _ = true); rfl)) <;> try first | omega | (simp only [InR]; omega)
 rw [h1]; clear h1 Q1; simp only [zaG,zan]
 simp (maxSteps:=4000000) only [go_sem,AV.one,zae,zac,zad,zap,zas,zab,czb,cza,↓reduceIte,zam,zaa,zao,onz,zaE,decide_true,decide_false]
 all_goals (repeat' first | (with_reducible first | rfl | apply And.intro | assumption) | ((with_reducible show zaf _ _ = true); rfl)) <;> try first | omega | (simp only [InR]; omega)
 refine zbA (n) [] [3,6,7,8,10,12,15,17] (fun i => [(22,.int .i64 (t.last - i)),(19,.int .i64 ((C1 i:Nat):Int)),(20,.int .i64 ((C2 i:Nat):Int)),(21,.int .i64 (F1 i))]) (fun _ m => m) (fun _ => True) ?_ ?_ ?_ ?_
 ·trivial
 ·simp [AV.bare,zal,zaP,zaS,zak,zau,zag,tokz1,lk,zab,za4,c10,c20,f10,zaE,-List.map_map]
 ·intro i hi _
  obtain ⟨h,hh⟩:∃ h:Nat,h = n - 1 - i:=⟨_,rfl⟩
  have hc1:=c1s i
  have hc2:=c2s i
  have hc3:=f1s i
  rw [← hh] at hc1 hc2 hc3
  have hhi:t.last - (i:Int) = (h:Int):=by omega
  have hhl:(h:Int) ≤ t.last:=by omega
  have hhn:h < S.length:=by omega
  have h0h:(0:Int) ≤ (h:Int):=by omega
  have g5:=e5 h hhl
  have g6:=e6 h hhl
  have g7:=(e7 h hhl).symm
  have hb1:=c1b i
  have hb2:=c2b i
  have hnx:t.last - ((i:Int) + 1) = (h:Int) - 1:=by omega
  rw [hhi]
  cases d1:decide (uf h = 1) <;> cases d2:decide (uf h = 2) <;> cases d3:decide (lv < at_ S h)
  all_goals
   have d2':decide (uf h ≠ 2) = !(decide (uf h = 2)):=by simp
   rw [d1] at hc1
   rw [d2',d2] at hc2
   rw [d3] at hc3
   simp only [czp,if_false,if_true,Bool.not_true,Bool.not_false] at hc1 hc2 hc3
   simp (maxSteps:=4000000) only [go_sem,AV.one,zae,zac,zad,zap,zas,zab,czb,cza,↓reduceIte,zam,zaa,zao,onz,zaE,ge_iff_le,gt_iff_lt,h0h,hkl,g5,hY,g6,g7,d1,d2,d3,zat hhn,hgl,Bool.not_true,Bool.not_false,bne_self_eq_false,decide_true,decide_false]
   all_goals (repeat' first | (with_reducible first | rfl | apply And.intro | assumption) | ((with_reducible show zaf _ _ = true); rfl)) <;> try first | omega | (simp only [InR]; omega)
   refine nxt hi trivial ?_
   simp [AV.bare,zal,zaP,zaS,zak,zau,zag,tokz1,lk,zab,za4,hc1,hc2,hc3,hnx,zaE,-List.map_map]
 ·intro _
  have hl1:t.last - ((n:Nat):Int) = -1:=by omega
  have hl2:decide ((0:Int) ≤ -1) = false:=rfl
  have p4:decide (((C1 n:Nat):Int) ≤ H.lo) = true:=decide_eq_true r1
  have p5:decide (H.hi ≤ ((C2 n:Nat):Int)) = true:=decide_eq_true r2
  have p6:decide (H.lo ≤ ((P.free.length:Nat):Int)) = true:=decide_eq_true hhb.1
  have p7:decide (((P.free.length:Nat):Int) ≤ H.hi) = true:=decide_eq_true hhb.2
  have p8:decide (R.lo ≤ F1 n) = true:=decide_eq_true (by rw [f1n]; exact hR.1)
  have p9:decide (F1 n ≤ R.hi) = true:=decide_eq_true (by rw [f1n]; exact hR.2)
  rw [hl1]
  simp (maxSteps:=4000000) only [go_sem,AV.one,zae,zac,zad,zap,zas,zab,czb,cza,↓reduceIte,zam,zaa,zao,onz,zaE,ge_iff_le,hl2,hpl,hg1,p4,p5,p6,p7,p8,p9,decide_true,decide_false]
  all_goals exact auz
end Go.Proofs
