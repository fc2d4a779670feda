/- The texts H20, H21, H22, H23, H24, H25, H26, joined. -/
import Derived.Test.YtilbconikmpadaaGreatG16
set_option linter.all false
namespace Go.Proofs
open Go.Fs
set_option maxHeartbeats 4000000
set_option maxRecDepth 8000
structure FnP where
 w:W8
 out:List Int
instance:Enc FnP where
 enc f:=.fn (.func 145) [] [.ref [.ref (w8C f.w) 0] 0,.ref [.sl (f.out.map EncE.cs) .no] 0]
 dec
  | .fn (.func g) [] [.ref [.ref a 0] 0,.ref [.sl o .no] 0] =>
   if g = 145 then
    match znX a,(zdS o:Option (List Int)) with
    | some w,some o => some ⟨w,o⟩
    | _,_ => none
   else none
  | _ => none
 law v x h:=by
  split at h
  ·split at h
   ·rename_i e
    split at h
    ·rename_i h1 h2
     cases h
     rw [e,ziR h1,zbw _ _ h2]
    ·cases h
   ·cases h
  ·cases h
 dep:=7
 ok x:=by
  have h1:∀ c ∈ w8C x.w,zbt 4 c:=fun c hc => zfX 3 4 c (zj4 x.w c hc) (by omega)
  refine ⟨fun _ h => (by cases h),?_⟩
  intro c hc
  simp only [czn,czk,or_false] at hc
  rcases hc with rfl | rfl
  ·intro c hc
   simp only [czn,czk,or_false] at hc
   subst hc
   exact h1
  ·intro c hc
   simp only [czn,czk,or_false] at hc
   subst hc
   refine ⟨rfl,fun e he c hc => ?_⟩
   obtain ⟨x,_,rfl⟩:=czx.1 he
   exact zfX 1 4 c (EncE.ok x c hc) (by omega)
theorem zgW (f:FnP):Enc.enc f = .fn (.func 145) [] [.ref [.ref (w8C f.w) 0] 0,.ref [.sl (f.out.map EncE.cs) .no] 0]:=rfl
theorem zgZ (w:W8) (o:List Int):(Enc.dec (.fn (.func 145) [] [.ref [.ref [.int .i64 w.y.t.last,.sl (w.y.t.heights.map EncE.cs) .no,.int .i64 w.y.t.step,.sl (w.y.t.levels.map EncE.cs) .no,.sl (w.y.t.marks.map EncE.cs) .no,
 .int .i64 w.y.hands,.sl (w.y.chairs.map EncE.cs) .no,.sl (w.y.order.map EncE.cs) .no,.sl (w.y.hires.map EncE.cs) .no,.sl (w.ts.map EncE.cs) .no] 0] 0,.ref [.sl (o.map EncE.cs) .no] 0]):Option FnP) = some ⟨w,o⟩:=by
 have e1:=zsw w
 have e2:=zdD o
 rw [w8C] at e1
 simp only [Enc.dec,if_true,e1,e2]
def zgI (f:FnP) (s:Sea):Bool:=zcB f.w.y s f.out
theorem zry (s:Sea) (w:RefC W8) (o:RefC (List Int)) (h:YS w.x.y s ∧ o.x.length ≤ 4096):zaU Tryz.prog 145 [Enc.enc s,Enc.enc w,Enc.enc o] (· = Enc.enc (zgI ⟨w.x,o.x⟩ s)):=by
 obtain ⟨w⟩:=w
 obtain ⟨o⟩:=o
 obtain ⟨h1,h2⟩:=h
 dsimp only at h1 h2
 unfold zgI
 simp only [zeL,zbh,w8C]
 simp only [zbY]
 refine cpz P133_ok Tryz.func145 zaF ?_
 rw [Tryz.ntmps145]
 simp only [Tryz.f145,zah,zaq]
 simp (maxSteps:=4000000) only [go_sem,AV.one,zae,zac,zad,zap,zas,zab,czb,cza,↓reduceIte,zaV,zgZ,zbh,zgW,zaa,onz]
 all_goals exact auz
def P134 (g:FuncId):=(zax 145 (zeB (fun (s:Sea) (w:RefC W8) (o:RefC (List Int)) => YS w.x.y s ∧ o.x.length ≤ 4096) (fun s w o => zgI ⟨w.x,o.x⟩ s)) (P133):zaN) g
theorem P134_ok:zaD Tryz.prog P134:=zaj (zcc zry) (P133_ok)
theorem zqq (d:Option Nat):zaK P134 d = none:=(zai (by decide) d).trans (zqr d)
attribute [go_sem] P134 zqq
theorem zrz (l:List Sea) (f:FnP) (h:(l.length ≤ 4096 ∧ f.out.length ≤ 4096) ∧ ∀ s ∈ l,YS f.w.y s):zaU Tryz.prog 164 [Enc.enc l,Enc.enc f] (· = Enc.enc (zbu (zgI f) l l.length 0)):=by
 obtain ⟨w,out⟩:=f
 obtain ⟨⟨h1,h1'⟩,h2⟩:=h
 dsimp only at h2 h1'
 have hd:=zaV w
 simp only [zgW,w8C]
 simp only [zbY]
 refine cpz P134_ok Tryz.func164 zaF ?_
 rw [Tryz.ntmps164]
 simp only [Tryz.f164,zah,zaq]
 simp (maxSteps:=4000000) only [go_sem,AV.one,zae,zac,zad,zap,zas,zab,czb,cza,↓reduceIte,zaV,zgZ,zbh,zgW,zaa,onz]
 refine zbA (l.length) [] [0,1,4,7] (fun i => [(8,.int .i64 i)]) (fun _ m => m) (fun i => zbu (zgI ⟨w,out⟩) l (l.length - i) i = zbu (zgI ⟨w,out⟩) l l.length 0) ?_ ?_ ?_ ?_
 ·rfl
 ·simp [AV.bare,zal,zaP,zaS,zak,zau,zag,tokz1,lk,zab,za4]
 ·intro i hi hI
  have hp:=h2 _ (zbb hi)
  rw [show l.length - i = (l.length - (i + 1)) + 1 by omega,zbu] at hI
  cases c:zgI ⟨w,out⟩ (at_ l i) <;>
   simp (maxSteps:=4000000) only [go_sem,AV.one,zae,zac,zad,zap,zas,zab,czb,cza,↓reduceIte,zaV,zgZ,zbh,zgW,zaa,onz,zat hi,czH.2 hi,c,hd]
  all_goals all_goals (repeat' first | (with_reducible first | rfl | apply And.intro | assumption) | ((with_reducible show zaf _ _ = true); rfl)) <;> try first | omega | (simp only [InR]; omega)
  ·rw [c] at hI
   refine nxt hi hI ?_
   simp [AV.bare,zal,zaP,zaS,zak,zau,zag,tokz1,lk,zab,za4]
  ·rw [c] at hI
   rw [← hI]; rfl
 ·intro hI
  simp (maxSteps:=4000000) only [go_sem,AV.one,zae,zac,zad,zap,zas,zab,czb,cza,↓reduceIte,zaV,zgZ,zbh,zgW,zaa,onz]
  rw [← hI]; simp [zbu]
def P135 (g:FuncId):=(zax 164 (zbL (fun (l:List Sea) (f:FnP) => (l.length ≤ 4096 ∧ f.out.length ≤ 4096) ∧ ∀ s ∈ l,YS f.w.y s) (fun l f => zbu (zgI f) l l.length 0)) (P134):zaN) g
theorem P135_ok:zaD Tryz.prog P135:=zaj (zaR zrz) (P134_ok)
theorem zqp (d:Option Nat):zaK P135 d = none:=(zai (by decide) d).trans (zqq d)
attribute [go_sem] P135 zqp
theorem zwf {α:Type} [Inhabited α] (p:α → Bool) (l:List α):decide (0 ≤ zbu p l l.length 0) = l.any p:=by
 rcases zhR p l l.length 0 (by omega) with ⟨h1,h2⟩ | ⟨k,h1,_,h3,h4,_⟩
 ·rw [h1]
  symm
  have:l.any p = false:=by
   rw [List.any_eq_false]
   intro x hx
   obtain ⟨k,hk,e⟩:=List.mem_iff_getElem.1 hx
   have:=h2 k (Nat.zero_le _) hk
   rw [zdy hk,e] at this
   simp [this]
  rw [this]
  decide
 ·rw [h1]
  symm
  have:l.any p = true:=List.any_eq_true.2 ⟨at_ l k,zbb h3,h4⟩
  rw [this]
  simp
theorem zrA (l:List Sea) (f:FnP) (h:(l.length ≤ 4096 ∧ f.out.length ≤ 4096) ∧ ∀ s ∈ l,YS f.w.y s):zaU Tryz.prog 144 [Enc.enc l,Enc.enc f] (· = Enc.enc (l.any (zgI f))):=by
 obtain ⟨w,out⟩:=f
 obtain ⟨⟨h1,h1'⟩,h2⟩:=h
 dsimp only at h2 h1'
 have hd:=zgZ w out
 rw [← zwf]
 simp only [zgW,w8C]
 simp only [zbY]
 refine cpz P135_ok Tryz.func144 zaF ?_
 rw [Tryz.ntmps144]
 simp only [Tryz.f144,zah,zaq]
 simp (maxSteps:=4000000) only [go_sem,AV.one,zae,zac,zad,zap,zas,zab,czb,cza,↓reduceIte,zaV,zgZ,zbh,zgW,zaa,onz,hd]
 all_goals exact auz
def P136 (g:FuncId):=(zax 144 (zbL (fun (l:List Sea) (f:FnP) => (l.length ≤ 4096 ∧ f.out.length ≤ 4096) ∧ ∀ s ∈ l,YS f.w.y s) (fun l f => l.any (zgI f))) (P135):zaN) g
theorem P136_ok:zaD Tryz.prog P136:=zaj (zaR zrA) (P135_ok)
theorem zqo (d:Option Nat):zaK P136 d = none:=(zai (by decide) d).trans (zqp d)
attribute [go_sem] P136 zqo
def zfC (w:W8) (out:List Int):Bool:=w.ts.any fun s => zcB w.y s out
theorem zny (w:W8) (out:List Int) (h:(w.ts.length ≤ 4096 ∧ out.length ≤ 4096) ∧ ∀ s ∈ w.ts,YS w.y s):zaU Tryz.prog 109 [Enc.enc w,Enc.enc out] (· = Enc.enc (zfC w out)):=by
 obtain ⟨⟨h1,h1'⟩,h2⟩:=h
 have hd:=zgZ w out
 have hp:w.ts.any (zgI ⟨w,out⟩) = zfC w out:=rfl
 simp only [zbh,w8C]
 simp only [zbY]
 refine cpz P136_ok Tryz.func109 zaF ?_
 rw [Tryz.ntmps109]
 simp only [Tryz.f109,zah,zaq]
 simp (maxSteps:=4000000) only [go_sem,AV.one,zae,zac,zad,zap,zas,zab,czb,cza,↓reduceIte,zaV,zgZ,zbh,zgW,zaa,onz,hd,hp]
 all_goals exact auz
def P137 (g:FuncId):=(zax 109 (zbL (fun (w:W8) (out:List Int) => (w.ts.length ≤ 4096 ∧ out.length ≤ 4096) ∧ ∀ s ∈ w.ts,YS w.y s) zfC) (P136):zaN) g
theorem ztf:zaD Tryz.prog P137:=zaj (zaR zny) (P136_ok)
theorem zqn (d:Option Nat):zaK P137 d = none:=(zai (by decide) d).trans (zqo d)
attribute [go_sem] P137 zqn
def zpB (y:Yd) (n:Nat):Yd:={ y with hires:=y.hires.take n }
theorem cutY_ok {y:Yd} (h:VY y) (n:Nat):VY (zpB y n) :=
 ⟨h.c5,by have:=h.r5; unfold zpB; simp; omega,h.f,h.tr,h.h0,h.h5,h.ord,h.ch,fun x hx => h.hi x (List.mem_of_mem_take hx)⟩
def zgm (y:Yd):List Sea:=(zbd y).map (zbP y.t)
def zgU (y:Yd):Nat → Nat → Int × Int
 | 0,_ => (0,7)
 | f + 1,n => if zfC ⟨zpB y (n + 1),zgm y⟩ [] then zgU y f (n + 1) else (n,0)
def zeE (y:Yd):Int × Int:=if zbB y = 0 then zgU y y.hires.length 0 else (0,zbB y)
def zsa (y:Yd) (i:Nat):List Rg:=if i = 0 then y.hires else y.hires.take i
theorem ztp (y:Yd) (h:y.t.heights.length ≤ 4096 ∧ y.order.length ≤ 4096):zaU Tryz.prog 44 [Enc.enc y] (· = Enc.enc (zeE y)):=by
 simp only [zaa,ydC]
 unfold zeE
 by_cases c:zbB y = 0
 case neg =>
  rw [if_neg c]
  simp only [zbY]
  refine cpz ztf Tryz.func44 zaF ?_
  rw [Tryz.ntmps44]
  simp only [Tryz.f44,zah,zaq]
  refine zlU fun Q0 hQ0 => ?_
  refine zar fun Q1 h1 => ?_
  simp (maxSteps:=4000000) only [go_sem,zae,zac,zad,zap,zas,zab,czb,cza,↓reduceIte,zaV,zbh,zaa,onz]
  all_goals (repeat' first | (with_reducible first | rfl | apply And.intro | assumption) | ((with_reducible show zaf _ _ = true); rfl)) <;> try first | omega | (simp only [InR]; omega)
  rw [h1]; clear h1 Q1; simp only [zaG,zan]
  refine zar fun Q1 h1 => ?_
  simp (maxSteps:=4000000) only [go_sem,zae,zac,zad,zap,zas,zab,czb,cza,↓reduceIte,zaV,zbh,zaa,onz]
  refine ⟨_,zem y h c (zc6 ⟨zcf y _,trivial⟩),?_⟩
  rintro r m ⟨rfl,rfl⟩ _
  simp (maxSteps:=4000000) only [go_sem,zae,zac,zad,zap,zas,zab,czb,cza,↓reduceIte,zaV,zbh,zaa,onz]
  rw [h1]; clear h1 Q1
  simp only [zaG,zan]
  simp (maxSteps:=4000000) only [go_sem,zae,zac,zad,zap,zas,zab,czb,cza,↓reduceIte,zaV,zbh,zaa,onz,c,hQ0,decide_true,decide_false]
 case pos =>
 rw [if_pos c]
 have hv:=zhG c
 have hcl:=zfN hv
 have hr5:=hv.r5
 simp only [zbY]
 refine cpz ztf Tryz.func44 zaF ?_
 rw [Tryz.ntmps44]
 simp only [Tryz.f44,zah,zaq]
 refine zlU fun Q0 hQ0 => ?_
 refine zar fun Q1 h1 => ?_
 simp (maxSteps:=4000000) only [go_sem,zae,zac,zad,zap,zas,zab,czb,cza,↓reduceIte,zaV,zbh,zaa,onz]
 all_goals (repeat' first | (with_reducible first | rfl | apply And.intro | assumption) | ((with_reducible show zaf _ _ = true); rfl)) <;> try first | omega | (simp only [InR]; omega)
 rw [h1]; clear h1 Q1; simp only [zaG,zan]
 refine zar fun Q1 h1 => ?_
 simp (maxSteps:=4000000) only [go_sem,zae,zac,zad,zap,zas,zab,czb,cza,↓reduceIte,zaV,zbh,zaa,onz]
 refine ⟨_,zeT y hv (zc6 ⟨zcf y _,trivial⟩),?_⟩
 rintro r m ⟨rfl,rfl⟩ _
 unfold zcH
 simp (maxSteps:=4000000) only [go_sem,zae,zac,zad,zap,zas,zab,czb,cza,↓reduceIte,zaV,zbh,zaa,onz]
 rw [h1]; clear h1 Q1
 simp only [zaG,zan]
 have hsw:(zbd y).map (zbP y.t) = zgm y:=rfl
 have hsl:(zbd y).length = (zgm y).length:=by simp [zgm]
 rw [hsw,hsl]
 rw [hsl] at hcl
 have hys:∀ s ∈ zgm y,YS y s:=fun s hs => askW hv s hs
 have hvb:∀ k st,zcd k (.vec ((zgm y).map EncE.cs) 2 st):=fun k st => by
  have:=zj5 (zgm y) 0 k st
  simpa using this
 obtain ⟨K,hK⟩:∃ K,zgm y = K:=⟨_,rfl⟩
 have htk:(K.map (EncE.cs (α:=Sea))).take K.length = K.map EncE.cs:=cze (by simp)
 iterate 3 (
  refine zar fun Q1 h1 => ?_
  simp (maxSteps:=4000000) only [go_sem,zae,zac,zad,zap,zas,zab,czb,cza,↓reduceIte,zaV,zbh,zaa,onz,decide_true,decide_false]
  all_goals (repeat' first | (with_reducible first | rfl | apply And.intro | assumption) | ((with_reducible show zaf _ _ = true); rfl)) <;> try first | omega | (simp only [InR]; omega)
  rw [h1]; clear h1 Q1; simp only [zaG,zan])
 refine zar fun Q2 h2 => ?_
 rw [zff]
 rw [hK] at hys hvb hcl ⊢
 simp (maxSteps:=4000000) only [go_sem,zae,zac,zad,zap,zas,zab,czb,cza,↓reduceIte,zaV,zbh,zaa,onz]
 refine zbA (y.hires.length) [] [1,2,3,4,17] (fun i => [(18,.int .i64 i)]) (fun i m => m.set 2 (.cells [.int .i64 y.t.last,.sl (y.t.heights.map EncE.cs) .no,.int .i64 y.t.step,.sl (y.t.levels.map EncE.cs) .no,.sl (y.t.marks.map EncE.cs) .no,.int .i64 y.hands,.sl (y.chairs.map EncE.cs) .no,.sl (y.order.map EncE.cs) .no,.sl ((zsa y i).map EncE.cs) .no,.vec 4 K.length 0 K.length 2])) (fun i => zgU y (y.hires.length - i) i = zgU y y.hires.length 0) ?_ ?_ ?_ ?_
 ·rfl
 ·simp [AV.bare,zal,zaP,zaS,zak,zau,zag,tokz1,lk,zab,za4,zsa]
 ·intro i hi hI
  rw [show y.hires.length - i = (y.hires.length - (i + 1)) + 1 by omega,zgU,hK] at hI
  have hi':=czH.2 hi
  have e1:((i:Int) + 1 - 0).toNat = i + 1:=by omega
  have hys':∀ s ∈ K,YS (zpB y (i + 1)) s:=fun s hs => ⟨cutY_ok hv _,(hys s hs).rl⟩
  obtain ⟨W,hW⟩:∃ W:W8,⟨zpB y (i + 1),K⟩ = W:=⟨_,rfl⟩
  have hdw:=(zaV ⟨zpB y (i + 1),K⟩).trans (congrArg some hW)
  simp only [zpB] at hdw
  have hW1:W.ts.length ≤ 4096:=by rw [← hW]; exact hcl
  have hW2:∀ s ∈ W.ts,YS W.y s:=by rw [← hW]; exact hys'
  rw [hW] at hI
  cases c2:zfC W [] <;>
   simp (maxSteps:=4000000) only [go_sem,zae,zac,zad,zap,zas,zab,czb,cza,↓reduceIte,zaV,zbh,zaa,onz,hi',e1,zh3,htk,hdw,c2]
  all_goals all_goals (repeat' first | (with_reducible first | rfl | apply And.intro | assumption) | ((with_reducible show zaf _ _ = true); rfl)) <;> try first | omega | (simp only [InR]; omega)
  ·rw [c2,if_neg (by simp)] at hI
   rw [h2]
   simp (maxSteps:=4000000) only [go_sem,zae,zac,zad,zap,zas,zab,czb,cza,↓reduceIte,zaV,zbh,zaa,onz,hQ0]
   rw [← hI]
  ·rw [c2,if_pos rfl] at hI
   refine nxt hi hI ?_
   simp [AV.bare,zal,zaP,zaS,zak,zau,zag,tokz1,lk,zab,za4,zsa,-List.map_take]
 ·intro hI
  simp (maxSteps:=4000000) only [go_sem,zae,zac,zad,zap,zas,zab,czb,cza,↓reduceIte,zaV,zbh,zaa,onz]
  rw [h2]
  simp only [zaG]
  simp (maxSteps:=4000000) only [go_sem,zae,zac,zad,zap,zas,zab,czb,cza,↓reduceIte,zaV,zbh,zaa,onz,hQ0]
  rw [← hI]; simp [zgU]
def P138 (g:FuncId):=(zax 44 (zcU (fun y:Yd => y.t.heights.length ≤ 4096 ∧ y.order.length ≤ 4096) zeE) (P137):zaN) g
theorem zlP:zaD Tryz.prog P138:=zaj (zbm ztp) (ztf)
theorem zqm (d:Option Nat):zaK P138 d = none:=(zai (by decide) d).trans (zqn d)
attribute [go_sem] P138 zqm
theorem rotB8_eq {y:Yd} (hv:VY y) {hs o:List Int} (hl:hs.length = hrs y) {c:Nat} (hc:c < y.chairs.length):zjW y (zbP y.t hs) c (zb6 y o c) = decide ((znt y o hs c:Int) ≤ y.t.last):=by
 unfold zjW
 rw [zgx hv hl (by omega) (by omega),zil]
theorem lossN_eq {y:Yd} (hv:VY y) {hs o:List Int} (hl:hs.length = hrs y) {k:Nat} (hk:k ≤ y.chairs.length):zgo y (zbP y.t hs) o k = zcM y o hs k:=by
 unfold zgo zcM
 congr 2
 apply List.filter_congr
 intro c hc
 have:=List.mem_range.1 hc
 exact rotB8_eq hv hl (by omega)
theorem zpc {y:Yd} (hv:VY y) {hs o:List Int} (hl:hs.length = hrs y):zgo y (zbP y.t hs) o y.chairs.length = zb7 y o hs:=lossN_eq hv hl (czf _)
theorem zpb {y:Yd} (hv:VY y) (ps:List (List Int)) (hp:∀ p ∈ ps,p.length = hrs y) (o:List Int):∀ n,n ≤ ps.length →
  (zcm y (ps.map (zbP y.t)) o n).1 = (ps.take n).foldl (fun m hs => max m (zb7 y o hs)) (-1)
 | 0,_ => by simp [zcm]
 | n + 1,h => by
  have ih:=zpb hv ps hp o n (by omega)
  have hn:n < ps.length:=by omega
  rw [zaX hn,List.foldl_append,List.foldl_cons,List.foldl_nil,← ih]
  rw [zcm]
  rw [zgd hn,zpc hv (hp _ (zbb hn))]
  split
  ·dsimp only; omega
  ·omega
theorem zpa {y:Yd} (hv:VY y) (ps:List (List Int)) (hp:∀ p ∈ ps,p.length = hrs y) (o:List Int):∀ n,n ≤ ps.length → 0 < n →
  zb7 y o (at_ ps (zcm y (ps.map (zbP y.t)) o n).2.toNat) = (zcm y (ps.map (zbP y.t)) o n).1
 | 0,_,h => by omega
 | n + 1,h,_ => by
  have hn:n < ps.length:=by omega
  have hr:=(zeO y o (at_ ps n) y.chairs.length).1
  rw [zcm]
  rw [zgd hn,zpc hv (hp _ (zbb hn))]
  split
  ·dsimp only; rw [czF]
  ·rename_i q
   by_cases e:n = 0
   ·subst e
    simp only [zcm] at q
    unfold zb7 at q
    omega
   ·exact zpa hv ps hp o n (by omega) (by omega)
theorem zl3 (f:List Int → Int) (h:∀ p,0 ≤ f p):∀ ps:List (List Int),ps ≠ [] → ps.foldl (fun m hs => max m (f hs)) (-1) = ps.foldl (fun m hs => max m (f hs)) 0
 | [],q => absurd rfl q
 | x :: l,_ => by
  have:=h x
  rw [List.foldl_cons,List.foldl_cons,show max (-1) (f x) = max 0 (f x) by omega]
theorem zmH {y:Yd} (hv:VY y) (h:zaJ y ≠ []) (o:List Int):(zcm y (wkY y).ts o (wkY y).ts.length).1 = zgQ y (zaJ y) o:=by
 have hw:zfv y ≠ []:=fun q => h ((zj1 hv).1 q)
 rw [← work_loss hv h o]
 unfold wkY
 dsimp only
 rw [czz,zpb hv (zfv y) (fun p hp => zh0 hv hp) o _ (czf _),czm]
 exact zl3 _ (fun p => (zeO y o p y.chairs.length).1) _ hw
theorem zk5 {y:Yd} (hv:VY y) (h:zaJ y ≠ []) (o:List Int) :
  (at_ (wkY y).ts (zcm y (wkY y).ts o (wkY y).ts.length).2.toNat).hs ∈ zaJ y ∧ zb7 y o (at_ (wkY y).ts (zcm y (wkY y).ts o (wkY y).ts.length).2.toNat).hs = zgQ y (zaJ y) o:=by
 rw [← zmH hv h o]
 have hp:=zkr hv h
 have hlt:=zt8 y (wkY y).ts o _ hp
 have hbd:=ziB y (wkY y).ts o (wkY y).ts.length
 unfold wkY at *
 dsimp only at *
 rw [czz] at *
 have hi:(zcm y ((zfv y).map (zbP y.t)) o (zfv y).length).2.toNat < (zfv y).length:=by omega
 rw [zgd hi]
 exact ⟨zj2 hv (zbb hi),zpa hv (zfv y) (fun p hp => zh0 hv hp) o _ (czf _) hp⟩
theorem zen {y:Yd} (hv:VY y) (h:zaJ y ≠ []) (q:Qn8) (o:List Int) {c:Int} (h0:0 ≤ c) (h1:c < y.chairs.length):IsB (fun z => ∃ p ∈ zaJ y,q.ask (zbG y o p c) = z) (zdE q (wkY y) o c):=by
 have hp:=zkr hv h
 have hb:=znM (fun s:Sea => q.ask (zfT y s ⟨c,zb6 y o c⟩)) (wkY y).ts (at_ (wkY y).ts 0) (zbb hp)
 refine IsB.congr (r:=zdE q (wkY y) o c) hb fun x => ?_
 constructor
 ·rintro ⟨s,hs,rfl⟩
  obtain ⟨p,hp,rfl⟩:=czx.1 hs
  exact ⟨p,zj2 hv hp,by rw [zgx hv (zh0 hv hp) h0 h1]⟩
 ·rintro ⟨p,hp,rfl⟩
  obtain ⟨p',hp',hl⟩:=zkq hv hp
  refine ⟨zbP y.t p',czx.2 ⟨p',hp',rfl⟩,?_⟩
  rw [zgx hv (zh0 hv hp') h0 h1,ziE hl o (by omega)]
theorem zjf (y:Yd) (o p:List Int) (c:Int):(zbG y o p c).free.length ≤ hrs y:=by
 rw [zi5]; exact zlf _ _ _ _
theorem zgS {y:Yd} (hv:VY y) (h:zaJ y ≠ []) (o:List Int) {c:Int} (h0:0 ≤ c) (h1:c < y.chairs.length):zdE .free (wkY y) o c = zeG y (zaJ y) o c:=by
 have hb:=zen hv h .free o h0 h1
 have he:=zlb (fun p => (((zbG y o p c).free.length:Nat):Int)) (zaJ y) h fun p _ => by
  have:=zjf y o p c
  have:=hv.hrs
  omega
 exact hb.eq he fun x => Iff.rfl
theorem has_can {y:Yd} (o p:List Int) (c:Int) {k:Int} (h0:0 ≤ k) (h1:k.toNat < hrs y):hasR (zbG y o p c) k = if zfO y o p c k.toNat = true then 1 else 0:=by
 unfold hasR
 rw [zga o p c h1,show ((k.toNat:Nat):Int) = k by omega]
theorem zgO (p:List Int → Bool) (ls:List (List Int)):zkZ p ls = ls.length ↔ ∀ a ∈ ls,p a = true:=by
 unfold zkZ
 rw [← List.length_filter_eq_length_iff]
 omega
theorem zhi (p:List Int → Bool) (ls:List (List Int)):zkZ p ls = 0 ↔ ∀ a ∈ ls,p a = false:=by
 unfold zkZ
 constructor
 ·intro h a ha
  have h':(ls.filter p).length = 0:=by omega
  have:=List.eq_nil_of_length_eq_zero h'
  rw [List.filter_eq_nil_iff] at this
  simpa using this a ha
 ·intro h
  have:ls.filter p = []:=List.filter_eq_nil_iff.2 fun a ha => by simp [h a ha]
  rw [this]; rfl
theorem free8_eq {y:Yd} (hv:VY y) (h:zaJ y ≠ []) (o:List Int) {c k:Int} (h0:0 ≤ c) (h1:c < y.chairs.length) (k0:0 ≤ k) (k1:k ≤ y.t.last):freeQ (zdE (.has k) (wkY y) o c) = zdR y (zaJ y) o c k:=by
 have hh:=hv.hrs
 have hb:=zen hv h (.has k) o h0 h1
 have hq:∀ p,Qn8.ask (.has k) (zbG y o p c) = if zfO y o p c k.toNat = true then 1 else 0:=fun p => has_can o p c k0 (by omega)
 obtain ⟨B,hB⟩:∃ B,zdE (.has k) (wkY y) o c = B:=⟨_,rfl⟩
 rw [hB] at hb ⊢
 have hall:∀ p ∈ zaJ y,B.lo ≤ (if zfO y o p c k.toNat = true then 1 else 0) ∧ (if zfO y o p c k.toNat = true then (1:Int) else 0) ≤ B.hi:=fun p hp => hb.all _ ⟨p,hp,hq p⟩
 obtain ⟨pl,hpl,el⟩:=hb.lo
 obtain ⟨ph,hph,eh⟩:=hb.hi
 rw [hq] at el eh
 unfold freeQ zdR
 have e1:B.lo = 1 ↔ zkZ (fun hs => zfO y o hs c k.toNat) (zaJ y) = (zaJ y).length:=by
  rw [zgO]
  constructor
  ·intro q p hp
   have:=(hall p hp).1
   by_cases d:zfO y o p c k.toNat = true
   ·exact d
   ·rw [if_neg d] at this; omega
  ·intro q
   rw [← el,if_pos (q pl hpl)]
 have e2:B.hi = 0 ↔ zkZ (fun hs => zfO y o hs c k.toNat) (zaJ y) = 0:=by
  rw [zhi]
  constructor
  ·intro q p hp
   have:=(hall p hp).2
   by_cases d:zfO y o p c k.toNat = true
   ·rw [if_pos d] at this; omega
   ·simpa using d
  ·intro q
   rw [← eh,if_neg (by simp [q ph hph])]
 simp only [e1,e2]
theorem cut_right (y:Yd) (n:Nat) (p:List Int) {k:Nat} (hk:k < n):zcx (zpB y n) p k = zcx y p k:=by
 have:at_ (zpB y n).hires k = at_ y.hires k:=by
  unfold zpB at_
  simp [List.getD,czR,hk]
 unfold zcx
 rw [this]
 rfl
def zvx (y:Yd) (n:Nat) (out:List Int):Bool:=(zaC y.t).any fun p => (List.range (min n y.hires.length)).all fun k => out.contains (k:Int) || zcx y p k
theorem zwa {y:Yd} (hv:VY y) {p q:List Int} (h:Like y p q) {k:Nat} (hk:k < y.hires.length):zcx y p k = zcx y q k:=by
 have hi:=hv.hi _ (zbb hk)
 have hh:=hv.hrs
 unfold zcx
 rw [zga _ _ _ (by omega),zga _ _ _ (by omega),ziE h y.order (by omega)]
theorem zoR {y:Yd} (hv:VY y) (n:Nat) (out:List Int):zfC ⟨zpB y n,zgm y⟩ out = zvx y n out:=by
 have key:∀ p ∈ zbd y,zcB (zpB y n) (zbP y.t p) out = (List.range (min n y.hires.length)).all fun k => out.contains (k:Int) || zcx y p k:=fun p hp => by
  have hl:=zji hv hp
  have h1:=zoL (cutY_ok hv n) (hs:=p) hl out
  have h2:zbP (zpB y n).t p = zbP y.t p:=rfl
  rw [h2] at h1
  rw [h1]
  have h3:(zpB y n).hires.length = min n y.hires.length:=by simp [zpB]
  rw [h3]
  apply zdP
  intro k hk
  have hk':k < min n y.hires.length:=by simpa using hk
  rw [cut_right y n p (by omega)]
 unfold zfC zgm zvx
 dsimp only
 rw [Bool.eq_iff_iff,List.any_eq_true,List.any_eq_true]
 constructor
 ·rintro ⟨s,hs,h⟩
  obtain ⟨p,hp,rfl⟩:=czx.1 hs
  exact ⟨p,ziT hv hp,by rw [← key p hp]; exact h⟩
 ·rintro ⟨q,hq,h⟩
  obtain ⟨p,hp,hl⟩:=zm2 hv hq
  refine ⟨zbP y.t p,czx.2 ⟨p,hp,rfl⟩,?_⟩
  rw [key p hp,← h]
  apply zdP
  intro k hk
  have hk':k < min n y.hires.length:=by simpa using hk
  rw [zwa hv hl (by omega)]
theorem cutY_all (y:Yd):zpB y y.hires.length = y:=by unfold zpB; rw [czm]
def zhV (y:Yd):Nat → Nat → Int × Int
 | 0,_ => (0,7)
 | f + 1,n => if zvx y (n + 1) [] then zhV y f (n + 1) else (n,0)
theorem zmT {y:Yd} (hv:VY y):∀ f n,zgU y f n = zhV y f n
 | 0,_ => rfl
 | f + 1,n => by unfold zgU zhV; rw [zoR hv,zmT hv f (n + 1)]
structure LvM8 (y:Yd) (K:List Sea) (mem:List AObj):Prop where
 len:8 ≤ mem.length
 m0:zab mem 0 = .cells [.int .i64 y.t.last,.sl (y.t.heights.map EncE.cs) .no,.int .i64 y.t.step,.sl (y.t.levels.map EncE.cs) .no,.sl (y.t.marks.map EncE.cs) .no,.int .i64 y.hands,.sl (y.chairs.map EncE.cs) .no,.sl (y.order.map EncE.cs) .no,.sl (y.hires.map EncE.cs) .no]
 m2:zab mem 2 = .cells [.int .i64 y.t.last,.sl (y.t.heights.map EncE.cs) .no,.int .i64 y.t.step,.sl (y.t.levels.map EncE.cs) .no,.sl (y.t.marks.map EncE.cs) .no,.int .i64 y.hands,.sl (y.chairs.map EncE.cs) .no,.sl (y.order.map EncE.cs) .no,.sl (y.hires.map EncE.cs) .no,.vec 4 K.length 0 K.length 2]
 m4:zab mem 4 = .vec (K.map EncE.cs) 2 K.length
 m5:zab mem 5 = .cells [.ptr 2 0]
 m7:zab mem 7 = .cells [.fn (.func 110) [] [.ptr 6 0,.ptr 5 0,.ptr 0 0,.ptr 7 0]]
 ok:∀ o ∈ mem,zcd mem.length o
 m6:∃ f,zab mem 6 = .cells [f]
theorem LvM8.set {y:Yd} {K:List Sea} {mem:List AObj} (h:LvM8 y K mem) (l:List Int):LvM8 y K (mem.set 6 (.cells [.sl (l.map EncE.cs) .no])):=by
 have h3:=h.len
 have key:∀ i,i ≠ 6 → ∀ o,zab (mem.set 6 o) i = zab mem i:=fun i hi o => by rw [zaH _ _ _ _ (by omega),if_neg hi]
 refine ⟨by simpa using h3,(key 0 (by omega) _).trans h.m0,(key 2 (by omega) _).trans h.m2,(key 4 (by omega) _).trans h.m4,(key 5 (by omega) _).trans h.m5,(key 7 (by omega) _).trans h.m7,fun o ho => ?_,?_⟩
 ·rw [czt]
  rcases List.mem_or_eq_of_mem_set ho with q | q
  ·exact h.ok o q
  ·subst q
   simp [zbp,znZ,zlo]
 ·exact ⟨_,by rw [zaH _ _ _ _ (by omega),if_pos rfl]⟩
theorem LvM8.push {y:Yd} {K:List Sea} {mem:List AObj} (h:LvM8 y K mem) (n:Nat):LvM8 y K (mem ++ [.tok n 1,.dead]):=by
 have h3:=h.len
 have key:∀ i,i < 8 → zab (mem ++ [.tok n 1,.dead]) i = zab mem i:=fun i hi => zaW (by omega)
 refine ⟨by simp; omega,(key 0 (by omega)).trans h.m0,(key 2 (by omega)).trans h.m2,(key 4 (by omega)).trans h.m4,(key 5 (by omega)).trans h.m5,(key 7 (by omega)).trans h.m7,fun o ho => ?_,by rw [key 6 (by omega)]; exact h.m6⟩
 rcases czv.1 ho with q | q
 ·exact zdi (by simp) o (h.ok o q)
 ·simp at q
  rcases q with q | q <;> subst q <;> simp [zdd,zdx]
def zdY (mem:List AObj):Option (List Int) → List AObj
 | none => mem
 | some f => mem.set 6 (.cells [.sl (f.map EncE.cs) .no])
theorem ziz {y:Yd} {K:List Sea} {mem:List AObj} (h:LvM8 y K mem) (fo:Option (List Int)):LvM8 y K (zdY mem fo) ∧ (zdY mem fo).length = mem.length ∧ ∀ o,(zdY mem fo).set 6 o = mem.set 6 o:=by
 cases fo with
 | none => exact ⟨h,rfl,fun _ => rfl⟩
 | some f => exact ⟨h.set f,by simp [zdY],fun o => by simp [zdY]⟩
theorem zk2 {mem mm:List AObj} {fo:Option (List Int)} (h:zdY mem fo = mm) (h3:8 ≤ mm.length) (hs:∀ o,mm.set 6 o = mem.set 6 o) (xs:List AObj) (fo':Option (List Int)):∃ fo2,zdY (mm ++ xs) fo' = zdY mem fo2 ++ xs ∧ ∀ f,fo' = some f → fo2 = some f:=by
 cases fo' with
 | none => exact ⟨fo,by rw [h]; rfl,fun f e => by cases e⟩
 | some f =>
  refine ⟨some f,?_,fun _ e => e⟩
  show (mm ++ xs).set 6 _ = mem.set 6 _ ++ xs
  rw [List.set_append_left _ _ (by omega),hs]
def leaveR8 (y:Yd) (K:List Sea) (mem:List AObj) (m:Nat) (out:List Nat) (frm:Nat) (r:AV) (mem':List AObj):Prop :=
 ∃ fo:Option (List Int),mem' = zdY mem fo ∧ r = .bool (zc2 (zfC ⟨y,K⟩) y.hires.length m out frm).isSome ∧ ∀ x,zc2 (zfC ⟨y,K⟩) y.hires.length m out frm = some x → fo = some (zbQ x)
theorem zqV {y:Yd} {K:List Sea} (hw:zxx ⟨y,K⟩):∀ (m:Nat) (out:List Nat) (frm:Nat) (mem:List AObj),LvM8 y K mem → out.length + m ≤ 7 → frm ≤ 8 →
  zgq Tryz.prog 110 [.sl ((zbQ out).map EncE.cs) .no,.int .i64 frm,.int .i64 m,.ptr 6 0,.ptr 5 0,.ptr 0 0,.ptr 7 0] mem (leaveR8 y K mem m out frm):=by
 intro m
 induction m with
 | zero =>
  intro out frm mem hm hlen hfrm
  have h3:=hm.len
  have hm0:=hm.m0
  obtain ⟨f0,hm1⟩:=hm.m6
  have hcl:(zbQ out).length = out.length:=by simp [zbQ]
  have hS:=hm.set (zbQ out)
  have s0':=hS.m0
  have s2':=hS.m2
  have s4':=hS.m4
  have s5':=hS.m5
  have hm5:=hm.m5
  have hdw:=zaV ⟨y,K⟩
  dsimp only at hdw
  have hys:=hw.ys
  have hl1:=hw.l1
  dsimp only at hys hl1
  have htk:(K.map (EncE.cs (α:=Sea))).take K.length = K.map EncE.cs:=cze (by simp)
  have hok:=(hm.set (zbQ out)).ok
  refine zck (Φ:=P138) Tryz.func110 rfl (by rfl) (by rw [Tryz.ntmps110]; simp) zaF zlP (by simp [AV.strip,AV.strip1,Tk.strip]) ?_
  rw [Tryz.ntmps110]
  simp only [Tryz.f110,zah,zaq]
  simp (maxSteps:=4000000) only [go_sem,AV.one,zae,zac,zad,zap,zas,czb,cza,↓reduceIte,zaV,zbh,zaa,zao,onz,hm0,hm1,hm5,s0',s2',s4',s5',hdw,htk]
  all_goals (repeat' first | (with_reducible first | rfl | apply And.intro | assumption) | ((with_reducible show zaf _ _ = true); rfl)) <;> try first | omega | (simp only [InR]; omega)
  ·refine ⟨some (zbQ out),?_,?_,fun x hx => ?_⟩
   ·rw [cze (by simp)]; rfl
   ·simp only [zc2]
    cases zfC ⟨y,K⟩ (zbQ out) <;> rfl
   ·simp only [zc2] at hx
    split at hx
    ·cases hx; rfl
    ·cases hx
  ·trivial
  ·rw [cze (by simp)]
   rw [czt] at hok
   exact hok
 | succ m ih =>
  intro out frm mem hm hlen hfrm
  have h3:=hm.len
  have hcl:∀ l:List Nat,(zbQ l).length = l.length:=fun l => by simp [zbQ]
  have hml:=hw.vy.r5
  dsimp only at hml
  have hml2:(y.hires.map EncE.cs).length = y.hires.length:=by simp
  obtain ⟨f0,hm1⟩:=hm.m6
  have hG:∀ k,zc2 (zfC ⟨y,K⟩) y.hires.length m (out ++ [frm + k]) (frm + k + 1) = (fun k => zc2 (zfC ⟨y,K⟩) y.hires.length m (out ++ [frm + k]) (frm + k + 1)) k:=fun k => rfl
  have hm0:=hm.m0
  have hm7:=hm.m7
  have hm5:=hm.m5
  refine zck (Φ:=P138) Tryz.func110 rfl (by rfl) (by rw [Tryz.ntmps110]; simp) zaF zlP (by simp [AV.strip,AV.strip1,Tk.strip]) ?_
  rw [Tryz.ntmps110]
  simp only [Tryz.f110,zah,zaq]
  simp (maxSteps:=4000000) only [go_sem,AV.one,zae,zac,zad,zap,zas,czb,cza,↓reduceIte,zaV,zbh,zaa,zao,onz,hm0,hm1,show decide (((m + 1:Nat):Int) = 0) = false by simp; omega]
  refine zk6 [] [0,2,5,6,10] (fun b:Nat × Option (List Int) => [(11,.int .i64 ((frm + b.1:Nat):Int))]) (fun b _ => zdY mem b.2) (fun b => b.1 ≤ y.hires.length - m - frm ∧ (∀ j,j < b.1 → zc2 (zfC ⟨y,K⟩) y.hires.length m (out ++ [frm + j]) (frm + j + 1) = none)) (fun b => y.hires.length - m - frm - b.1) ((0,none)) ?_ ?_ ?_
  ·exact ⟨Nat.zero_le _,fun j hj => by omega⟩
  ·refine ⟨rfl,rfl,rfl,czf _,za1 _,?_,zbx hm.ok,trivial⟩
   show zaP _ mem.length _
   simp [AV.bare,zal,zaP,zaS,zak,zau,zag,tokz1,lk,zab,za4,show 0 < mem.length by omega,show 5 < mem.length by omega,show 6 < mem.length by omega,show 7 < mem.length by omega]
  ·rintro ⟨k,fo⟩ ⟨hk,hno⟩
   simp only at hk hno
   obtain ⟨hL,hLl,hLs⟩:=ziz hm fo
   generalize hmm:zdY mem fo = mm at hL hLl hLs
   have g0:=hL.m0
   have g2:=hL.m7
   have g3:=hL.len
   by_cases hkN:k < y.hires.length - m - frm
   ·have c1:decide (((frm + k:Nat):Int) ≤ (y.hires.length:Int) - ((m + 1:Nat):Int)) = true:=by simp; omega
    have q0:zab (mm ++ [.dead,.dead]) 7 = zab mm 7:=by unfold zab; simp only [List.getD]; rw [czi (by omega)]
    have q1:∀ x y:AObj,zab (mm ++ [x,y]) mm.length = x:=fun x y => by have:=zaQ mm [x,y] 0; rw [Nat.add_zero] at this; exact this
    have q2:∀ x y z:AObj,(mm ++ [x,y]).set mm.length z = mm ++ [z,y]:=fun x y z => by have:=zb2 mm [x,y] 0 z; rw [Nat.add_zero] at this; exact this
    have hlt:∀ x y:AObj,mm.length < (mm ++ [x,y]).length:=fun x y => by simp
    rw [g2] at q0
    have hco:=hcl out
    simp (maxSteps:=4000000) only [go_sem,AV.one,zae,zac,zad,zap,zas,czb,cza,↓reduceIte,zaV,zbh,zaa,zao,onz,g0,g2,q0,q1,q2,hlt,c1,hml2]
    have hcall:=ih (out ++ [frm + k]) (frm + k + 1) (mm ++ [.tok ((zbQ out).length + 1) 1,.dead]) (hL.push _) (by simp; omega) (by omega)
    have e1:(zbQ (out ++ [frm + k])).map EncE.cs = (zbQ out).map EncE.cs ++ [[AV.int .i64 ((frm + k:Nat):Int)]]:=by rw [zwH]; simp [zeI]
    rw [e1,show ((frm + k + 1:Nat):Int) = ((frm + k:Nat):Int) + 1 by omega,show ((m:Nat):Int) = ((m + 1:Nat):Int) - 1 by omega] at hcall
    refine ⟨(by simp only [InR]; omega),rfl,by omega,by omega,(by simp only [InR]; omega),(by simp only [InR]; omega),[],by rfl,_,zbK (zsJ hcall),?_⟩
    rintro r mem' ⟨r0,rfl,⟨fo',rfl,rfl,hf⟩,hlen2⟩ _
    refine ⟨trivial,?_⟩
    obtain ⟨fo2,hp1,hp2⟩:=zk2 hmm g3 hLs [.tok ((zbQ out).length + 1) 1,.dead] fo'
    obtain ⟨hM,hMl,_⟩:=ziz hm fo2
    have hMok:=hM.ok
    rw [hMl] at hMok
    rw [hp1]
    have htk:(zdY mem fo2 ++ [AObj.tok ((zbQ out).length + 1) 1,AObj.dead]).take mem.length = zdY mem fo2:=by
     rw [List.take_append_of_le_length (by omega),cze (by omega)]
    cases c:zc2 (zfC ⟨y,K⟩) y.hires.length m (out ++ [frm + k]) (frm + k + 1) with
    | some x =>
     simp only [AV.strip,AV.un,AV.av,Option.isSome_some,htk]
     refine ⟨trivial,fun _ => ⟨⟨fo2,rfl,?_,fun yy hy => ?_⟩,trivial,hMok⟩,fun h => by cases h⟩
     ·have:zc2 (zfC ⟨y,K⟩) y.hires.length (m + 1) out frm = some x:=ziO hkN hno c
      rw [this]; rfl
     ·have:zc2 (zfC ⟨y,K⟩) y.hires.length (m + 1) out frm = some x:=ziO hkN hno c
      rw [this] at hy
      cases hy
      exact hp2 _ (hf x c)
    | none =>
     simp only [AV.strip,AV.un,AV.av,Option.isSome_none,htk]
     refine ⟨trivial,fun h => (by cases h),fun _ => ⟨(by simp only [InR]; omega),(k + 1,fo2),⟨by dsimp only; omega,fun j hj => ?_⟩,by dsimp only; omega,?_⟩⟩
     ·by_cases e:j = k
      ·subst e; exact c
      ·exact hno j (by dsimp only at hj; omega)
     ·refine zbo ⟨rfl,rfl,rfl,Nat.le_of_eq hMl.symm,?_,?_,zbx hM.ok,trivial⟩
      ·have key:∀ (l r:List AObj),zak l (l ++ r):=by
        intro l
        induction l with
        | nil => intro r; trivial
        | cons a l ih => intro r; exact ⟨rfl,ih r⟩
       exact key _ _
      ·show zaP _ (zdY mem fo2).length _
       rw [hMl]
       simp [AV.bare,zal,zaP,zaS,zak,zau,zag,tokz1,lk,zab,za4,show 0 < mem.length by omega,show 5 < mem.length by omega,show 6 < mem.length by omega,show 7 < mem.length by omega]
       omega
   ·have c1:decide (((frm + k:Nat):Int) ≤ (y.hires.length:Int) - ((m + 1:Nat):Int)) = false:=by simp; omega
    simp (maxSteps:=4000000) only [go_sem,AV.one,zae,zac,zad,zap,zas,czb,cza,↓reduceIte,zaV,zbh,zaa,zao,onz,g0,g2,c1,hml2]
    have hnone:zc2 (zfC ⟨y,K⟩) y.hires.length (m + 1) out frm = none:=znS fun j hj => hno j (by omega)
    have hMok:=hL.ok
    rw [hLl] at hMok
    rw [cze (by omega)]
    exact ⟨(by simp only [InR]; omega),⟨fo,hmm.symm,by rw [hnone]; rfl,fun x hx => by rw [hnone] at hx; cases hx⟩,trivial,hMok⟩
def zn7 (y:Yd) (S:Nat → Prop):Prop:=∃ p ∈ zaC y.t,∀ k,k < y.hires.length → S k → zcx y p k = true
theorem psY {y:Yd} (hv:VY y):PS y.hires.length (zn7 y) (allY y) (zfC ⟨y,zgm y⟩):=by
 refine ⟨fun S T h => ?_,fun S h => ?_,fun m hm => ?_,fun l => ?_⟩
 ·rintro ⟨p,hp,hr⟩
  exact ⟨p,hp,fun k hk hT => hr k hk (h k hk hT)⟩
 ·obtain ⟨p,hp⟩:=List.exists_mem_of_ne_nil _ hv.tr
  exact ⟨p,hp,fun k hk hS => absurd hS (h k hk)⟩
 ·unfold canB allY zn7 bitsY
  rw [List.any_eq_true]
  have key:∀ p,((((rbp (zcx y p) y.hires.length:Nat):Int).toNat &&& (m:Int).toNat:Nat):Int) = (m:Int) ↔ ∀ k,k < y.hires.length → m.testBit k = true → zcx y p k = true:=by
   intro p
   rw [czF,czF,Int.natCast_inj,zna]
   constructor
   ·intro h k hk hb
    have:=h k hb
    rw [zhL] at this
    simp at this
    exact this.2
   ·intro h k hb
    have hk:=zeK hm hb
    rw [zhL,h k hk hb]
    simpa using hk
  constructor
  ·rintro ⟨x,hx,hd⟩
   obtain ⟨p,hp,rfl⟩:=czx.1 hx
   exact ⟨p,hp,(key p).1 (by simpa using hd)⟩
  ·rintro ⟨p,hp,hr⟩
   exact ⟨_,czx.2 ⟨p,hp,rfl⟩,by simpa using (key p).2 hr⟩
 ·have h:=zoR hv y.hires.length (zbQ l)
  rw [cutY_all] at h
  rw [h]
  unfold zvx zn7
  rw [Nat.min_self,List.any_eq_true]
  have hc:∀ k:Nat,(zbQ l).contains (k:Int) = true ↔ k ∈ l:=fun k => by
   unfold zbQ
   rw [List.contains_iff_mem,czx]
   constructor
   ·rintro ⟨a,ha,e⟩
    have:a = k:=by omega
    rw [← this]; exact ha
   ·intro h; exact ⟨k,h,rfl⟩
  constructor
  ·rintro ⟨p,hp,h⟩
   refine ⟨p,hp,fun k hk hno => ?_⟩
   have:=(czG.1 h) k (List.mem_range.2 hk)
   rw [czI,hc] at this
   exact this.resolve_left hno
  ·rintro ⟨p,hp,h⟩
   refine ⟨p,hp,czG.2 fun k hk => ?_⟩
   rw [czI,hc]
   by_cases e:k ∈ l
   ·exact .inl e
   ·exact .inr (h k (List.mem_range.1 hk) e)
def zf0 (y:Yd):List Int × Int:=if zbB y = 0 then (zhz (allY y) (2 ^ y.hires.length - 1) (2 ^ y.hires.length),0) else ([],zbB y)
theorem ztm (y:Yd) (h:y.t.heights.length ≤ 4096 ∧ y.order.length ≤ 4096):zaU Tryz.prog 45 [Enc.enc y] (· = Enc.enc (zf0 y)):=by
 simp only [zaa,ydC]
 unfold zf0
 by_cases c:zbB y = 0
 case neg =>
  rw [if_neg c]
  simp only [zbY]
  refine cpz zlP Tryz.func45 zaF ?_
  rw [Tryz.ntmps45]
  simp only [Tryz.f45,zah,zaq]
  refine zlU fun Q0 hQ0 => ?_
  refine zar fun Q1 h1 => ?_
  simp (maxSteps:=4000000) only [go_sem,zae,zac,zad,zap,zas,zab,czb,cza,↓reduceIte,zaV,zbh,zaa,zao,onz]
  all_goals (repeat' first | (with_reducible first | rfl | apply And.intro | assumption) | ((with_reducible show zaf _ _ = true); rfl)) <;> try first | omega | (simp only [InR]; omega)
  rw [h1]; clear h1 Q1; simp only [zaG,zan]
  refine zar fun Q1 h1 => ?_
  simp (maxSteps:=4000000) only [go_sem,zae,zac,zad,zap,zas,zab,czb,cza,↓reduceIte,zaV,zbh,zaa,zao,onz]
  refine ⟨_,zem y h c (zc6 ⟨zcf y _,trivial⟩),?_⟩
  rintro r m ⟨rfl,rfl⟩ _
  simp (maxSteps:=4000000) only [go_sem,zae,zac,zad,zap,zas,zab,czb,cza,↓reduceIte,zaV,zbh,zaa,zao,onz]
  rw [h1]; clear h1 Q1
  simp only [zaG,zan]
  simp (maxSteps:=4000000) only [go_sem,zae,zac,zad,zap,zas,zab,czb,cza,↓reduceIte,zaV,zbh,zaa,zao,onz,c,hQ0,decide_true,decide_false]
 case pos =>
 rw [if_pos c]
 have hv:=zhG c
 have hcl:=zfN hv
 have hr5:=hv.r5
 obtain ⟨x0,hx1,hx2,hx3⟩:=zwb (psY hv)
 rw [hx2]
 simp only [zbY]
 refine cpz zlP Tryz.func45 zaF ?_
 rw [Tryz.ntmps45]
 simp only [Tryz.f45,zah,zaq]
 refine zlU fun Q0 hQ0 => ?_
 refine zar fun Q1 h1 => ?_
 simp (maxSteps:=4000000) only [go_sem,zae,zac,zad,zap,zas,zab,czb,cza,↓reduceIte,zaV,zbh,zaa,zao,onz]
 all_goals (repeat' first | (with_reducible first | rfl | apply And.intro | assumption) | ((with_reducible show zaf _ _ = true); rfl)) <;> try first | omega | (simp only [InR]; omega)
 rw [h1]; clear h1 Q1; simp only [zaG,zan]
 refine zar fun Q1 h1 => ?_
 simp (maxSteps:=4000000) only [go_sem,zae,zac,zad,zap,zas,zab,czb,cza,↓reduceIte,zaV,zbh,zaa,zao,onz]
 refine ⟨_,zeT y hv (zc6 ⟨zcf y _,trivial⟩),?_⟩
 rintro r m ⟨rfl,rfl⟩ _
 unfold zcH
 simp (maxSteps:=4000000) only [go_sem,zae,zac,zad,zap,zas,zab,czb,cza,↓reduceIte,zaV,zbh,zaa,zao,onz]
 rw [h1]; clear h1 Q1
 simp only [zaG,zan]
 have hsw:(zbd y).map (zbP y.t) = zgm y:=rfl
 have hsl:(zbd y).length = (zgm y).length:=by simp [zgm]
 rw [hsw,hsl]
 rw [hsl] at hcl
 have hys:∀ s ∈ zgm y,YS y s:=fun s hs => askW hv s hs
 have hvb:∀ k st,zcd k (.vec ((zgm y).map EncE.cs) 2 st):=fun k st => by
  have:=zj5 (zgm y) 0 k st
  simpa using this
 obtain ⟨K,hK⟩:∃ K,zgm y = K:=⟨_,rfl⟩
 rw [hK] at hys hvb hcl hx1 ⊢
 have hw:zxx ⟨y,K⟩:=⟨hv,hys,hcl⟩
 iterate 2 (
  refine zar fun Q1 h1 => ?_
  simp (maxSteps:=4000000) only [go_sem,zae,zac,zad,zap,zas,zab,czb,cza,↓reduceIte,zaV,zbh,zaa,zao,onz,decide_true,decide_false]
  all_goals (repeat' first | (with_reducible first | rfl | apply And.intro | assumption) | ((with_reducible show zaf _ _ = true); rfl)) <;> try first | omega | (simp only [InR]; omega)
  rw [h1]; clear h1 Q1; simp only [zaG,zan])
 iterate 3 (
  refine zar fun Q1 h1 => ?_
  simp (maxSteps:=4000000) only [go_sem,zae,zac,zad,zap,zas,zab,czb,cza,↓reduceIte,zaV,zbh,zaa,zao,onz,decide_true,decide_false]
  all_goals (repeat' first | (with_reducible first | rfl | apply And.intro | assumption) | ((with_reducible show zaf _ _ = true); rfl)) <;> try first | omega | (simp only [InR]; omega)
  rw [h1]; clear h1 Q1; simp only [zaG,zan])
 simp (maxSteps:=4000000) only [go_sem,zae,zac,zad,zap,zas,zab,czb,cza,↓reduceIte,zaV,zbh,zaa,zao,onz,hQ0]
 all_goals (repeat' first | (with_reducible first | rfl | apply And.intro | assumption) | ((with_reducible show zaf _ _ = true); rfl)) <;> try first | omega | (simp only [InR]; omega)
 refine zk6 [] [2,3,6,7,21] (fun b:Nat × Option (List Int) => [(22,.int .i64 b.1)]) (fun b m => zdY m b.2) (fun b => b.1 ≤ y.hires.length + 1 ∧ zhP (zfC ⟨y,K⟩) y.hires.length (y.hires.length + 1 - b.1) b.1 = some x0) (fun b => y.hires.length + 1 - b.1) ((0,none)) ?_ ?_ ?_
 ·exact ⟨Nat.zero_le _,hx1⟩
 ·simp [AV.bare,zal,zaP,zaS,zak,zau,zag,tokz1,lk,zab,za4,zdY,-List.map_map]
  try exact fun e he c hc => hvb 8 K.length e he c hc
 ·rintro ⟨k,fo⟩ ⟨hk,hI⟩
  simp only at hk hI
  simp only [zcn,zag]
  have hm:LvM8 y K [yC y,yC y,.cells [.int .i64 y.t.last,.sl (y.t.heights.map EncE.cs) .no,.int .i64 y.t.step,.sl (y.t.levels.map EncE.cs) .no,.sl (y.t.marks.map EncE.cs) .no,.int .i64 y.hands,.sl (y.chairs.map EncE.cs) .no,.sl (y.order.map EncE.cs) .no,.sl (y.hires.map EncE.cs) .no,.vec 4 K.length 0 K.length 2],
    .cells [.ptr 2 0],.vec (K.map EncE.cs) 2 K.length,.cells [.ptr 2 0],.cells [.sl [] .full],.cells [.fn (.func 110) [] [.ptr 6 0,.ptr 5 0,.ptr 0 0,.ptr 7 0]]]:=by
   refine ⟨by simp,rfl,rfl,rfl,rfl,rfl,zc6 ⟨zcf y _,zcf y _,by simp [AV.bare,zal,zaP,zaS,zak,zau,zag,tokz1,lk,zab,za4,-List.map_map],by simp [AV.bare,zal,zaP,zaS,zak,zau,zag,tokz1,lk,zab,za4],hvb _ _,by simp [AV.bare,zal,zaP,zaS,zak,zau,zag,tokz1,lk,zab,za4],by simp [AV.bare,zal,zaP,zaS,zak,zau,zag,tokz1,lk,zab,za4],by simp [AV.bare,zal,zaP,zaS,zak,zau,zag,tokz1,lk,zab,za4],trivial⟩,_,rfl⟩
  unfold yC at hm
  obtain ⟨hL,hLl,hLs⟩:=ziz hm fo
  have hm':=hm
  generalize hmm:zdY _ fo = mm at hL hLl hLs ⊢
  have g0:=hL.m0
  have g7:=hL.m7
  have g3:=hL.len
  by_cases hkN:k < y.hires.length + 1
  ·have c1:decide ((k:Int) < (y.hires.length:Int) + 1) = true:=by simp; omega
   have hcall:=zqV hw k [] 0 mm hL (by simp; omega) (by omega)
   simp (maxSteps:=4000000) only [go_sem,zae,zac,zad,zap,zas,czb,cza,↓reduceIte,zaV,zbh,zaa,zao,onz,g0,g7,c1]
   refine ⟨_,zbK (zwI hcall),?_⟩
   rintro r mem' ⟨r0,rfl,⟨fo',rfl,rfl,hf⟩,hlen2⟩ _
   obtain ⟨fo2,hp1,hp2⟩:=zk2 hmm g3 hLs [] fo'
   rw [List.append_nil,List.append_nil] at hp1
   rw [hp1]
   rw [show y.hires.length + 1 - k = (y.hires.length - k) + 1 by omega,zhP] at hI
   cases c2:zc2 (zfC ⟨y,K⟩) y.hires.length k [] 0 with
   | some x =>
    rw [c2] at hI
    cases hI
    have:=hp2 _ (hf x0 c2)
    subst this
    simp (maxSteps:=4000000) only [go_sem,zae,zac,zad,zap,zas,zab,czb,cza,↓reduceIte,zaV,zbh,zaa,zao,onz,zdY]
    all_goals (repeat' first | (with_reducible first | rfl | apply And.intro | assumption) | ((with_reducible show zaf _ _ = true); rfl)) <;> try first | omega | (simp only [InR]; omega)
   | none =>
    rw [c2] at hI
    simp (maxSteps:=4000000) only [go_sem,zae,zac,zad,zap,zas,czb,cza,↓reduceIte,zaV,zbh,zaa,zao,onz]
    obtain ⟨hM,hMl,_⟩:=ziz hm' fo2
    refine ⟨(by simp only [InR]; omega),(k + 1,fo2),⟨by dsimp only; omega,?_⟩,by dsimp only; omega,?_⟩
    ·rw [show y.hires.length + 1 - (k + 1) = y.hires.length - k by omega]; exact hI
    ·refine zbo ⟨rfl,rfl,rfl,Nat.zero_le _,za1 _,?_,zbx hM.ok,trivial⟩
     show zaP _ (zdY _ fo2).length _
     rw [hMl]
     simp [AV.bare,zal,zaP,zaS,zak,zau,zag,tokz1,lk,zab,za4,-List.map_map]
  ·exfalso
   rw [show y.hires.length + 1 - k = 0 by omega,zhP] at hI
   cases hI
def P139 (g:FuncId):=(zax 45 (zcU (fun y:Yd => y.t.heights.length ≤ 4096 ∧ y.order.length ≤ 4096) zf0) (P138):zaN) g
theorem P139_ok:zaD Tryz.prog P139:=zaj (zbm ztm) (zlP)
theorem zql (d:Option Nat):zaK P139 d = none:=(zai (by decide) d).trans (zqm d)
attribute [go_sem] P139 zql
end Go.Proofs
