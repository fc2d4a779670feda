/- The texts H20, H21, H22, H23, H24, H25, H26, joined. -/
import Derived.Test.YtilbconikmpadaaGreatG16
set_option linter.all false
namespace Go.Proofs
open Go.Fs
set_option maxHeartbeats 4000000
set_option maxRecDepth 8000
structure FnP where
 w:W8
 out:List Int
instance:Enc FnP where
 enc f:=.fn (.func 145) [] [.ref [.ref (w8C f.w) 0] 0,.ref [.sl (f.out.map EncE.cs) .no] 0]
 dec
  | .fn (.func g) [] [.ref [.ref a 0] 0,.ref [.sl o .no] 0] =>
   if g = 145 then
    match znm a,(zdH o:Option (List Int)) with
    | some w,some o => some ⟨w,o⟩
    | _,_ => none
   else none
  | _ => none
 law v x h:=by
  split at h
  ·split at h
   ·rename_i e
    split at h
    ·rename_i h1 h2
     cases h
     rw [e,zir h1,zbt _ _ h2]
    ·cases h
   ·cases h
  ·cases h
 dep:=7
 ok x:=by
  have h1:∀ c ∈ w8C x.w,zbq 4 c:=fun c hc => zfI 3 4 c (zjA x.w c hc) (by omega)
  refine ⟨fun _ h => (by cases h),?_⟩
  intro c hc
  simp only [czn,czk,or_false] at hc
  rcases hc with rfl | rfl
  ·intro c hc
   simp only [czn,czk,or_false] at hc
   subst hc
   exact h1
  ·intro c hc
   simp only [czn,czk,or_false] at hc
   subst hc
   refine ⟨rfl,fun e he c hc => ?_⟩
   obtain ⟨x,_,rfl⟩:=czx.1 he
   exact zfI 1 4 c (EncE.ok x c hc) (by omega)
theorem zgC (f:FnP):Enc.enc f = .fn (.func 145) [] [.ref [.ref (w8C f.w) 0] 0,.ref [.sl (f.out.map EncE.cs) .no] 0]:=rfl
theorem zgF (w:W8) (o:List Int):(Enc.dec (.fn (.func 145) [] [.ref [.ref [.int .i64 w.y.t.last,.sl (w.y.t.heights.map EncE.cs) .no,.int .i64 w.y.t.step,.sl (w.y.t.levels.map EncE.cs) .no,.sl (w.y.t.marks.map EncE.cs) .no,
 .int .i64 w.y.hands,.sl (w.y.chairs.map EncE.cs) .no,.sl (w.y.order.map EncE.cs) .no,.sl (w.y.hires.map EncE.cs) .no,.sl (w.ts.map EncE.cs) .no] 0] 0,.ref [.sl (o.map EncE.cs) .no] 0]):Option FnP) = some ⟨w,o⟩:=by
 have e1:=zrR w
 have e2:=zdq o
 rw [w8C] at e1
 simp only [Enc.dec,if_true,e1,e2]
def zgr (f:FnP) (s:Sea):Bool:=zcp f.w.y s f.out
theorem zqV (s:Sea) (w:RefC W8) (o:RefC (List Int)) (h:YS w.x.y s ∧ o.x.length ≤ 4096):zaQ Tryz.prog 145 [Enc.enc s,Enc.enc w,Enc.enc o] (· = Enc.enc (zgr ⟨w.x,o.x⟩ s)):=by
 obtain ⟨w⟩:=w
 obtain ⟨o⟩:=o
 obtain ⟨h1,h2⟩:=h
 dsimp only at h1 h2
 unfold zgr
 simp only [zeu,zbe,w8C]
 simp only [zbz]
 refine cpz P133_ok Tryz.func145 zaD ?_
 rw [Tryz.ntmps145]
 simp only [Tryz.f145,zag,zap]
 simp (maxSteps:=4000000) only [go_sem,AV.one,zae,zac,zad,zaq,zas,zab,czb,cza,↓reduceIte,zaU,zgF,zbe,zgC,zaa,onz]
 all_goals exact auz
def P134 (g:FuncId):=(zaw 145 (zd1 (fun (s:Sea) (w:RefC W8) (o:RefC (List Int)) => YS w.x.y s ∧ o.x.length ≤ 4096) (fun s w o => zgr ⟨w.x,o.x⟩ s)) (P133):zaL) g
theorem P134_ok:zaC Tryz.prog P134:=zaj (zbY zqV) (P133_ok)
theorem zpP (d:Option Nat):zaI P134 d = none:=(zai (by decide) d).trans (zpQ d)
attribute [go_sem] P134 zpP
theorem zqW (l:List Sea) (f:FnP) (h:(l.length ≤ 4096 ∧ f.out.length ≤ 4096) ∧ ∀ s ∈ l,YS f.w.y s):zaQ Tryz.prog 164 [Enc.enc l,Enc.enc f] (· = Enc.enc (zbr (zgr f) l l.length 0)):=by
 obtain ⟨w,out⟩:=f
 obtain ⟨⟨h1,h1'⟩,h2⟩:=h
 dsimp only at h2 h1'
 have hd:=zaU w
 simp only [zgC,w8C]
 simp only [zbz]
 refine cpz P134_ok Tryz.func164 zaD ?_
 rw [Tryz.ntmps164]
 simp only [Tryz.f164,zag,zap]
 simp (maxSteps:=4000000) only [go_sem,AV.one,zae,zac,zad,zaq,zas,zab,czb,cza,↓reduceIte,zaU,zgF,zbe,zgC,zaa,onz]
 refine zbv (l.length) [] [0,1,4,7] (fun i => [(8,.int .i64 i)]) (fun _ m => m) (fun i => zbr (zgr ⟨w,out⟩) l (l.length - i) i = zbr (zgr ⟨w,out⟩) l l.length 0) ?_ ?_ ?_ ?_
 ·rfl
 ·simp [AV.bare,zal,zaN,zaS,zak,zat,zah,tokz1,lk,zab,za2]
 ·intro i hi hI
  have hp:=h2 _ (zbh hi)
  rw [show l.length - i = (l.length - (i + 1)) + 1 by omega,zbr] at hI
  cases c:zgr ⟨w,out⟩ (at_ l i) <;>
   simp (maxSteps:=4000000) only [go_sem,AV.one,zae,zac,zad,zaq,zas,zab,czb,cza,↓reduceIte,zaU,zgF,zbe,zgC,zaa,onz,zax hi,czH.2 hi,c,hd]
  all_goals all_goals (repeat' first | (with_reducible first | rfl | apply And.intro | assumption) | ((with_reducible show zaf _ _ = true); rfl)) <;> try first | omega | (simp only [InR]; omega)
  ·rw [c] at hI
   refine nxt hi hI ?_
   simp [AV.bare,zal,zaN,zaS,zak,zat,zah,tokz1,lk,zab,za2]
  ·rw [c] at hI
   rw [← hI]; rfl
 ·intro hI
  simp (maxSteps:=4000000) only [go_sem,AV.one,zae,zac,zad,zaq,zas,zab,czb,cza,↓reduceIte,zaU,zgF,zbe,zgC,zaa,onz]
  rw [← hI]; simp [zbr]
def P135 (g:FuncId):=(zaw 164 (zbC (fun (l:List Sea) (f:FnP) => (l.length ≤ 4096 ∧ f.out.length ≤ 4096) ∧ ∀ s ∈ l,YS f.w.y s) (fun l f => zbr (zgr f) l l.length 0)) (P134):zaL) g
theorem P135_ok:zaC Tryz.prog P135:=zaj (zaM zqW) (P134_ok)
theorem zpO (d:Option Nat):zaI P135 d = none:=(zai (by decide) d).trans (zpP d)
attribute [go_sem] P135 zpO
theorem zvx {α:Type} [Inhabited α] (p:α → Bool) (l:List α):decide (0 ≤ zbr p l l.length 0) = l.any p:=by
 rcases zht p l l.length 0 (by omega) with ⟨h1,h2⟩ | ⟨k,h1,_,h3,h4,_⟩
 ·rw [h1]
  symm
  have:l.any p = false:=by
   rw [List.any_eq_false]
   intro x hx
   obtain ⟨k,hk,e⟩:=List.mem_iff_getElem.1 hx
   have:=h2 k (Nat.zero_le _) hk
   rw [zdm hk,e] at this
   simp [this]
  rw [this]
  decide
 ·rw [h1]
  symm
  have:l.any p = true:=List.any_eq_true.2 ⟨at_ l k,zbh h3,h4⟩
  rw [this]
  simp
theorem zqX (l:List Sea) (f:FnP) (h:(l.length ≤ 4096 ∧ f.out.length ≤ 4096) ∧ ∀ s ∈ l,YS f.w.y s):zaQ Tryz.prog 144 [Enc.enc l,Enc.enc f] (· = Enc.enc (l.any (zgr f))):=by
 obtain ⟨w,out⟩:=f
 obtain ⟨⟨h1,h1'⟩,h2⟩:=h
 dsimp only at h2 h1'
 have hd:=zgF w out
 rw [← zvx]
 simp only [zgC,w8C]
 simp only [zbz]
 refine cpz P135_ok Tryz.func144 zaD ?_
 rw [Tryz.ntmps144]
 simp only [Tryz.f144,zag,zap]
 simp (maxSteps:=4000000) only [go_sem,AV.one,zae,zac,zad,zaq,zas,zab,czb,cza,↓reduceIte,zaU,zgF,zbe,zgC,zaa,onz,hd]
 all_goals exact auz
def P136 (g:FuncId):=(zaw 144 (zbC (fun (l:List Sea) (f:FnP) => (l.length ≤ 4096 ∧ f.out.length ≤ 4096) ∧ ∀ s ∈ l,YS f.w.y s) (fun l f => l.any (zgr f))) (P135):zaL) g
theorem P136_ok:zaC Tryz.prog P136:=zaj (zaM zqX) (P135_ok)
theorem zpN (d:Option Nat):zaI P136 d = none:=(zai (by decide) d).trans (zpO d)
attribute [go_sem] P136 zpN
def zfo (w:W8) (out:List Int):Bool:=w.ts.any fun s => zcp w.y s out
theorem zmU (w:W8) (out:List Int) (h:(w.ts.length ≤ 4096 ∧ out.length ≤ 4096) ∧ ∀ s ∈ w.ts,YS w.y s):zaQ Tryz.prog 109 [Enc.enc w,Enc.enc out] (· = Enc.enc (zfo w out)):=by
 obtain ⟨⟨h1,h1'⟩,h2⟩:=h
 have hd:=zgF w out
 have hp:w.ts.any (zgr ⟨w,out⟩) = zfo w out:=rfl
 simp only [zbe,w8C]
 simp only [zbz]
 refine cpz P136_ok Tryz.func109 zaD ?_
 rw [Tryz.ntmps109]
 simp only [Tryz.f109,zag,zap]
 simp (maxSteps:=4000000) only [go_sem,AV.one,zae,zac,zad,zaq,zas,zab,czb,cza,↓reduceIte,zaU,zgF,zbe,zgC,zaa,onz,hd,hp]
 all_goals exact auz
def P137 (g:FuncId):=(zaw 109 (zbC (fun (w:W8) (out:List Int) => (w.ts.length ≤ 4096 ∧ out.length ≤ 4096) ∧ ∀ s ∈ w.ts,YS w.y s) zfo) (P136):zaL) g
theorem zsx:zaC Tryz.prog P137:=zaj (zaM zmU) (P136_ok)
theorem zpM (d:Option Nat):zaI P137 d = none:=(zai (by decide) d).trans (zpN d)
attribute [go_sem] P137 zpM
def zo2 (y:Yd) (n:Nat):Yd:={ y with hires:=y.hires.take n }
theorem cutY_ok {y:Yd} (h:VY y) (n:Nat):VY (zo2 y n) :=
 ⟨h.c5,by have:=h.r5; unfold zo2; simp; omega,h.f,h.tr,h.h0,h.h5,h.ord,h.ch,fun x hx => h.hi x (List.mem_of_mem_take hx)⟩
def zf7 (y:Yd):List Sea:=(zba y).map (zbH y.t)
def zgA (y:Yd):Nat → Nat → Int × Int
 | 0,_ => (0,7)
 | f + 1,n => if zfo ⟨zo2 y (n + 1),zf7 y⟩ [] then zgA y f (n + 1) else (n,0)
def zfc (y:Yd):Int × Int:=if za9 y = 0 then zgA y y.hires.length 0 else (0,za9 y)
def zry (y:Yd) (i:Nat):List Rg:=if i = 0 then y.hires else y.hires.take i
theorem zsH (y:Yd) (h:y.t.heights.length ≤ 4096 ∧ y.order.length ≤ 4096):zaQ Tryz.prog 44 [Enc.enc y] (· = Enc.enc (zfc y)):=by
 simp only [zaa,ydC]
 unfold zfc
 by_cases c:za9 y = 0
 case neg =>
  rw [if_neg c]
  simp only [zbz]
  refine cpz zsx Tryz.func44 zaD ?_
  rw [Tryz.ntmps44]
  simp only [Tryz.f44,zag,zap]
  refine zlC fun Q0 hQ0 => ?_
  refine zar fun Q1 h1 => ?_
  simp (maxSteps:=4000000) only [go_sem,zae,zac,zad,zaq,zas,zab,czb,cza,↓reduceIte,zaU,zbe,zaa,onz]
  all_goals (repeat' first | (with_reducible first | rfl | apply And.intro | assumption) | ((with_reducible show zaf _ _ = true); rfl)) <;> try first | omega | (simp only [InR]; omega)
  rw [h1]; clear h1 Q1; simp only [zaE,zam]
  refine zar fun Q1 h1 => ?_
  simp (maxSteps:=4000000) only [go_sem,zae,zac,zad,zaq,zas,zab,czb,cza,↓reduceIte,zaU,zbe,zaa,onz]
  refine ⟨_,zea y h c (zcU ⟨zb8 y _,trivial⟩),?_⟩
  rintro r m ⟨rfl,rfl⟩ _
  simp (maxSteps:=4000000) only [go_sem,zae,zac,zad,zaq,zas,zab,czb,cza,↓reduceIte,zaU,zbe,zaa,onz]
  rw [h1]; clear h1 Q1
  simp only [zaE,zam]
  simp (maxSteps:=4000000) only [go_sem,zae,zac,zad,zaq,zas,zab,czb,cza,↓reduceIte,zaU,zbe,zaa,onz,c,hQ0,decide_true,decide_false]
 case pos =>
 rw [if_pos c]
 have hv:=zg9 c
 have hcl:=zfz hv
 have hr5:=hv.r5
 simp only [zbz]
 refine cpz zsx Tryz.func44 zaD ?_
 rw [Tryz.ntmps44]
 simp only [Tryz.f44,zag,zap]
 refine zlC fun Q0 hQ0 => ?_
 refine zar fun Q1 h1 => ?_
 simp (maxSteps:=4000000) only [go_sem,zae,zac,zad,zaq,zas,zab,czb,cza,↓reduceIte,zaU,zbe,zaa,onz]
 all_goals (repeat' first | (with_reducible first | rfl | apply And.intro | assumption) | ((with_reducible show zaf _ _ = true); rfl)) <;> try first | omega | (simp only [InR]; omega)
 rw [h1]; clear h1 Q1; simp only [zaE,zam]
 refine zar fun Q1 h1 => ?_
 simp (maxSteps:=4000000) only [go_sem,zae,zac,zad,zaq,zas,zab,czb,cza,↓reduceIte,zaU,zbe,zaa,onz]
 refine ⟨_,zeB y hv (zcU ⟨zb8 y _,trivial⟩),?_⟩
 rintro r m ⟨rfl,rfl⟩ _
 unfold zcu
 simp (maxSteps:=4000000) only [go_sem,zae,zac,zad,zaq,zas,zab,czb,cza,↓reduceIte,zaU,zbe,zaa,onz]
 rw [h1]; clear h1 Q1
 simp only [zaE,zam]
 have hsw:(zba y).map (zbH y.t) = zf7 y:=rfl
 have hsl:(zba y).length = (zf7 y).length:=by simp [zf7]
 rw [hsw,hsl]
 rw [hsl] at hcl
 have hys:∀ s ∈ zf7 y,YS y s:=fun s hs => askW hv s hs
 have hvb:∀ k st,zb6 k (.vec ((zf7 y).map EncE.cs) 2 st):=fun k st => by
  have:=zjB (zf7 y) 0 k st
  simpa using this
 obtain ⟨K,hK⟩:∃ K,zf7 y = K:=⟨_,rfl⟩
 have htk:(K.map (EncE.cs (α:=Sea))).take K.length = K.map EncE.cs:=cze (by simp)
 iterate 3 (
  refine zar fun Q1 h1 => ?_
  simp (maxSteps:=4000000) only [go_sem,zae,zac,zad,zaq,zas,zab,czb,cza,↓reduceIte,zaU,zbe,zaa,onz,decide_true,decide_false]
  all_goals (repeat' first | (with_reducible first | rfl | apply And.intro | assumption) | ((with_reducible show zaf _ _ = true); rfl)) <;> try first | omega | (simp only [InR]; omega)
  rw [h1]; clear h1 Q1; simp only [zaE,zam])
 refine zar fun Q2 h2 => ?_
 rw [ze1]
 rw [hK] at hys hvb hcl ⊢
 simp (maxSteps:=4000000) only [go_sem,zae,zac,zad,zaq,zas,zab,czb,cza,↓reduceIte,zaU,zbe,zaa,onz]
 refine zbv (y.hires.length) [] [1,2,3,4,17] (fun i => [(18,.int .i64 i)]) (fun i m => m.set 2 (.cells [.int .i64 y.t.last,.sl (y.t.heights.map EncE.cs) .no,.int .i64 y.t.step,.sl (y.t.levels.map EncE.cs) .no,.sl (y.t.marks.map EncE.cs) .no,.int .i64 y.hands,.sl (y.chairs.map EncE.cs) .no,.sl (y.order.map EncE.cs) .no,.sl ((zry y i).map EncE.cs) .no,.vec 4 K.length 0 K.length 2])) (fun i => zgA y (y.hires.length - i) i = zgA y y.hires.length 0) ?_ ?_ ?_ ?_
 ·rfl
 ·simp [AV.bare,zal,zaN,zaS,zak,zat,zah,tokz1,lk,zab,za2,zry]
 ·intro i hi hI
  rw [show y.hires.length - i = (y.hires.length - (i + 1)) + 1 by omega,zgA,hK] at hI
  have hi':=czH.2 hi
  have e1:((i:Int) + 1 - 0).toNat = i + 1:=by omega
  have hys':∀ s ∈ K,YS (zo2 y (i + 1)) s:=fun s hs => ⟨cutY_ok hv _,(hys s hs).rl⟩
  obtain ⟨W,hW⟩:∃ W:W8,⟨zo2 y (i + 1),K⟩ = W:=⟨_,rfl⟩
  have hdw:=(zaU ⟨zo2 y (i + 1),K⟩).trans (congrArg some hW)
  simp only [zo2] at hdw
  have hW1:W.ts.length ≤ 4096:=by rw [← hW]; exact hcl
  have hW2:∀ s ∈ W.ts,YS W.y s:=by rw [← hW]; exact hys'
  rw [hW] at hI
  cases c2:zfo W [] <;>
   simp (maxSteps:=4000000) only [go_sem,zae,zac,zad,zaq,zas,zab,czb,cza,↓reduceIte,zaU,zbe,zaa,onz,hi',e1,zhI,htk,hdw,c2]
  all_goals all_goals (repeat' first | (with_reducible first | rfl | apply And.intro | assumption) | ((with_reducible show zaf _ _ = true); rfl)) <;> try first | omega | (simp only [InR]; omega)
  ·rw [c2,if_neg (by simp)] at hI
   rw [h2]
   simp (maxSteps:=4000000) only [go_sem,zae,zac,zad,zaq,zas,zab,czb,cza,↓reduceIte,zaU,zbe,zaa,onz,hQ0]
   rw [← hI]
  ·rw [c2,if_pos rfl] at hI
   refine nxt hi hI ?_
   simp [AV.bare,zal,zaN,zaS,zak,zat,zah,tokz1,lk,zab,za2,zry,-List.map_take]
 ·intro hI
  simp (maxSteps:=4000000) only [go_sem,zae,zac,zad,zaq,zas,zab,czb,cza,↓reduceIte,zaU,zbe,zaa,onz]
  rw [h2]
  simp only [zaE]
  simp (maxSteps:=4000000) only [go_sem,zae,zac,zad,zaq,zas,zab,czb,cza,↓reduceIte,zaU,zbe,zaa,onz,hQ0]
  rw [← hI]; simp [zgA]
def P138 (g:FuncId):=(zaw 44 (zct (fun y:Yd => y.t.heights.length ≤ 4096 ∧ y.order.length ≤ 4096) zfc) (P137):zaL) g
theorem zlc:zaC Tryz.prog P138:=zaj (zbf zsH) (zsx)
theorem zpL (d:Option Nat):zaI P138 d = none:=(zai (by decide) d).trans (zpM d)
attribute [go_sem] P138 zpL
theorem rotB8_eq {y:Yd} (hv:VY y) {hs o:List Int} (hl:hs.length = hrs y) {c:Nat} (hc:c < y.chairs.length):zjq y (zbH y.t hs) c (zb1 y o c) = decide ((zlg y o hs c:Int) ≤ y.t.last):=by
 unfold zjq
 rw [zgg hv hl (by omega) (by omega),zkj]
theorem lossN_eq {y:Yd} (hv:VY y) {hs o:List Int} (hl:hs.length = hrs y) {k:Nat} (hk:k ≤ y.chairs.length):zf8 y (zbH y.t hs) o k = zdM y o hs k:=by
 unfold zf8 zdM
 congr 2
 apply List.filter_congr
 intro c hc
 have:=List.mem_range.1 hc
 exact rotB8_eq hv hl (by omega)
theorem zoF {y:Yd} (hv:VY y) {hs o:List Int} (hl:hs.length = hrs y):zf8 y (zbH y.t hs) o y.chairs.length = zbR y o hs:=lossN_eq hv hl (czf _)
theorem zoE {y:Yd} (hv:VY y) (ps:List (List Int)) (hp:∀ p ∈ ps,p.length = hrs y) (o:List Int):∀ n,n ≤ ps.length →
  (zcf y (ps.map (zbH y.t)) o n).1 = (ps.take n).foldl (fun m hs => max m (zbR y o hs)) (-1)
 | 0,_ => by simp [zcf]
 | n + 1,h => by
  have ih:=zoE hv ps hp o n (by omega)
  have hn:n < ps.length:=by omega
  rw [zaW hn,List.foldl_append,List.foldl_cons,List.foldl_nil,← ih]
  rw [zcf]
  rw [zfY hn,zoF hv (hp _ (zbh hn))]
  split
  ·dsimp only; omega
  ·omega
theorem zoD {y:Yd} (hv:VY y) (ps:List (List Int)) (hp:∀ p ∈ ps,p.length = hrs y) (o:List Int):∀ n,n ≤ ps.length → 0 < n →
  zbR y o (at_ ps (zcf y (ps.map (zbH y.t)) o n).2.toNat) = (zcf y (ps.map (zbH y.t)) o n).1
 | 0,_,h => by omega
 | n + 1,h,_ => by
  have hn:n < ps.length:=by omega
  have hr:=(zey y o (at_ ps n) y.chairs.length).1
  rw [zcf]
  rw [zfY hn,zoF hv (hp _ (zbh hn))]
  split
  ·dsimp only; rw [czF]
  ·rename_i q
   by_cases e:n = 0
   ·subst e
    simp only [zcf] at q
    unfold zbR at q
    omega
   ·exact zoD hv ps hp o n (by omega) (by omega)
theorem zlp (f:List Int → Int) (h:∀ p,0 ≤ f p):∀ ps:List (List Int),ps ≠ [] → ps.foldl (fun m hs => max m (f hs)) (-1) = ps.foldl (fun m hs => max m (f hs)) 0
 | [],q => absurd rfl q
 | x :: l,_ => by
  have:=h x
  rw [List.foldl_cons,List.foldl_cons,show max (-1) (f x) = max 0 (f x) by omega]
theorem ziO {y:Yd} (hv:VY y) (h:zaV y ≠ []) (o:List Int):(zcf y (wkY y).ts o (wkY y).ts.length).1 = zc2 y (zaV y) o:=by
 have hw:zfi y ≠ []:=fun q => h ((zjx hv).1 q)
 rw [← work_loss hv h o]
 unfold wkY
 dsimp only
 rw [czz,zoE hv (zfi y) (fun p hp => zhF hv hp) o _ (czf _),czm]
 exact zlp _ (fun p => (zey y o p y.chairs.length).1) _ hw
theorem zkv {y:Yd} (hv:VY y) (h:zaV y ≠ []) (o:List Int) :
  (at_ (wkY y).ts (zcf y (wkY y).ts o (wkY y).ts.length).2.toNat).hs ∈ zaV y ∧ zbR y o (at_ (wkY y).ts (zcf y (wkY y).ts o (wkY y).ts.length).2.toNat).hs = zc2 y (zaV y) o:=by
 rw [← ziO hv h o]
 have hp:=zjT hv h
 have hlt:=zti y (wkY y).ts o _ hp
 have hbd:=zh8 y (wkY y).ts o (wkY y).ts.length
 unfold wkY at *
 dsimp only at *
 rw [czz] at *
 have hi:(zcf y ((zfi y).map (zbH y.t)) o (zfi y).length).2.toNat < (zfi y).length:=by omega
 rw [zfY hi]
 exact ⟨zjy hv (zbh hi),zoD hv (zfi y) (fun p hp => zhF hv hp) o _ (czf _) hp⟩
theorem zkQ {y:Yd} (hv:VY y) (h:zaV y ≠ []) (q:Qn8) (o:List Int) {c:Int} (h0:0 ≤ c) (h1:c < y.chairs.length):IsB (fun z => ∃ p ∈ zaV y,q.ask (zdt y o p c) = z) (zdr q (wkY y) o c):=by
 have hp:=zjT hv h
 have hb:=zna (fun s:Sea => q.ask (zfE y s ⟨c,zb1 y o c⟩)) (wkY y).ts (at_ (wkY y).ts 0) (zbh hp)
 refine IsB.congr (r:=zdr q (wkY y) o c) hb fun x => ?_
 constructor
 ·rintro ⟨s,hs,rfl⟩
  obtain ⟨p,hp,rfl⟩:=czx.1 hs
  exact ⟨p,zjy hv hp,by rw [zgg hv (zhF hv hp) h0 h1]⟩
 ·rintro ⟨p,hp,rfl⟩
  obtain ⟨p',hp',hl⟩:=zjS hv hp
  refine ⟨zbH y.t p',czx.2 ⟨p',hp',rfl⟩,?_⟩
  rw [zgg hv (zhF hv hp') h0 h1,zia hl o (by omega)]
theorem zrC (y:Yd) (o p:List Int) (c:Int):(zdt y o p c).free.length ≤ hrs y:=by
 rw [zlP]; exact zim _ _ _ _
theorem zxd {y:Yd} (hv:VY y) (h:zaV y ≠ []) (o:List Int) {c:Int} (h0:0 ≤ c) (h1:c < y.chairs.length):zdr .free (wkY y) o c = zfr y (zaV y) o c:=by
 have hb:=zkQ hv h .free o h0 h1
 have he:=zkA (fun p => (((zdt y o p c).free.length:Nat):Int)) (zaV y) h fun p _ => by
  have:=zrC y o p c
  have:=hv.hrs
  omega
 exact hb.eq he fun x => Iff.rfl
theorem has_can {y:Yd} (o p:List Int) (c:Int) {k:Int} (h0:0 ≤ k) (h1:k.toNat < hrs y):hasR (zdt y o p c) k = if zkN y o p c k.toNat = true then 1 else 0:=by
 unfold hasR
 rw [zg4 o p c h1,show ((k.toNat:Nat):Int) = k by omega]
theorem manyL_all (p:List Int → Bool) (ls:List (List Int)):zgw p ls = ls.length ↔ ∀ a ∈ ls,p a = true:=by
 unfold zgw
 rw [← List.length_filter_eq_length_iff]
 omega
theorem zvh (p:List Int → Bool) (ls:List (List Int)):zgw p ls = 0 ↔ ∀ a ∈ ls,p a = false:=by
 unfold zgw
 constructor
 ·intro h a ha
  have h':(ls.filter p).length = 0:=by omega
  have:=List.eq_nil_of_length_eq_zero h'
  rw [List.filter_eq_nil_iff] at this
  simpa using this a ha
 ·intro h
  have:ls.filter p = []:=List.filter_eq_nil_iff.2 fun a ha => by simp [h a ha]
  rw [this]; rfl
theorem free8_eq {y:Yd} (hv:VY y) (h:zaV y ≠ []) (o:List Int) {c k:Int} (h0:0 ≤ c) (h1:c < y.chairs.length) (k0:0 ≤ k) (k1:k ≤ y.t.last):freeQ (zdr (.has k) (wkY y) o c) = zrD y (zaV y) o c k:=by
 have hh:=hv.hrs
 have hb:=zkQ hv h (.has k) o h0 h1
 have hq:∀ p,Qn8.ask (.has k) (zdt y o p c) = if zkN y o p c k.toNat = true then 1 else 0:=fun p => has_can o p c k0 (by omega)
 obtain ⟨B,hB⟩:∃ B,zdr (.has k) (wkY y) o c = B:=⟨_,rfl⟩
 rw [hB] at hb ⊢
 have hall:∀ p ∈ zaV y,B.lo ≤ (if zkN y o p c k.toNat = true then 1 else 0) ∧ (if zkN y o p c k.toNat = true then (1:Int) else 0) ≤ B.hi:=fun p hp => hb.all _ ⟨p,hp,hq p⟩
 obtain ⟨pl,hpl,el⟩:=hb.lo
 obtain ⟨ph,hph,eh⟩:=hb.hi
 rw [hq] at el eh
 unfold freeQ zrD
 have e1:B.lo = 1 ↔ zgw (fun hs => zkN y o hs c k.toNat) (zaV y) = (zaV y).length:=by
  rw [manyL_all]
  constructor
  ·intro q p hp
   have:=(hall p hp).1
   by_cases d:zkN y o p c k.toNat = true
   ·exact d
   ·rw [if_neg d] at this; omega
  ·intro q
   rw [← el,if_pos (q pl hpl)]
 have e2:B.hi = 0 ↔ zgw (fun hs => zkN y o hs c k.toNat) (zaV y) = 0:=by
  rw [zvh]
  constructor
  ·intro q p hp
   have:=(hall p hp).2
   by_cases d:zkN y o p c k.toNat = true
   ·rw [if_pos d] at this; omega
   ·simpa using d
  ·intro q
   rw [← eh,if_neg (by simp [q ph hph])]
 simp only [e1,e2]
theorem cut_right (y:Yd) (n:Nat) (p:List Int) {k:Nat} (hk:k < n):zcX (zo2 y n) p k = zcX y p k:=by
 have:at_ (zo2 y n).hires k = at_ y.hires k:=by
  unfold zo2 at_
  simp [List.getD,czR,hk]
 unfold zcX
 rw [this]
 rfl
def zuH (y:Yd) (n:Nat) (out:List Int):Bool:=(zaJ y.t).any fun p => (List.range (min n y.hires.length)).all fun k => out.contains (k:Int) || zcX y p k
theorem zvr {y:Yd} (hv:VY y) {p q:List Int} (h:Like y p q) {k:Nat} (hk:k < y.hires.length):zcX y p k = zcX y q k:=by
 have hi:=hv.hi _ (zbh hk)
 have hh:=hv.hrs
 unfold zcX
 rw [zg4 _ _ _ (by omega),zg4 _ _ _ (by omega),zia h y.order (by omega)]
theorem zol {y:Yd} (hv:VY y) (n:Nat) (out:List Int):zfo ⟨zo2 y n,zf7 y⟩ out = zuH y n out:=by
 have key:∀ p ∈ zba y,zcp (zo2 y n) (zbH y.t p) out = (List.range (min n y.hires.length)).all fun k => out.contains (k:Int) || zcX y p k:=fun p hp => by
  have hl:=ziU hv hp
  have h1:=zoc (cutY_ok hv n) (hs:=p) hl out
  have h2:zbH (zo2 y n).t p = zbH y.t p:=rfl
  rw [h2] at h1
  rw [h1]
  have h3:(zo2 y n).hires.length = min n y.hires.length:=by simp [zo2]
  rw [h3]
  apply zdE
  intro k hk
  have hk':k < min n y.hires.length:=by simpa using hk
  rw [cut_right y n p (by omega)]
 unfold zfo zf7 zuH
 dsimp only
 rw [Bool.eq_iff_iff,List.any_eq_true,List.any_eq_true]
 constructor
 ·rintro ⟨s,hs,h⟩
  obtain ⟨p,hp,rfl⟩:=czx.1 hs
  exact ⟨p,zit hv hp,by rw [← key p hp]; exact h⟩
 ·rintro ⟨q,hq,h⟩
  obtain ⟨p,hp,hl⟩:=zml hv hq
  refine ⟨zbH y.t p,czx.2 ⟨p,hp,rfl⟩,?_⟩
  rw [key p hp,← h]
  apply zdE
  intro k hk
  have hk':k < min n y.hires.length:=by simpa using hk
  rw [zvr hv hl (by omega)]
theorem cutY_all (y:Yd):zo2 y y.hires.length = y:=by unfold zo2; rw [czm]
def zhx (y:Yd):Nat → Nat → Int × Int
 | 0,_ => (0,7)
 | f + 1,n => if zuH y (n + 1) [] then zhx y f (n + 1) else (n,0)
theorem zmc {y:Yd} (hv:VY y):∀ f n,zgA y f n = zhx y f n
 | 0,_ => rfl
 | f + 1,n => by unfold zgA zhx; rw [zol hv,zmc hv f (n + 1)]
structure LvM8 (y:Yd) (K:List Sea) (mem:List AObj):Prop where
 len:8 ≤ mem.length
 m0:zab mem 0 = .cells [.int .i64 y.t.last,.sl (y.t.heights.map EncE.cs) .no,.int .i64 y.t.step,.sl (y.t.levels.map EncE.cs) .no,.sl (y.t.marks.map EncE.cs) .no,.int .i64 y.hands,.sl (y.chairs.map EncE.cs) .no,.sl (y.order.map EncE.cs) .no,.sl (y.hires.map EncE.cs) .no]
 m2:zab mem 2 = .cells [.int .i64 y.t.last,.sl (y.t.heights.map EncE.cs) .no,.int .i64 y.t.step,.sl (y.t.levels.map EncE.cs) .no,.sl (y.t.marks.map EncE.cs) .no,.int .i64 y.hands,.sl (y.chairs.map EncE.cs) .no,.sl (y.order.map EncE.cs) .no,.sl (y.hires.map EncE.cs) .no,.vec 4 K.length 0 K.length 2]
 m4:zab mem 4 = .vec (K.map EncE.cs) 2 K.length
 m5:zab mem 5 = .cells [.ptr 2 0]
 m7:zab mem 7 = .cells [.fn (.func 110) [] [.ptr 6 0,.ptr 5 0,.ptr 0 0,.ptr 7 0]]
 ok:∀ o ∈ mem,zb6 mem.length o
 m6:∃ f,zab mem 6 = .cells [f]
theorem LvM8.set {y:Yd} {K:List Sea} {mem:List AObj} (h:LvM8 y K mem) (l:List Int):LvM8 y K (mem.set 6 (.cells [.sl (l.map EncE.cs) .no])):=by
 have h3:=h.len
 have key:∀ i,i ≠ 6 → ∀ o,zab (mem.set 6 o) i = zab mem i:=fun i hi o => by rw [zaF _ _ _ _ (by omega),if_neg hi]
 refine ⟨by simpa using h3,(key 0 (by omega) _).trans h.m0,(key 2 (by omega) _).trans h.m2,(key 4 (by omega) _).trans h.m4,(key 5 (by omega) _).trans h.m5,(key 7 (by omega) _).trans h.m7,fun o ho => ?_,?_⟩
 ·rw [czt]
  rcases List.mem_or_eq_of_mem_set ho with q | q
  ·exact h.ok o q
  ·subst q
   simp [zbl,znq,zkJ]
 ·exact ⟨_,by rw [zaF _ _ _ _ (by omega),if_pos rfl]⟩
theorem LvM8.push {y:Yd} {K:List Sea} {mem:List AObj} (h:LvM8 y K mem) (n:Nat):LvM8 y K (mem ++ [.tok n 1,.dead]):=by
 have h3:=h.len
 have key:∀ i,i < 8 → zab (mem ++ [.tok n 1,.dead]) i = zab mem i:=fun i hi => zaX (by omega)
 refine ⟨by simp; omega,(key 0 (by omega)).trans h.m0,(key 2 (by omega)).trans h.m2,(key 4 (by omega)).trans h.m4,(key 5 (by omega)).trans h.m5,(key 7 (by omega)).trans h.m7,fun o ho => ?_,by rw [key 6 (by omega)]; exact h.m6⟩
 rcases czv.1 ho with q | q
 ·exact zda (by simp) o (h.ok o q)
 ·simp at q
  rcases q with q | q <;> subst q <;> simp [zc5,zdl]
def zdP (mem:List AObj):Option (List Int) → List AObj
 | none => mem
 | some f => mem.set 6 (.cells [.sl (f.map EncE.cs) .no])
theorem zh7 {y:Yd} {K:List Sea} {mem:List AObj} (h:LvM8 y K mem) (fo:Option (List Int)):LvM8 y K (zdP mem fo) ∧ (zdP mem fo).length = mem.length ∧ ∀ o,(zdP mem fo).set 6 o = mem.set 6 o:=by
 cases fo with
 | none => exact ⟨h,rfl,fun _ => rfl⟩
 | some f => exact ⟨h.set f,by simp [zdP],fun o => by simp [zdP]⟩
theorem zku {mem mm:List AObj} {fo:Option (List Int)} (h:zdP mem fo = mm) (h3:8 ≤ mm.length) (hs:∀ o,mm.set 6 o = mem.set 6 o) (xs:List AObj) (fo':Option (List Int)):∃ fo2,zdP (mm ++ xs) fo' = zdP mem fo2 ++ xs ∧ ∀ f,fo' = some f → fo2 = some f:=by
 cases fo' with
 | none => exact ⟨fo,by rw [h]; rfl,fun f e => by cases e⟩
 | some f =>
  refine ⟨some f,?_,fun _ e => e⟩
  show (mm ++ xs).set 6 _ = mem.set 6 _ ++ xs
  rw [List.set_append_left _ _ (by omega),hs]
def leaveR8 (y:Yd) (K:List Sea) (mem:List AObj) (m:Nat) (out:List Nat) (frm:Nat) (r:AV) (mem':List AObj):Prop :=
 ∃ fo:Option (List Int),mem' = zdP mem fo ∧ r = .bool (zcP (zfo ⟨y,K⟩) y.hires.length m out frm).isSome ∧ ∀ x,zcP (zfo ⟨y,K⟩) y.hires.length m out frm = some x → fo = some (zcg x)
theorem zqk {y:Yd} {K:List Sea} (hw:zwN ⟨y,K⟩):∀ (m:Nat) (out:List Nat) (frm:Nat) (mem:List AObj),LvM8 y K mem → out.length + m ≤ 7 → frm ≤ 8 →
  zga Tryz.prog 110 [.sl ((zcg out).map EncE.cs) .no,.int .i64 frm,.int .i64 m,.ptr 6 0,.ptr 5 0,.ptr 0 0,.ptr 7 0] mem (leaveR8 y K mem m out frm):=by
 intro m
 induction m with
 | zero =>
  intro out frm mem hm hlen hfrm
  have h3:=hm.len
  have hm0:=hm.m0
  obtain ⟨f0,hm1⟩:=hm.m6
  have hcl:(zcg out).length = out.length:=by simp [zcg]
  have hS:=hm.set (zcg out)
  have s0':=hS.m0
  have s2':=hS.m2
  have s4':=hS.m4
  have s5':=hS.m5
  have hm5:=hm.m5
  have hdw:=zaU ⟨y,K⟩
  dsimp only at hdw
  have hys:=hw.ys
  have hl1:=hw.l1
  dsimp only at hys hl1
  have htk:(K.map (EncE.cs (α:=Sea))).take K.length = K.map EncE.cs:=cze (by simp)
  have hok:=(hm.set (zcg out)).ok
  refine zcd (Φ:=P138) Tryz.func110 rfl (by rfl) (by rw [Tryz.ntmps110]; simp) zaD zlc (by simp [AV.strip,AV.strip1,Tk.strip]) ?_
  rw [Tryz.ntmps110]
  simp only [Tryz.f110,zag,zap]
  simp (maxSteps:=4000000) only [go_sem,AV.one,zae,zac,zad,zaq,zas,czb,cza,↓reduceIte,zaU,zbe,zaa,zao,onz,hm0,hm1,hm5,s0',s2',s4',s5',hdw,htk]
  all_goals (repeat' first | (with_reducible first | rfl | apply And.intro | assumption) | ((with_reducible show zaf _ _ = true); rfl)) <;> try first | omega | (simp only [InR]; omega)
  ·refine ⟨some (zcg out),?_,?_,fun x hx => ?_⟩
   ·rw [cze (by simp)]; rfl
   ·simp only [zcP]
    cases zfo ⟨y,K⟩ (zcg out) <;> rfl
   ·simp only [zcP] at hx
    split at hx
    ·cases hx; rfl
    ·cases hx
  ·trivial
  ·rw [cze (by simp)]
   rw [czt] at hok
   exact hok
 | succ m ih =>
  intro out frm mem hm hlen hfrm
  have h3:=hm.len
  have hcl:∀ l:List Nat,(zcg l).length = l.length:=fun l => by simp [zcg]
  have hml:=hw.vy.r5
  dsimp only at hml
  have hml2:(y.hires.map EncE.cs).length = y.hires.length:=by simp
  obtain ⟨f0,hm1⟩:=hm.m6
  have hG:∀ k,zcP (zfo ⟨y,K⟩) y.hires.length m (out ++ [frm + k]) (frm + k + 1) = (fun k => zcP (zfo ⟨y,K⟩) y.hires.length m (out ++ [frm + k]) (frm + k + 1)) k:=fun k => rfl
  have hm0:=hm.m0
  have hm7:=hm.m7
  have hm5:=hm.m5
  refine zcd (Φ:=P138) Tryz.func110 rfl (by rfl) (by rw [Tryz.ntmps110]; simp) zaD zlc (by simp [AV.strip,AV.strip1,Tk.strip]) ?_
  rw [Tryz.ntmps110]
  simp only [Tryz.f110,zag,zap]
  simp (maxSteps:=4000000) only [go_sem,AV.one,zae,zac,zad,zaq,zas,czb,cza,↓reduceIte,zaU,zbe,zaa,zao,onz,hm0,hm1,show decide (((m + 1:Nat):Int) = 0) = false by simp; omega]
  refine zjt [] [0,2,5,6,10] (fun b:Nat × Option (List Int) => [(11,.int .i64 ((frm + b.1:Nat):Int))]) (fun b _ => zdP mem b.2) (fun b => b.1 ≤ y.hires.length - m - frm ∧ (∀ j,j < b.1 → zcP (zfo ⟨y,K⟩) y.hires.length m (out ++ [frm + j]) (frm + j + 1) = none)) (fun b => y.hires.length - m - frm - b.1) ((0,none)) ?_ ?_ ?_
  ·exact ⟨Nat.zero_le _,fun j hj => by omega⟩
  ·refine ⟨rfl,rfl,rfl,czf _,za0 _,?_,zbu hm.ok,trivial⟩
   show zaN _ mem.length _
   simp [AV.bare,zal,zaN,zaS,zak,zat,zah,tokz1,lk,zab,za2,show 0 < mem.length by omega,show 5 < mem.length by omega,show 6 < mem.length by omega,show 7 < mem.length by omega]
  ·rintro ⟨k,fo⟩ ⟨hk,hno⟩
   simp only at hk hno
   obtain ⟨hL,hLl,hLs⟩:=zh7 hm fo
   generalize hmm:zdP mem fo = mm at hL hLl hLs
   have g0:=hL.m0
   have g2:=hL.m7
   have g3:=hL.len
   by_cases hkN:k < y.hires.length - m - frm
   ·have c1:decide (((frm + k:Nat):Int) ≤ (y.hires.length:Int) - ((m + 1:Nat):Int)) = true:=by simp; omega
    have q0:zab (mm ++ [.dead,.dead]) 7 = zab mm 7:=by unfold zab; simp only [List.getD]; rw [czi (by omega)]
    have q1:∀ x y:AObj,zab (mm ++ [x,y]) mm.length = x:=fun x y => by have:=zaP mm [x,y] 0; rw [Nat.add_zero] at this; exact this
    have q2:∀ x y z:AObj,(mm ++ [x,y]).set mm.length z = mm ++ [z,y]:=fun x y z => by have:=zbW mm [x,y] 0 z; rw [Nat.add_zero] at this; exact this
    have hlt:∀ x y:AObj,mm.length < (mm ++ [x,y]).length:=fun x y => by simp
    rw [g2] at q0
    have hco:=hcl out
    simp (maxSteps:=4000000) only [go_sem,AV.one,zae,zac,zad,zaq,zas,czb,cza,↓reduceIte,zaU,zbe,zaa,zao,onz,g0,g2,q0,q1,q2,hlt,c1,hml2]
    have hcall:=ih (out ++ [frm + k]) (frm + k + 1) (mm ++ [.tok ((zcg out).length + 1) 1,.dead]) (hL.push _) (by simp; omega) (by omega)
    have e1:(zcg (out ++ [frm + k])).map EncE.cs = (zcg out).map EncE.cs ++ [[AV.int .i64 ((frm + k:Nat):Int)]]:=by rw [zvZ]; simp [zel]
    rw [e1,show ((frm + k + 1:Nat):Int) = ((frm + k:Nat):Int) + 1 by omega,show ((m:Nat):Int) = ((m + 1:Nat):Int) - 1 by omega] at hcall
    refine ⟨(by simp only [InR]; omega),rfl,by omega,by omega,(by simp only [InR]; omega),(by simp only [InR]; omega),[],by rfl,_,zbD (zr3 hcall),?_⟩
    rintro r mem' ⟨r0,rfl,⟨fo',rfl,rfl,hf⟩,hlen2⟩ _
    refine ⟨trivial,?_⟩
    obtain ⟨fo2,hp1,hp2⟩:=zku hmm g3 hLs [.tok ((zcg out).length + 1) 1,.dead] fo'
    obtain ⟨hM,hMl,_⟩:=zh7 hm fo2
    have hMok:=hM.ok
    rw [hMl] at hMok
    rw [hp1]
    have htk:(zdP mem fo2 ++ [AObj.tok ((zcg out).length + 1) 1,AObj.dead]).take mem.length = zdP mem fo2:=by
     rw [List.take_append_of_le_length (by omega),cze (by omega)]
    cases c:zcP (zfo ⟨y,K⟩) y.hires.length m (out ++ [frm + k]) (frm + k + 1) with
    | some x =>
     simp only [AV.strip,AV.un,AV.av,Option.isSome_some,htk]
     refine ⟨trivial,fun _ => ⟨⟨fo2,rfl,?_,fun yy hy => ?_⟩,trivial,hMok⟩,fun h => by cases h⟩
     ·have:zcP (zfo ⟨y,K⟩) y.hires.length (m + 1) out frm = some x:=zin hkN hno c
      rw [this]; rfl
     ·have:zcP (zfo ⟨y,K⟩) y.hires.length (m + 1) out frm = some x:=zin hkN hno c
      rw [this] at hy
      cases hy
      exact hp2 _ (hf x c)
    | none =>
     simp only [AV.strip,AV.un,AV.av,Option.isSome_none,htk]
     refine ⟨trivial,fun h => (by cases h),fun _ => ⟨(by simp only [InR]; omega),(k + 1,fo2),⟨by dsimp only; omega,fun j hj => ?_⟩,by dsimp only; omega,?_⟩⟩
     ·by_cases e:j = k
      ·subst e; exact c
      ·exact hno j (by dsimp only at hj; omega)
     ·refine zbi ⟨rfl,rfl,rfl,Nat.le_of_eq hMl.symm,?_,?_,zbu hM.ok,trivial⟩
      ·have key:∀ (l r:List AObj),zak l (l ++ r):=by
        intro l
        induction l with
        | nil => intro r; trivial
        | cons a l ih => intro r; exact ⟨rfl,ih r⟩
       exact key _ _
      ·show zaN _ (zdP mem fo2).length _
       rw [hMl]
       simp [AV.bare,zal,zaN,zaS,zak,zat,zah,tokz1,lk,zab,za2,show 0 < mem.length by omega,show 5 < mem.length by omega,show 6 < mem.length by omega,show 7 < mem.length by omega]
       omega
   ·have c1:decide (((frm + k:Nat):Int) ≤ (y.hires.length:Int) - ((m + 1:Nat):Int)) = false:=by simp; omega
    simp (maxSteps:=4000000) only [go_sem,AV.one,zae,zac,zad,zaq,zas,czb,cza,↓reduceIte,zaU,zbe,zaa,zao,onz,g0,g2,c1,hml2]
    have hnone:zcP (zfo ⟨y,K⟩) y.hires.length (m + 1) out frm = none:=zng fun j hj => hno j (by omega)
    have hMok:=hL.ok
    rw [hLl] at hMok
    rw [cze (by omega)]
    exact ⟨(by simp only [InR]; omega),⟨fo,hmm.symm,by rw [hnone]; rfl,fun x hx => by rw [hnone] at hx; cases hx⟩,trivial,hMok⟩
def PossY (y:Yd) (S:Nat → Prop):Prop:=∃ p ∈ zaJ y.t,∀ k,k < y.hires.length → S k → zcX y p k = true
theorem psY {y:Yd} (hv:VY y):PS y.hires.length (PossY y) (zny y) (zfo ⟨y,zf7 y⟩):=by
 refine ⟨fun S T h => ?_,fun S h => ?_,fun m hm => ?_,fun l => ?_⟩
 ·rintro ⟨p,hp,hr⟩
  exact ⟨p,hp,fun k hk hT => hr k hk (h k hk hT)⟩
 ·obtain ⟨p,hp⟩:=List.exists_mem_of_ne_nil _ hv.tr
  exact ⟨p,hp,fun k hk hS => absurd hS (h k hk)⟩
 ·unfold zv0 zny PossY znp
  rw [List.any_eq_true]
  have key:∀ p,((((rbp (zcX y p) y.hires.length:Nat):Int).toNat &&& (m:Int).toNat:Nat):Int) = (m:Int) ↔ ∀ k,k < y.hires.length → m.testBit k = true → zcX y p k = true:=by
   intro p
   rw [czF,czF,Int.natCast_inj,zmu]
   constructor
   ·intro h k hk hb
    have:=h k hb
    rw [zeJ] at this
    simp at this
    exact this.2
   ·intro h k hb
    have hk:=zet hm hb
    rw [zeJ,h k hk hb]
    simpa using hk
  constructor
  ·rintro ⟨x,hx,hd⟩
   obtain ⟨p,hp,rfl⟩:=czx.1 hx
   exact ⟨p,hp,(key p).1 (by simpa using hd)⟩
  ·rintro ⟨p,hp,hr⟩
   exact ⟨_,czx.2 ⟨p,hp,rfl⟩,by simpa using (key p).2 hr⟩
 ·have h:=zol hv y.hires.length (zcg l)
  rw [cutY_all] at h
  rw [h]
  unfold zuH PossY
  rw [Nat.min_self,List.any_eq_true]
  have hc:∀ k:Nat,(zcg l).contains (k:Int) = true ↔ k ∈ l:=fun k => by
   unfold zcg
   rw [List.contains_iff_mem,czx]
   constructor
   ·rintro ⟨a,ha,e⟩
    have:a = k:=by omega
    rw [← this]; exact ha
   ·intro h; exact ⟨k,h,rfl⟩
  constructor
  ·rintro ⟨p,hp,h⟩
   refine ⟨p,hp,fun k hk hno => ?_⟩
   have:=(czG.1 h) k (List.mem_range.2 hk)
   rw [czI,hc] at this
   exact this.resolve_left hno
  ·rintro ⟨p,hp,h⟩
   refine ⟨p,hp,czG.2 fun k hk => ?_⟩
   rw [czI,hc]
   by_cases e:k ∈ l
   ·exact .inl e
   ·exact .inr (h k (List.mem_range.1 hk) e)
def zfO (y:Yd):List Int × Int:=if za9 y = 0 then (zdQ (zny y) (2 ^ y.hires.length - 1) (2 ^ y.hires.length),0) else ([],za9 y)
theorem zsE (y:Yd) (h:y.t.heights.length ≤ 4096 ∧ y.order.length ≤ 4096):zaQ Tryz.prog 45 [Enc.enc y] (· = Enc.enc (zfO y)):=by
 simp only [zaa,ydC]
 unfold zfO
 by_cases c:za9 y = 0
 case neg =>
  rw [if_neg c]
  simp only [zbz]
  refine cpz zlc Tryz.func45 zaD ?_
  rw [Tryz.ntmps45]
  simp only [Tryz.f45,zag,zap]
  refine zlC fun Q0 hQ0 => ?_
  refine zar fun Q1 h1 => ?_
  simp (maxSteps:=4000000) only [go_sem,zae,zac,zad,zaq,zas,zab,czb,cza,↓reduceIte,zaU,zbe,zaa,zao,onz]
  all_goals (repeat' first | (with_reducible first | rfl | apply And.intro | assumption) | ((with_reducible show zaf _ _ = true); rfl)) <;> try first | omega | (simp only [InR]; omega)
  rw [h1]; clear h1 Q1; simp only [zaE,zam]
  refine zar fun Q1 h1 => ?_
  simp (maxSteps:=4000000) only [go_sem,zae,zac,zad,zaq,zas,zab,czb,cza,↓reduceIte,zaU,zbe,zaa,zao,onz]
  refine ⟨_,zea y h c (zcU ⟨zb8 y _,trivial⟩),?_⟩
  rintro r m ⟨rfl,rfl⟩ _
  simp (maxSteps:=4000000) only [go_sem,zae,zac,zad,zaq,zas,zab,czb,cza,↓reduceIte,zaU,zbe,zaa,zao,onz]
  rw [h1]; clear h1 Q1
  simp only [zaE,zam]
  simp (maxSteps:=4000000) only [go_sem,zae,zac,zad,zaq,zas,zab,czb,cza,↓reduceIte,zaU,zbe,zaa,zao,onz,c,hQ0,decide_true,decide_false]
 case pos =>
 rw [if_pos c]
 have hv:=zg9 c
 have hcl:=zfz hv
 have hr5:=hv.r5
 obtain ⟨x0,hx1,hx2,hx3⟩:=zvs (psY hv)
 rw [hx2]
 simp only [zbz]
 refine cpz zlc Tryz.func45 zaD ?_
 rw [Tryz.ntmps45]
 simp only [Tryz.f45,zag,zap]
 refine zlC fun Q0 hQ0 => ?_
 refine zar fun Q1 h1 => ?_
 simp (maxSteps:=4000000) only [go_sem,zae,zac,zad,zaq,zas,zab,czb,cza,↓reduceIte,zaU,zbe,zaa,zao,onz]
 all_goals (repeat' first | (with_reducible first | rfl | apply And.intro | assumption) | ((with_reducible show zaf _ _ = true); rfl)) <;> try first | omega | (simp only [InR]; omega)
 rw [h1]; clear h1 Q1; simp only [zaE,zam]
 refine zar fun Q1 h1 => ?_
 simp (maxSteps:=4000000) only [go_sem,zae,zac,zad,zaq,zas,zab,czb,cza,↓reduceIte,zaU,zbe,zaa,zao,onz]
 refine ⟨_,zeB y hv (zcU ⟨zb8 y _,trivial⟩),?_⟩
 rintro r m ⟨rfl,rfl⟩ _
 unfold zcu
 simp (maxSteps:=4000000) only [go_sem,zae,zac,zad,zaq,zas,zab,czb,cza,↓reduceIte,zaU,zbe,zaa,zao,onz]
 rw [h1]; clear h1 Q1
 simp only [zaE,zam]
 have hsw:(zba y).map (zbH y.t) = zf7 y:=rfl
 have hsl:(zba y).length = (zf7 y).length:=by simp [zf7]
 rw [hsw,hsl]
 rw [hsl] at hcl
 have hys:∀ s ∈ zf7 y,YS y s:=fun s hs => askW hv s hs
 have hvb:∀ k st,zb6 k (.vec ((zf7 y).map EncE.cs) 2 st):=fun k st => by
  have:=zjB (zf7 y) 0 k st
  simpa using this
 obtain ⟨K,hK⟩:∃ K,zf7 y = K:=⟨_,rfl⟩
 rw [hK] at hys hvb hcl hx1 ⊢
 have hw:zwN ⟨y,K⟩:=⟨hv,hys,hcl⟩
 iterate 2 (
  refine zar fun Q1 h1 => ?_
  simp (maxSteps:=4000000) only [go_sem,zae,zac,zad,zaq,zas,zab,czb,cza,↓reduceIte,zaU,zbe,zaa,zao,onz,decide_true,decide_false]
  all_goals (repeat' first | (with_reducible first | rfl | apply And.intro | assumption) | ((with_reducible show zaf _ _ = true); rfl)) <;> try first | omega | (simp only [InR]; omega)
  rw [h1]; clear h1 Q1; simp only [zaE,zam])
 iterate 3 (
  refine zar fun Q1 h1 => ?_
  simp (maxSteps:=4000000) only [go_sem,zae,zac,zad,zaq,zas,zab,czb,cza,↓reduceIte,zaU,zbe,zaa,zao,onz,decide_true,decide_false]
  all_goals (repeat' first | (with_reducible first | rfl | apply And.intro | assumption) | ((with_reducible show zaf _ _ = true); rfl)) <;> try first | omega | (simp only [InR]; omega)
  rw [h1]; clear h1 Q1; simp only [zaE,zam])
 simp (maxSteps:=4000000) only [go_sem,zae,zac,zad,zaq,zas,zab,czb,cza,↓reduceIte,zaU,zbe,zaa,zao,onz,hQ0]
 all_goals (repeat' first | (with_reducible first | rfl | apply And.intro | assumption) | ((with_reducible show zaf _ _ = true); rfl)) <;> try first | omega | (simp only [InR]; omega)
 refine zjt [] [2,3,6,7,21] (fun b:Nat × Option (List Int) => [(22,.int .i64 b.1)]) (fun b m => zdP m b.2) (fun b => b.1 ≤ y.hires.length + 1 ∧ zhr (zfo ⟨y,K⟩) y.hires.length (y.hires.length + 1 - b.1) b.1 = some x0) (fun b => y.hires.length + 1 - b.1) ((0,none)) ?_ ?_ ?_
 ·exact ⟨Nat.zero_le _,hx1⟩
 ·simp [AV.bare,zal,zaN,zaS,zak,zat,zah,tokz1,lk,zab,za2,zdP,-List.map_map]
  try exact fun e he c hc => hvb 8 K.length e he c hc
 ·rintro ⟨k,fo⟩ ⟨hk,hI⟩
  simp only at hk hI
  simp only [zch,zah]
  have hm:LvM8 y K [yC y,yC y,.cells [.int .i64 y.t.last,.sl (y.t.heights.map EncE.cs) .no,.int .i64 y.t.step,.sl (y.t.levels.map EncE.cs) .no,.sl (y.t.marks.map EncE.cs) .no,.int .i64 y.hands,.sl (y.chairs.map EncE.cs) .no,.sl (y.order.map EncE.cs) .no,.sl (y.hires.map EncE.cs) .no,.vec 4 K.length 0 K.length 2],
    .cells [.ptr 2 0],.vec (K.map EncE.cs) 2 K.length,.cells [.ptr 2 0],.cells [.sl [] .full],.cells [.fn (.func 110) [] [.ptr 6 0,.ptr 5 0,.ptr 0 0,.ptr 7 0]]]:=by
   refine ⟨by simp,rfl,rfl,rfl,rfl,rfl,zcU ⟨zb8 y _,zb8 y _,by simp [AV.bare,zal,zaN,zaS,zak,zat,zah,tokz1,lk,zab,za2,-List.map_map],by simp [AV.bare,zal,zaN,zaS,zak,zat,zah,tokz1,lk,zab,za2],hvb _ _,by simp [AV.bare,zal,zaN,zaS,zak,zat,zah,tokz1,lk,zab,za2],by simp [AV.bare,zal,zaN,zaS,zak,zat,zah,tokz1,lk,zab,za2],by simp [AV.bare,zal,zaN,zaS,zak,zat,zah,tokz1,lk,zab,za2],trivial⟩,_,rfl⟩
  unfold yC at hm
  obtain ⟨hL,hLl,hLs⟩:=zh7 hm fo
  have hm':=hm
  generalize hmm:zdP _ fo = mm at hL hLl hLs ⊢
  have g0:=hL.m0
  have g7:=hL.m7
  have g3:=hL.len
  by_cases hkN:k < y.hires.length + 1
  ·have c1:decide ((k:Int) < (y.hires.length:Int) + 1) = true:=by simp; omega
   have hcall:=zqk hw k [] 0 mm hL (by simp; omega) (by omega)
   simp (maxSteps:=4000000) only [go_sem,zae,zac,zad,zaq,zas,czb,cza,↓reduceIte,zaU,zbe,zaa,zao,onz,g0,g7,c1]
   refine ⟨_,zbD (zv1 hcall),?_⟩
   rintro r mem' ⟨r0,rfl,⟨fo',rfl,rfl,hf⟩,hlen2⟩ _
   obtain ⟨fo2,hp1,hp2⟩:=zku hmm g3 hLs [] fo'
   rw [List.append_nil,List.append_nil] at hp1
   rw [hp1]
   rw [show y.hires.length + 1 - k = (y.hires.length - k) + 1 by omega,zhr] at hI
   cases c2:zcP (zfo ⟨y,K⟩) y.hires.length k [] 0 with
   | some x =>
    rw [c2] at hI
    cases hI
    have:=hp2 _ (hf x0 c2)
    subst this
    simp (maxSteps:=4000000) only [go_sem,zae,zac,zad,zaq,zas,zab,czb,cza,↓reduceIte,zaU,zbe,zaa,zao,onz,zdP]
    all_goals (repeat' first | (with_reducible first | rfl | apply And.intro | assumption) | ((with_reducible show zaf _ _ = true); rfl)) <;> try first | omega | (simp only [InR]; omega)
   | none =>
    rw [c2] at hI
    simp (maxSteps:=4000000) only [go_sem,zae,zac,zad,zaq,zas,czb,cza,↓reduceIte,zaU,zbe,zaa,zao,onz]
    obtain ⟨hM,hMl,_⟩:=zh7 hm' fo2
    refine ⟨(by simp only [InR]; omega),(k + 1,fo2),⟨by dsimp only; omega,?_⟩,by dsimp only; omega,?_⟩
    ·rw [show y.hires.length + 1 - (k + 1) = y.hires.length - k by omega]; exact hI
    ·refine zbi ⟨rfl,rfl,rfl,Nat.zero_le _,za0 _,?_,zbu hM.ok,trivial⟩
     show zaN _ (zdP _ fo2).length _
     rw [hMl]
     simp [AV.bare,zal,zaN,zaS,zak,zat,zah,tokz1,lk,zab,za2,-List.map_map]
  ·exfalso
   rw [show y.hires.length + 1 - k = 0 by omega,zhr] at hI
   cases hI
def P139 (g:FuncId):=(zaw 45 (zct (fun y:Yd => y.t.heights.length ≤ 4096 ∧ y.order.length ≤ 4096) zfO) (P138):zaL) g
theorem P139_ok:zaC Tryz.prog P139:=zaj (zbf zsE) (zlc)
theorem zpK (d:Option Nat):zaI P139 d = none:=(zai (by decide) d).trans (zpL d)
attribute [go_sem] P139 zpK
end Go.Proofs
