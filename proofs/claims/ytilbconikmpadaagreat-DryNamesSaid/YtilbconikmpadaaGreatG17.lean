/- The texts H20, H21, H22, H23, H24, H25, H26, joined. -/
import Derived.Test.YtilbconikmpadaaGreatG16
set_option linter.all false
namespace Go.Proofs
open Go.Fs
set_option maxHeartbeats 4000000
set_option maxRecDepth 8000
structure FnP where
 w:W8
 out:List Int
instance:Enc FnP where
 enc f:=.fn (.func 145) [] [.ref [.ref (w8C f.w) 0] 0,.ref [.sl (f.out.map EncE.cs) .no] 0]
 dec
  | .fn (.func g) [] [.ref [.ref a 0] 0,.ref [.sl o .no] 0] =>
   if g = 145 then
    match zl6 a,(zdC o:Option (List Int)) with
    | some w,some o => some ⟨w,o⟩
    | _,_ => none
   else none
  | _ => none
 law v x h:=by
  split at h
  ·split at h
   ·rename_i e
    split at h
    ·rename_i h1 h2
     cases h
     rw [e,zhR h1,zbx _ _ h2]
    ·cases h
   ·cases h
  ·cases h
 dep:=7
 ok x:=by
  have h1:∀ c ∈ w8C x.w,zbr 4 c:=fun c hc => zft 3 4 c (ziX x.w c hc) (by omega)
  refine ⟨fun _ h => (by cases h),?_⟩
  intro c hc
  simp only [czn,czk,or_false] at hc
  rcases hc with rfl | rfl
  ·intro c hc
   simp only [czn,czk,or_false] at hc
   subst hc
   exact h1
  ·intro c hc
   simp only [czn,czk,or_false] at hc
   subst hc
   refine ⟨rfl,fun e he c hc => ?_⟩
   obtain ⟨x,_,rfl⟩:=czx.1 he
   exact zft 1 4 c (EncE.ok x c hc) (by omega)
theorem zgj (f:FnP):Enc.enc f = .fn (.func 145) [] [.ref [.ref (w8C f.w) 0] 0,.ref [.sl (f.out.map EncE.cs) .no] 0]:=rfl
theorem zgn (w:W8) (o:List Int):(Enc.dec (.fn (.func 145) [] [.ref [.ref [.int .i64 w.y.t.last,.sl (w.y.t.heights.map EncE.cs) .no,.int .i64 w.y.t.step,.sl (w.y.t.levels.map EncE.cs) .no,.sl (w.y.t.marks.map EncE.cs) .no,
 .int .i64 w.y.hands,.sl (w.y.chairs.map EncE.cs) .no,.sl (w.y.order.map EncE.cs) .no,.sl (w.y.hires.map EncE.cs) .no,.sl (w.ts.map EncE.cs) .no] 0] 0,.ref [.sl (o.map EncE.cs) .no] 0]):Option FnP) = some ⟨w,o⟩:=by
 have e1:=zqg w
 have e2:=zdo o
 rw [w8C] at e1
 simp only [Enc.dec,if_true,e1,e2]
def zf8 (f:FnP) (s:Sea):Bool:=zcr f.w.y s f.out
theorem zpu (s:Sea) (w:RefC W8) (o:RefC (List Int)) (h:YS w.x.y s ∧ o.x.length ≤ 4096):zaP Tryz.prog 145 [Enc.enc s,Enc.enc w,Enc.enc o] (· = Enc.enc (zf8 ⟨w.x,o.x⟩ s)):=by
 obtain ⟨w⟩:=w
 obtain ⟨o⟩:=o
 obtain ⟨h1,h2⟩:=h
 dsimp only at h1 h2
 unfold zf8
 simp only [zek,zbe,w8C]
 simp only [zcf]
 refine cpz P133_ok Tryz.func145 zaB ?_
 rw [Tryz.ntmps145]
 simp only [Tryz.f145,zai,zam]
 simp (maxSteps:=4000000) only [go_sem,AV.one,zae,zac,zad,zan,zaq,zaa,czb,cza,↓reduceIte,zaQ,zgn,zbe,zgj,zab,onz]
 all_goals exact auz
def P134 (g:FuncId):=(zas 145 (zec (fun (s:Sea) (w:RefC W8) (o:RefC (List Int)) => YS w.x.y s ∧ o.x.length ≤ 4096) (fun s w o => zf8 ⟨w.x,o.x⟩ s)) (P133):zaJ) g
theorem P134_ok:zaz Tryz.prog P134:=zah (zb8 zpu) (P133_ok)
theorem zoo (d:Option Nat):zaF P134 d = none:=(zag (by decide) d).trans (zop d)
attribute [go_sem] P134 zoo
theorem zpv (l:List Sea) (f:FnP) (h:(l.length ≤ 4096 ∧ f.out.length ≤ 4096) ∧ ∀ s ∈ l,YS f.w.y s):zaP Tryz.prog 164 [Enc.enc l,Enc.enc f] (· = Enc.enc (zbt (zf8 f) l l.length 0)):=by
 obtain ⟨w,out⟩:=f
 obtain ⟨⟨h1,h1'⟩,h2⟩:=h
 dsimp only at h2 h1'
 have hd:=zaQ w
 simp only [zgj,w8C]
 simp only [zcf]
 refine cpz P134_ok Tryz.func164 zaB ?_
 rw [Tryz.ntmps164]
 simp only [Tryz.f164,zai,zam]
 simp (maxSteps:=4000000) only [go_sem,AV.one,zae,zac,zad,zan,zaq,zaa,czb,cza,↓reduceIte,zaQ,zgn,zbe,zgj,zab,onz]
 refine zbG (l.length) [] [0,1,4,7] (fun i => [(8,.int .i64 i)]) (fun _ m => m) (fun i => zbt (zf8 ⟨w,out⟩) l (l.length - i) i = zbt (zf8 ⟨w,out⟩) l l.length 0) ?_ ?_ ?_ ?_
 ·rfl
 ·simp [AV.bare,zal,zaN,zaR,zak,zar,zaf,tokz1,lk,zaa,za3]
 ·intro i hi hI
  have hp:=h2 _ (zbv hi)
  rw [show l.length - i = (l.length - (i + 1)) + 1 by omega,zbt] at hI
  cases c:zf8 ⟨w,out⟩ (at_ l i) <;>
   simp (maxSteps:=4000000) only [go_sem,AV.one,zae,zac,zad,zan,zaq,zaa,czb,cza,↓reduceIte,zaQ,zgn,zbe,zgj,zab,onz,zax hi,czH.2 hi,c,hd]
  all_goals all_goals (repeat' first | (with_reducible first | rfl | apply And.intro | assumption) | ((with_reducible show zaj _ _ = true); rfl)) <;> try first | omega | (simp only [InR]; omega)
  ·rw [c] at hI
   refine nxt hi hI ?_
   simp [AV.bare,zal,zaN,zaR,zak,zar,zaf,tokz1,lk,zaa,za3]
  ·rw [c] at hI
   rw [← hI]; rfl
 ·intro hI
  simp (maxSteps:=4000000) only [go_sem,AV.one,zae,zac,zad,zan,zaq,zaa,czb,cza,↓reduceIte,zaQ,zgn,zbe,zgj,zab,onz]
  rw [← hI]; simp [zbt]
def P135 (g:FuncId):=(zas 164 (zbF (fun (l:List Sea) (f:FnP) => (l.length ≤ 4096 ∧ f.out.length ≤ 4096) ∧ ∀ s ∈ l,YS f.w.y s) (fun l f => zbt (zf8 f) l l.length 0)) (P134):zaJ) g
theorem P135_ok:zaz Tryz.prog P135:=zah (zaM zpv) (P134_ok)
theorem zon (d:Option Nat):zaF P135 d = none:=(zag (by decide) d).trans (zoo d)
attribute [go_sem] P135 zon
theorem ztK {α:Type} [Inhabited α] (p:α → Bool) (l:List α):decide (0 ≤ zbt p l l.length 0) = l.any p:=by
 rcases zg8 p l l.length 0 (by omega) with ⟨h1,h2⟩ | ⟨k,h1,_,h3,h4,_⟩
 ·rw [h1]
  symm
  have:l.any p = false:=by
   rw [List.any_eq_false]
   intro x hx
   obtain ⟨k,hk,e⟩:=List.mem_iff_getElem.1 hx
   have:=h2 k (Nat.zero_le _) hk
   rw [zdk hk,e] at this
   simp [this]
  rw [this]
  decide
 ·rw [h1]
  symm
  have:l.any p = true:=List.any_eq_true.2 ⟨at_ l k,zbv h3,h4⟩
  rw [this]
  simp
theorem zpw (l:List Sea) (f:FnP) (h:(l.length ≤ 4096 ∧ f.out.length ≤ 4096) ∧ ∀ s ∈ l,YS f.w.y s):zaP Tryz.prog 144 [Enc.enc l,Enc.enc f] (· = Enc.enc (l.any (zf8 f))):=by
 obtain ⟨w,out⟩:=f
 obtain ⟨⟨h1,h1'⟩,h2⟩:=h
 dsimp only at h2 h1'
 have hd:=zgn w out
 rw [← ztK]
 simp only [zgj,w8C]
 simp only [zcf]
 refine cpz P135_ok Tryz.func144 zaB ?_
 rw [Tryz.ntmps144]
 simp only [Tryz.f144,zai,zam]
 simp (maxSteps:=4000000) only [go_sem,AV.one,zae,zac,zad,zan,zaq,zaa,czb,cza,↓reduceIte,zaQ,zgn,zbe,zgj,zab,onz,hd]
 all_goals exact auz
def P136 (g:FuncId):=(zas 144 (zbF (fun (l:List Sea) (f:FnP) => (l.length ≤ 4096 ∧ f.out.length ≤ 4096) ∧ ∀ s ∈ l,YS f.w.y s) (fun l f => l.any (zf8 f))) (P135):zaJ) g
theorem P136_ok:zaz Tryz.prog P136:=zah (zaM zpw) (P135_ok)
theorem zom (d:Option Nat):zaF P136 d = none:=(zag (by decide) d).trans (zon d)
attribute [go_sem] P136 zom
def ze8 (w:W8) (out:List Int):Bool:=w.ts.any fun s => zcr w.y s out
theorem zlJ (w:W8) (out:List Int) (h:(w.ts.length ≤ 4096 ∧ out.length ≤ 4096) ∧ ∀ s ∈ w.ts,YS w.y s):zaP Tryz.prog 109 [Enc.enc w,Enc.enc out] (· = Enc.enc (ze8 w out)):=by
 obtain ⟨⟨h1,h1'⟩,h2⟩:=h
 have hd:=zgn w out
 have hp:w.ts.any (zf8 ⟨w,out⟩) = ze8 w out:=rfl
 simp only [zbe,w8C]
 simp only [zcf]
 refine cpz P136_ok Tryz.func109 zaB ?_
 rw [Tryz.ntmps109]
 simp only [Tryz.f109,zai,zam]
 simp (maxSteps:=4000000) only [go_sem,AV.one,zae,zac,zad,zan,zaq,zaa,czb,cza,↓reduceIte,zaQ,zgn,zbe,zgj,zab,onz,hd,hp]
 all_goals exact auz
def P137 (g:FuncId):=(zas 109 (zbF (fun (w:W8) (out:List Int) => (w.ts.length ≤ 4096 ∧ out.length ≤ 4096) ∧ ∀ s ∈ w.ts,YS w.y s) ze8) (P136):zaJ) g
theorem zqY:zaz Tryz.prog P137:=zah (zaM zlJ) (P136_ok)
theorem zol (d:Option Nat):zaF P137 d = none:=(zag (by decide) d).trans (zom d)
attribute [go_sem] P137 zol
def znE (y:Yd) (n:Nat):Yd:={ y with hires:=y.hires.take n }
theorem cutY_ok {y:Yd} (h:VY y) (n:Nat):VY (znE y n) :=
 ⟨h.c5,by have:=h.r5; unfold znE; simp; omega,h.f,h.tr,h.h0,h.h5,h.ord,h.ch,fun x hx => h.hi x (List.mem_of_mem_take hx)⟩
def zfQ (y:Yd):List Sea:=(zba y).map (zb1 y.t)
def zic (y:Yd):Nat → Nat → Int × Int
 | 0,_ => (0,7)
 | f + 1,n => if ze8 ⟨znE y (n + 1),zfQ y⟩ [] then zic y f (n + 1) else (n,0)
def zhb (y:Yd):Int × Int:=if zbk y = 0 then zic y y.hires.length 0 else (0,zbk y)
def zpX (y:Yd) (i:Nat):List Rg:=if i = 0 then y.hires else y.hires.take i
theorem zq8 (y:Yd) (h:y.t.heights.length ≤ 4096 ∧ y.order.length ≤ 4096):zaP Tryz.prog 44 [Enc.enc y] (· = Enc.enc (zhb y)):=by
 simp only [zab,ydC]
 unfold zhb
 by_cases c:zbk y = 0
 case neg =>
  rw [if_neg c]
  simp only [zcf]
  refine cpz zqY Tryz.func44 zaB ?_
  rw [Tryz.ntmps44]
  simp only [Tryz.f44,zai,zam]
  refine zkI fun Q0 hQ0 => ?_
  refine zaC fun Q1 h1 => ?_
  simp (maxSteps:=4000000) only [go_sem,zae,zac,zad,zan,zaq,zaa,czb,cza,↓reduceIte,zaQ,zbe,zab,onz]
  all_goals (repeat' first | (with_reducible first | rfl | apply And.intro | assumption) | ((with_reducible show zaj _ _ = true); rfl)) <;> try first | omega | (simp only [InR]; omega)
  rw [h1]; clear h1 Q1; simp only [zaW,zaA]
  refine zaC fun Q1 h1 => ?_
  simp (maxSteps:=4000000) only [go_sem,zae,zac,zad,zan,zaq,zaa,czb,cza,↓reduceIte,zaQ,zbe,zab,onz]
  refine ⟨_,zd1 y h c (zcY ⟨zcc y _,trivial⟩),?_⟩
  rintro r m ⟨rfl,rfl⟩ _
  simp (maxSteps:=4000000) only [go_sem,zae,zac,zad,zan,zaq,zaa,czb,cza,↓reduceIte,zaQ,zbe,zab,onz]
  rw [h1]; clear h1 Q1
  simp only [zaW,zaA]
  simp (maxSteps:=4000000) only [go_sem,zae,zac,zad,zan,zaq,zaa,czb,cza,↓reduceIte,zaQ,zbe,zab,onz,c,hQ0,decide_true,decide_false]
 case pos =>
 rw [if_pos c]
 have hv:=zkp c
 have hcl:=zfk hv
 have hr5:=hv.r5
 simp only [zcf]
 refine cpz zqY Tryz.func44 zaB ?_
 rw [Tryz.ntmps44]
 simp only [Tryz.f44,zai,zam]
 refine zkI fun Q0 hQ0 => ?_
 refine zaC fun Q1 h1 => ?_
 simp (maxSteps:=4000000) only [go_sem,zae,zac,zad,zan,zaq,zaa,czb,cza,↓reduceIte,zaQ,zbe,zab,onz]
 all_goals (repeat' first | (with_reducible first | rfl | apply And.intro | assumption) | ((with_reducible show zaj _ _ = true); rfl)) <;> try first | omega | (simp only [InR]; omega)
 rw [h1]; clear h1 Q1; simp only [zaW,zaA]
 refine zaC fun Q1 h1 => ?_
 simp (maxSteps:=4000000) only [go_sem,zae,zac,zad,zan,zaq,zaa,czb,cza,↓reduceIte,zaQ,zbe,zab,onz]
 refine ⟨_,zer y hv (zcY ⟨zcc y _,trivial⟩),?_⟩
 rintro r m ⟨rfl,rfl⟩ _
 unfold zcy
 simp (maxSteps:=4000000) only [go_sem,zae,zac,zad,zan,zaq,zaa,czb,cza,↓reduceIte,zaQ,zbe,zab,onz]
 rw [h1]; clear h1 Q1
 simp only [zaW,zaA]
 have hsw:(zba y).map (zb1 y.t) = zfQ y:=rfl
 have hsl:(zba y).length = (zfQ y).length:=by simp [zfQ]
 rw [hsw,hsl]
 rw [hsl] at hcl
 have hys:∀ s ∈ zfQ y,YS y s:=fun s hs => askW hv s hs
 have hvb:∀ k st,zb6 k (.vec ((zfQ y).map EncE.cs) 2 st):=fun k st => by
  have:=ziY (zfQ y) 0 k st
  simpa using this
 obtain ⟨K,hK⟩:∃ K,zfQ y = K:=⟨_,rfl⟩
 have htk:(K.map (EncE.cs (α:=Sea))).take K.length = K.map EncE.cs:=cze (by simp)
 iterate 3 (
  refine zaC fun Q1 h1 => ?_
  simp (maxSteps:=4000000) only [go_sem,zae,zac,zad,zan,zaq,zaa,czb,cza,↓reduceIte,zaQ,zbe,zab,onz,decide_true,decide_false]
  all_goals (repeat' first | (with_reducible first | rfl | apply And.intro | assumption) | ((with_reducible show zaj _ _ = true); rfl)) <;> try first | omega | (simp only [InR]; omega)
  rw [h1]; clear h1 Q1; simp only [zaW,zaA])
 refine zaC fun Q2 h2 => ?_
 rw [zeM]
 rw [hK] at hys hvb hcl ⊢
 simp (maxSteps:=4000000) only [go_sem,zae,zac,zad,zan,zaq,zaa,czb,cza,↓reduceIte,zaQ,zbe,zab,onz]
 refine zbG (y.hires.length) [] [1,2,3,4,17] (fun i => [(18,.int .i64 i)]) (fun i m => m.set 2 (.cells [.int .i64 y.t.last,.sl (y.t.heights.map EncE.cs) .no,.int .i64 y.t.step,.sl (y.t.levels.map EncE.cs) .no,.sl (y.t.marks.map EncE.cs) .no,.int .i64 y.hands,.sl (y.chairs.map EncE.cs) .no,.sl (y.order.map EncE.cs) .no,.sl ((zpX y i).map EncE.cs) .no,.vec 4 K.length 0 K.length 2])) (fun i => zic y (y.hires.length - i) i = zic y y.hires.length 0) ?_ ?_ ?_ ?_
 ·rfl
 ·simp [AV.bare,zal,zaN,zaR,zak,zar,zaf,tokz1,lk,zaa,za3,zpX]
 ·intro i hi hI
  rw [show y.hires.length - i = (y.hires.length - (i + 1)) + 1 by omega,zic,hK] at hI
  have hi':=czH.2 hi
  have e1:((i:Int) + 1 - 0).toNat = i + 1:=by omega
  have hys':∀ s ∈ K,YS (znE y (i + 1)) s:=fun s hs => ⟨cutY_ok hv _,(hys s hs).rl⟩
  obtain ⟨W,hW⟩:∃ W:W8,⟨znE y (i + 1),K⟩ = W:=⟨_,rfl⟩
  have hdw:=(zaQ ⟨znE y (i + 1),K⟩).trans (congrArg some hW)
  simp only [znE] at hdw
  have hW1:W.ts.length ≤ 4096:=by rw [← hW]; exact hcl
  have hW2:∀ s ∈ W.ts,YS W.y s:=by rw [← hW]; exact hys'
  rw [hW] at hI
  cases c2:ze8 W [] <;>
   simp (maxSteps:=4000000) only [go_sem,zae,zac,zad,zan,zaq,zaa,czb,cza,↓reduceIte,zaQ,zbe,zab,onz,hi',e1,zhj,htk,hdw,c2]
  all_goals all_goals (repeat' first | (with_reducible first | rfl | apply And.intro | assumption) | ((with_reducible show zaj _ _ = true); rfl)) <;> try first | omega | (simp only [InR]; omega)
  ·rw [c2,if_neg (by simp)] at hI
   rw [h2]
   simp (maxSteps:=4000000) only [go_sem,zae,zac,zad,zan,zaq,zaa,czb,cza,↓reduceIte,zaQ,zbe,zab,onz,hQ0]
   rw [← hI]
  ·rw [c2,if_pos rfl] at hI
   refine nxt hi hI ?_
   simp [AV.bare,zal,zaN,zaR,zak,zar,zaf,tokz1,lk,zaa,za3,zpX,-List.map_take]
 ·intro hI
  simp (maxSteps:=4000000) only [go_sem,zae,zac,zad,zan,zaq,zaa,czb,cza,↓reduceIte,zaQ,zbe,zab,onz]
  rw [h2]
  simp only [zaW]
  simp (maxSteps:=4000000) only [go_sem,zae,zac,zad,zan,zaq,zaa,czb,cza,↓reduceIte,zaQ,zbe,zab,onz,hQ0]
  rw [← hI]; simp [zic]
def P138 (g:FuncId):=(zas 44 (zcC (fun y:Yd => y.t.heights.length ≤ 4096 ∧ y.order.length ≤ 4096) zhb) (P137):zaJ) g
theorem zkk:zaz Tryz.prog P138:=zah (zbj zq8) (zqY)
theorem zok (d:Option Nat):zaF P138 d = none:=(zag (by decide) d).trans (zol d)
attribute [go_sem] P138 zok
theorem cut_right (y:Yd) (n:Nat) (p:List Int) {k:Nat} (hk:k < n):zd6 (znE y n) p k = zd6 y p k:=by
 have:at_ (znE y n).hires k = at_ y.hires k:=by
  unfold znE at_
  simp [List.getD,czR,hk]
 unfold zd6
 rw [this]
 rfl
def someR (y:Yd) (n:Nat) (out:List Int):Bool:=(zaS y.t).any fun p => (List.range (min n y.hires.length)).all fun k => out.contains (k:Int) || zd6 y p k
theorem ztF {y:Yd} (hv:VY y) {p q:List Int} (h:Like y p q) {k:Nat} (hk:k < y.hires.length):zd6 y p k = zd6 y q k:=by
 have hi:=hv.hi _ (zbv hk)
 have hh:=hv.hrs
 unfold zd6
 rw [zhT _ _ _ (by omega),zhT _ _ _ (by omega),zni h y.order (by omega)]
theorem poss_some {y:Yd} (hv:VY y) (n:Nat) (out:List Int):ze8 ⟨znE y n,zfQ y⟩ out = someR y n out:=by
 have key:∀ p ∈ zba y,zcr (znE y n) (zb1 y.t p) out = (List.range (min n y.hires.length)).all fun k => out.contains (k:Int) || zd6 y p k:=fun p hp => by
  have hl:=zig hv hp
  have h1:=zmR (cutY_ok hv n) (hs:=p) hl out
  have h2:zb1 (znE y n).t p = zb1 y.t p:=rfl
  rw [h2] at h1
  rw [h1]
  have h3:(znE y n).hires.length = min n y.hires.length:=by simp [znE]
  rw [h3]
  apply zdA
  intro k hk
  have hk':k < min n y.hires.length:=by simpa using hk
  rw [cut_right y n p (by omega)]
 unfold ze8 zfQ someR
 dsimp only
 rw [Bool.eq_iff_iff,List.any_eq_true,List.any_eq_true]
 constructor
 ·rintro ⟨s,hs,h⟩
  obtain ⟨p,hp,rfl⟩:=czx.1 hs
  exact ⟨p,zhS hv hp,by rw [← key p hp]; exact h⟩
 ·rintro ⟨q,hq,h⟩
  obtain ⟨p,hp,hl⟩:=zlf hv hq
  refine ⟨zb1 y.t p,czx.2 ⟨p,hp,rfl⟩,?_⟩
  rw [key p hp,← h]
  apply zdA
  intro k hk
  have hk':k < min n y.hires.length:=by simpa using hk
  rw [ztF hv hl (by omega)]
theorem cutY_all (y:Yd):znE y y.hires.length = y:=by unfold znE; rw [czm]
structure LvM8 (y:Yd) (K:List Sea) (mem:List AObj):Prop where
 len:8 ≤ mem.length
 m0:zaa mem 0 = .cells [.int .i64 y.t.last,.sl (y.t.heights.map EncE.cs) .no,.int .i64 y.t.step,.sl (y.t.levels.map EncE.cs) .no,.sl (y.t.marks.map EncE.cs) .no,.int .i64 y.hands,.sl (y.chairs.map EncE.cs) .no,.sl (y.order.map EncE.cs) .no,.sl (y.hires.map EncE.cs) .no]
 m2:zaa mem 2 = .cells [.int .i64 y.t.last,.sl (y.t.heights.map EncE.cs) .no,.int .i64 y.t.step,.sl (y.t.levels.map EncE.cs) .no,.sl (y.t.marks.map EncE.cs) .no,.int .i64 y.hands,.sl (y.chairs.map EncE.cs) .no,.sl (y.order.map EncE.cs) .no,.sl (y.hires.map EncE.cs) .no,.vec 4 K.length 0 K.length 2]
 m4:zaa mem 4 = .vec (K.map EncE.cs) 2 K.length
 m5:zaa mem 5 = .cells [.ptr 2 0]
 m7:zaa mem 7 = .cells [.fn (.func 110) [] [.ptr 6 0,.ptr 5 0,.ptr 0 0,.ptr 7 0]]
 ok:∀ o ∈ mem,zb6 mem.length o
 m6:∃ f,zaa mem 6 = .cells [f]
theorem LvM8.set {y:Yd} {K:List Sea} {mem:List AObj} (h:LvM8 y K mem) (l:List Int):LvM8 y K (mem.set 6 (.cells [.sl (l.map EncE.cs) .no])):=by
 have h3:=h.len
 have key:∀ i,i ≠ 6 → ∀ o,zaa (mem.set 6 o) i = zaa mem i:=fun i hi o => by rw [zaD _ _ _ _ (by omega),if_neg hi]
 refine ⟨by simpa using h3,(key 0 (by omega) _).trans h.m0,(key 2 (by omega) _).trans h.m2,(key 4 (by omega) _).trans h.m4,(key 5 (by omega) _).trans h.m5,(key 7 (by omega) _).trans h.m7,fun o ho => ?_,?_⟩
 ·rw [czt]
  rcases List.mem_or_eq_of_mem_set ho with q | q
  ·exact h.ok o q
  ·subst q
   simp [zbm,zl8,zjY]
 ·exact ⟨_,by rw [zaD _ _ _ _ (by omega),if_pos rfl]⟩
theorem LvM8.push {y:Yd} {K:List Sea} {mem:List AObj} (h:LvM8 y K mem) (n:Nat):LvM8 y K (mem ++ [.tok n 1,.dead]):=by
 have h3:=h.len
 have key:∀ i,i < 8 → zaa (mem ++ [.tok n 1,.dead]) i = zaa mem i:=fun i hi => zaT (by omega)
 refine ⟨by simp; omega,(key 0 (by omega)).trans h.m0,(key 2 (by omega)).trans h.m2,(key 4 (by omega)).trans h.m4,(key 5 (by omega)).trans h.m5,(key 7 (by omega)).trans h.m7,fun o ho => ?_,by rw [key 6 (by omega)]; exact h.m6⟩
 rcases czv.1 ho with q | q
 ·exact zc9 (by simp) o (h.ok o q)
 ·simp at q
  rcases q with q | q <;> subst q <;> simp [zc5,zdj]
def zdH (mem:List AObj):Option (List Int) → List AObj
 | none => mem
 | some f => mem.set 6 (.cells [.sl (f.map EncE.cs) .no])
theorem zhD {y:Yd} {K:List Sea} {mem:List AObj} (h:LvM8 y K mem) (fo:Option (List Int)):LvM8 y K (zdH mem fo) ∧ (zdH mem fo).length = mem.length ∧ ∀ o,(zdH mem fo).set 6 o = mem.set 6 o:=by
 cases fo with
 | none => exact ⟨h,rfl,fun _ => rfl⟩
 | some f => exact ⟨h.set f,by simp [zdH],fun o => by simp [zdH]⟩
theorem zjM {mem mm:List AObj} {fo:Option (List Int)} (h:zdH mem fo = mm) (h3:8 ≤ mm.length) (hs:∀ o,mm.set 6 o = mem.set 6 o) (xs:List AObj) (fo':Option (List Int)):∃ fo2,zdH (mm ++ xs) fo' = zdH mem fo2 ++ xs ∧ ∀ f,fo' = some f → fo2 = some f:=by
 cases fo' with
 | none => exact ⟨fo,by rw [h]; rfl,fun f e => by cases e⟩
 | some f =>
  refine ⟨some f,?_,fun _ e => e⟩
  show (mm ++ xs).set 6 _ = mem.set 6 _ ++ xs
  rw [List.set_append_left _ _ (by omega),hs]
def leaveR8 (y:Yd) (K:List Sea) (mem:List AObj) (m:Nat) (out:List Nat) (frm:Nat) (r:AV) (mem':List AObj):Prop :=
 ∃ fo:Option (List Int),mem' = zdH mem fo ∧ r = .bool (zcT (ze8 ⟨y,K⟩) y.hires.length m out frm).isSome ∧ ∀ x,zcT (ze8 ⟨y,K⟩) y.hires.length m out frm = some x → fo = some (zci x)
theorem zoT {y:Yd} {K:List Sea} (hw:zu1 ⟨y,K⟩):∀ (m:Nat) (out:List Nat) (frm:Nat) (mem:List AObj),LvM8 y K mem → out.length + m ≤ 7 → frm ≤ 8 →
  zfS Tryz.prog 110 [.sl ((zci out).map EncE.cs) .no,.int .i64 frm,.int .i64 m,.ptr 6 0,.ptr 5 0,.ptr 0 0,.ptr 7 0] mem (leaveR8 y K mem m out frm):=by
 intro m
 induction m with
 | zero =>
  intro out frm mem hm hlen hfrm
  have h3:=hm.len
  have hm0:=hm.m0
  obtain ⟨f0,hm1⟩:=hm.m6
  have hcl:(zci out).length = out.length:=by simp [zci]
  have hS:=hm.set (zci out)
  have s0':=hS.m0
  have s2':=hS.m2
  have s4':=hS.m4
  have s5':=hS.m5
  have hm5:=hm.m5
  have hdw:=zaQ ⟨y,K⟩
  dsimp only at hdw
  have hys:=hw.ys
  have hl1:=hw.l1
  dsimp only at hys hl1
  have htk:(K.map (EncE.cs (α:=Sea))).take K.length = K.map EncE.cs:=cze (by simp)
  have hok:=(hm.set (zci out)).ok
  refine zch (Φ:=P138) Tryz.func110 rfl (by rfl) (by rw [Tryz.ntmps110]; simp) zaB zkk (by simp [AV.strip,AV.strip1,Tk.strip]) ?_
  rw [Tryz.ntmps110]
  simp only [Tryz.f110,zai,zam]
  simp (maxSteps:=4000000) only [go_sem,AV.one,zae,zac,zad,zan,zaq,czb,cza,↓reduceIte,zaQ,zbe,zab,zay,onz,hm0,hm1,hm5,s0',s2',s4',s5',hdw,htk]
  all_goals (repeat' first | (with_reducible first | rfl | apply And.intro | assumption) | ((with_reducible show zaj _ _ = true); rfl)) <;> try first | omega | (simp only [InR]; omega)
  ·refine ⟨some (zci out),?_,?_,fun x hx => ?_⟩
   ·rw [cze (by simp)]; rfl
   ·simp only [zcT]
    cases ze8 ⟨y,K⟩ (zci out) <;> rfl
   ·simp only [zcT] at hx
    split at hx
    ·cases hx; rfl
    ·cases hx
  ·trivial
  ·rw [cze (by simp)]
   rw [czt] at hok
   exact hok
 | succ m ih =>
  intro out frm mem hm hlen hfrm
  have h3:=hm.len
  have hcl:∀ l:List Nat,(zci l).length = l.length:=fun l => by simp [zci]
  have hml:=hw.vy.r5
  dsimp only at hml
  have hml2:(y.hires.map EncE.cs).length = y.hires.length:=by simp
  obtain ⟨f0,hm1⟩:=hm.m6
  have hG:∀ k,zcT (ze8 ⟨y,K⟩) y.hires.length m (out ++ [frm + k]) (frm + k + 1) = (fun k => zcT (ze8 ⟨y,K⟩) y.hires.length m (out ++ [frm + k]) (frm + k + 1)) k:=fun k => rfl
  have hm0:=hm.m0
  have hm7:=hm.m7
  have hm5:=hm.m5
  refine zch (Φ:=P138) Tryz.func110 rfl (by rfl) (by rw [Tryz.ntmps110]; simp) zaB zkk (by simp [AV.strip,AV.strip1,Tk.strip]) ?_
  rw [Tryz.ntmps110]
  simp only [Tryz.f110,zai,zam]
  simp (maxSteps:=4000000) only [go_sem,AV.one,zae,zac,zad,zan,zaq,czb,cza,↓reduceIte,zaQ,zbe,zab,zay,onz,hm0,hm1,show decide (((m + 1:Nat):Int) = 0) = false by simp; omega]
  refine zjN [] [0,2,5,6,10] (fun b:Nat × Option (List Int) => [(11,.int .i64 ((frm + b.1:Nat):Int))]) (fun b _ => zdH mem b.2) (fun b => b.1 ≤ y.hires.length - m - frm ∧ (∀ j,j < b.1 → zcT (ze8 ⟨y,K⟩) y.hires.length m (out ++ [frm + j]) (frm + j + 1) = none)) (fun b => y.hires.length - m - frm - b.1) ((0,none)) ?_ ?_ ?_
  ·exact ⟨Nat.zero_le _,fun j hj => by omega⟩
  ·refine ⟨rfl,rfl,rfl,czf _,za0 _,?_,zby hm.ok,trivial⟩
   show zaN _ mem.length _
   simp [AV.bare,zal,zaN,zaR,zak,zar,zaf,tokz1,lk,zaa,za3,show 0 < mem.length by omega,show 5 < mem.length by omega,show 6 < mem.length by omega,show 7 < mem.length by omega]
  ·rintro ⟨k,fo⟩ ⟨hk,hno⟩
   simp only at hk hno
   obtain ⟨hL,hLl,hLs⟩:=zhD hm fo
   generalize hmm:zdH mem fo = mm at hL hLl hLs
   have g0:=hL.m0
   have g2:=hL.m7
   have g3:=hL.len
   by_cases hkN:k < y.hires.length - m - frm
   ·have c1:decide (((frm + k:Nat):Int) ≤ (y.hires.length:Int) - ((m + 1:Nat):Int)) = true:=by simp; omega
    have q0:zaa (mm ++ [.dead,.dead]) 7 = zaa mm 7:=by unfold zaa; simp only [List.getD]; rw [czi (by omega)]
    have q1:∀ x y:AObj,zaa (mm ++ [x,y]) mm.length = x:=fun x y => by have:=zaK mm [x,y] 0; rw [Nat.add_zero] at this; exact this
    have q2:∀ x y z:AObj,(mm ++ [x,y]).set mm.length z = mm ++ [z,y]:=fun x y z => by have:=zbN mm [x,y] 0 z; rw [Nat.add_zero] at this; exact this
    have hlt:∀ x y:AObj,mm.length < (mm ++ [x,y]).length:=fun x y => by simp
    rw [g2] at q0
    have hco:=hcl out
    simp (maxSteps:=4000000) only [go_sem,AV.one,zae,zac,zad,zan,zaq,czb,cza,↓reduceIte,zaQ,zbe,zab,zay,onz,g0,g2,q0,q1,q2,hlt,c1,hml2]
    have hcall:=ih (out ++ [frm + k]) (frm + k + 1) (mm ++ [.tok ((zci out).length + 1) 1,.dead]) (hL.push _) (by simp; omega) (by omega)
    have e1:(zci (out ++ [frm + k])).map EncE.cs = (zci out).map EncE.cs ++ [[AV.int .i64 ((frm + k:Nat):Int)]]:=by rw [zuc]; simp [zeF]
    rw [e1,show ((frm + k + 1:Nat):Int) = ((frm + k:Nat):Int) + 1 by omega,show ((m:Nat):Int) = ((m + 1:Nat):Int) - 1 by omega] at hcall
    refine ⟨(by simp only [InR]; omega),rfl,by omega,by omega,(by simp only [InR]; omega),(by simp only [InR]; omega),[],by rfl,_,zbE (zqs hcall),?_⟩
    rintro r mem' ⟨r0,rfl,⟨fo',rfl,rfl,hf⟩,hlen2⟩ _
    refine ⟨trivial,?_⟩
    obtain ⟨fo2,hp1,hp2⟩:=zjM hmm g3 hLs [.tok ((zci out).length + 1) 1,.dead] fo'
    obtain ⟨hM,hMl,_⟩:=zhD hm fo2
    have hMok:=hM.ok
    rw [hMl] at hMok
    rw [hp1]
    have htk:(zdH mem fo2 ++ [AObj.tok ((zci out).length + 1) 1,AObj.dead]).take mem.length = zdH mem fo2:=by
     rw [List.take_append_of_le_length (by omega),cze (by omega)]
    cases c:zcT (ze8 ⟨y,K⟩) y.hires.length m (out ++ [frm + k]) (frm + k + 1) with
    | some x =>
     simp only [AV.strip,AV.un,AV.av,Option.isSome_some,htk]
     refine ⟨trivial,fun _ => ⟨⟨fo2,rfl,?_,fun yy hy => ?_⟩,trivial,hMok⟩,fun h => by cases h⟩
     ·have:zcT (ze8 ⟨y,K⟩) y.hires.length (m + 1) out frm = some x:=zhN hkN hno c
      rw [this]; rfl
     ·have:zcT (ze8 ⟨y,K⟩) y.hires.length (m + 1) out frm = some x:=zhN hkN hno c
      rw [this] at hy
      cases hy
      exact hp2 _ (hf x c)
    | none =>
     simp only [AV.strip,AV.un,AV.av,Option.isSome_none,htk]
     refine ⟨trivial,fun h => (by cases h),fun _ => ⟨(by simp only [InR]; omega),(k + 1,fo2),⟨by dsimp only; omega,fun j hj => ?_⟩,by dsimp only; omega,?_⟩⟩
     ·by_cases e:j = k
      ·subst e; exact c
      ·exact hno j (by dsimp only at hj; omega)
     ·refine zbl ⟨rfl,rfl,rfl,Nat.le_of_eq hMl.symm,?_,?_,zby hM.ok,trivial⟩
      ·have key:∀ (l r:List AObj),zak l (l ++ r):=by
        intro l
        induction l with
        | nil => intro r; trivial
        | cons a l ih => intro r; exact ⟨rfl,ih r⟩
       exact key _ _
      ·show zaN _ (zdH mem fo2).length _
       rw [hMl]
       simp [AV.bare,zal,zaN,zaR,zak,zar,zaf,tokz1,lk,zaa,za3,show 0 < mem.length by omega,show 5 < mem.length by omega,show 6 < mem.length by omega,show 7 < mem.length by omega]
       omega
   ·have c1:decide (((frm + k:Nat):Int) ≤ (y.hires.length:Int) - ((m + 1:Nat):Int)) = false:=by simp; omega
    simp (maxSteps:=4000000) only [go_sem,AV.one,zae,zac,zad,zan,zaq,czb,cza,↓reduceIte,zaQ,zbe,zab,zay,onz,g0,g2,c1,hml2]
    have hnone:zcT (ze8 ⟨y,K⟩) y.hires.length (m + 1) out frm = none:=zl0 fun j hj => hno j (by omega)
    have hMok:=hL.ok
    rw [hLl] at hMok
    rw [cze (by omega)]
    exact ⟨(by simp only [InR]; omega),⟨fo,hmm.symm,by rw [hnone]; rfl,fun x hx => by rw [hnone] at hx; cases hx⟩,trivial,hMok⟩
def PossY (y:Yd) (S:Nat → Prop):Prop:=∃ p ∈ zaS y.t,∀ k,k < y.hires.length → S k → zd6 y p k = true
theorem psY {y:Yd} (hv:VY y):PS y.hires.length (PossY y) (allY y) (ze8 ⟨y,zfQ y⟩):=by
 refine ⟨fun S T h => ?_,fun S h => ?_,fun m hm => ?_,fun l => ?_⟩
 ·rintro ⟨p,hp,hr⟩
  exact ⟨p,hp,fun k hk hT => hr k hk (h k hk hT)⟩
 ·obtain ⟨p,hp⟩:=List.exists_mem_of_ne_nil _ hv.tr
  exact ⟨p,hp,fun k hk hS => absurd hS (h k hk)⟩
 ·unfold canB allY PossY bitsY
  rw [List.any_eq_true]
  have key:∀ p,((((rbp (zd6 y p) y.hires.length:Nat):Int).toNat &&& (m:Int).toNat:Nat):Int) = (m:Int) ↔ ∀ k,k < y.hires.length → m.testBit k = true → zd6 y p k = true:=by
   intro p
   rw [czF,czF,Int.natCast_inj,zln]
   constructor
   ·intro h k hk hb
    have:=h k hb
    rw [zgZ] at this
    simp at this
    exact this.2
   ·intro h k hb
    have hk:=zej hm hb
    rw [zgZ,h k hk hb]
    simpa using hk
  constructor
  ·rintro ⟨x,hx,hd⟩
   obtain ⟨p,hp,rfl⟩:=czx.1 hx
   exact ⟨p,hp,(key p).1 (by simpa using hd)⟩
  ·rintro ⟨p,hp,hr⟩
   exact ⟨_,czx.2 ⟨p,hp,rfl⟩,by simpa using (key p).2 hr⟩
 ·have h:=poss_some hv y.hires.length (zci l)
  rw [cutY_all] at h
  rw [h]
  unfold someR PossY
  rw [Nat.min_self,List.any_eq_true]
  have hc:∀ k:Nat,(zci l).contains (k:Int) = true ↔ k ∈ l:=fun k => by
   unfold zci
   rw [List.contains_iff_mem,czx]
   constructor
   ·rintro ⟨a,ha,e⟩
    have:a = k:=by omega
    rw [← this]; exact ha
   ·intro h; exact ⟨k,h,rfl⟩
  constructor
  ·rintro ⟨p,hp,h⟩
   refine ⟨p,hp,fun k hk hno => ?_⟩
   have:=(czG.1 h) k (List.mem_range.2 hk)
   rw [czI,hc] at this
   exact this.resolve_left hno
  ·rintro ⟨p,hp,h⟩
   refine ⟨p,hp,czG.2 fun k hk => ?_⟩
   rw [czI,hc]
   by_cases e:k ∈ l
   ·exact .inl e
   ·exact .inr (h k (List.mem_range.1 hk) e)
def zg6 (y:Yd):List Int × Int:=if zbk y = 0 then (zhI (allY y) (2 ^ y.hires.length - 1) (2 ^ y.hires.length),0) else ([],zbk y)
theorem zq5 (y:Yd) (h:y.t.heights.length ≤ 4096 ∧ y.order.length ≤ 4096):zaP Tryz.prog 45 [Enc.enc y] (· = Enc.enc (zg6 y)):=by
 simp only [zab,ydC]
 unfold zg6
 by_cases c:zbk y = 0
 case neg =>
  rw [if_neg c]
  simp only [zcf]
  refine cpz zkk Tryz.func45 zaB ?_
  rw [Tryz.ntmps45]
  simp only [Tryz.f45,zai,zam]
  refine zkI fun Q0 hQ0 => ?_
  refine zaC fun Q1 h1 => ?_
  simp (maxSteps:=4000000) only [go_sem,zae,zac,zad,zan,zaq,zaa,czb,cza,↓reduceIte,zaQ,zbe,zab,zay,onz]
  all_goals (repeat' first | (with_reducible first | rfl | apply And.intro | assumption) | ((with_reducible show zaj _ _ = true); rfl)) <;> try first | omega | (simp only [InR]; omega)
  rw [h1]; clear h1 Q1; simp only [zaW,zaA]
  refine zaC fun Q1 h1 => ?_
  simp (maxSteps:=4000000) only [go_sem,zae,zac,zad,zan,zaq,zaa,czb,cza,↓reduceIte,zaQ,zbe,zab,zay,onz]
  refine ⟨_,zd1 y h c (zcY ⟨zcc y _,trivial⟩),?_⟩
  rintro r m ⟨rfl,rfl⟩ _
  simp (maxSteps:=4000000) only [go_sem,zae,zac,zad,zan,zaq,zaa,czb,cza,↓reduceIte,zaQ,zbe,zab,zay,onz]
  rw [h1]; clear h1 Q1
  simp only [zaW,zaA]
  simp (maxSteps:=4000000) only [go_sem,zae,zac,zad,zan,zaq,zaa,czb,cza,↓reduceIte,zaQ,zbe,zab,zay,onz,c,hQ0,decide_true,decide_false]
 case pos =>
 rw [if_pos c]
 have hv:=zkp c
 have hcl:=zfk hv
 have hr5:=hv.r5
 obtain ⟨x0,hx1,hx2,hx3⟩:=ztG (psY hv)
 rw [hx2]
 simp only [zcf]
 refine cpz zkk Tryz.func45 zaB ?_
 rw [Tryz.ntmps45]
 simp only [Tryz.f45,zai,zam]
 refine zkI fun Q0 hQ0 => ?_
 refine zaC fun Q1 h1 => ?_
 simp (maxSteps:=4000000) only [go_sem,zae,zac,zad,zan,zaq,zaa,czb,cza,↓reduceIte,zaQ,zbe,zab,zay,onz]
 all_goals (repeat' first | (with_reducible first | rfl | apply And.intro | assumption) | ((with_reducible show zaj _ _ = true); rfl)) <;> try first | omega | (simp only [InR]; omega)
 rw [h1]; clear h1 Q1; simp only [zaW,zaA]
 refine zaC fun Q1 h1 => ?_
 simp (maxSteps:=4000000) only [go_sem,zae,zac,zad,zan,zaq,zaa,czb,cza,↓reduceIte,zaQ,zbe,zab,zay,onz]
 refine ⟨_,zer y hv (zcY ⟨zcc y _,trivial⟩),?_⟩
 rintro r m ⟨rfl,rfl⟩ _
 unfold zcy
 simp (maxSteps:=4000000) only [go_sem,zae,zac,zad,zan,zaq,zaa,czb,cza,↓reduceIte,zaQ,zbe,zab,zay,onz]
 rw [h1]; clear h1 Q1
 simp only [zaW,zaA]
 have hsw:(zba y).map (zb1 y.t) = zfQ y:=rfl
 have hsl:(zba y).length = (zfQ y).length:=by simp [zfQ]
 rw [hsw,hsl]
 rw [hsl] at hcl
 have hys:∀ s ∈ zfQ y,YS y s:=fun s hs => askW hv s hs
 have hvb:∀ k st,zb6 k (.vec ((zfQ y).map EncE.cs) 2 st):=fun k st => by
  have:=ziY (zfQ y) 0 k st
  simpa using this
 obtain ⟨K,hK⟩:∃ K,zfQ y = K:=⟨_,rfl⟩
 rw [hK] at hys hvb hcl hx1 ⊢
 have hw:zu1 ⟨y,K⟩:=⟨hv,hys,hcl⟩
 iterate 2 (
  refine zaC fun Q1 h1 => ?_
  simp (maxSteps:=4000000) only [go_sem,zae,zac,zad,zan,zaq,zaa,czb,cza,↓reduceIte,zaQ,zbe,zab,zay,onz,decide_true,decide_false]
  all_goals (repeat' first | (with_reducible first | rfl | apply And.intro | assumption) | ((with_reducible show zaj _ _ = true); rfl)) <;> try first | omega | (simp only [InR]; omega)
  rw [h1]; clear h1 Q1; simp only [zaW,zaA])
 iterate 3 (
  refine zaC fun Q1 h1 => ?_
  simp (maxSteps:=4000000) only [go_sem,zae,zac,zad,zan,zaq,zaa,czb,cza,↓reduceIte,zaQ,zbe,zab,zay,onz,decide_true,decide_false]
  all_goals (repeat' first | (with_reducible first | rfl | apply And.intro | assumption) | ((with_reducible show zaj _ _ = true); rfl)) <;> try first | omega | (simp only [InR]; omega)
  rw [h1]; clear h1 Q1; simp only [zaW,zaA])
 simp (maxSteps:=4000000) only [go_sem,zae,zac,zad,zan,zaq,zaa,czb,cza,↓reduceIte,zaQ,zbe,zab,zay,onz,hQ0]
 all_goals (repeat' first | (with_reducible first | rfl | apply And.intro | assumption) | ((with_reducible show zaj _ _ = true); rfl)) <;> try first | omega | (simp only [InR]; omega)
 refine zjN [] [2,3,6,7,21] (fun b:Nat × Option (List Int) => [(22,.int .i64 b.1)]) (fun b m => zdH m b.2) (fun b => b.1 ≤ y.hires.length + 1 ∧ zg5 (ze8 ⟨y,K⟩) y.hires.length (y.hires.length + 1 - b.1) b.1 = some x0) (fun b => y.hires.length + 1 - b.1) ((0,none)) ?_ ?_ ?_
 ·exact ⟨Nat.zero_le _,hx1⟩
 ·simp [AV.bare,zal,zaN,zaR,zak,zar,zaf,tokz1,lk,zaa,za3,zdH,-List.map_map]
  try exact fun e he c hc => hvb 8 K.length e he c hc
 ·rintro ⟨k,fo⟩ ⟨hk,hI⟩
  simp only at hk hI
  simp only [zcj,zaf]
  have hm:LvM8 y K [yC y,yC y,.cells [.int .i64 y.t.last,.sl (y.t.heights.map EncE.cs) .no,.int .i64 y.t.step,.sl (y.t.levels.map EncE.cs) .no,.sl (y.t.marks.map EncE.cs) .no,.int .i64 y.hands,.sl (y.chairs.map EncE.cs) .no,.sl (y.order.map EncE.cs) .no,.sl (y.hires.map EncE.cs) .no,.vec 4 K.length 0 K.length 2],
    .cells [.ptr 2 0],.vec (K.map EncE.cs) 2 K.length,.cells [.ptr 2 0],.cells [.sl [] .full],.cells [.fn (.func 110) [] [.ptr 6 0,.ptr 5 0,.ptr 0 0,.ptr 7 0]]]:=by
   refine ⟨by simp,rfl,rfl,rfl,rfl,rfl,zcY ⟨zcc y _,zcc y _,by simp [AV.bare,zal,zaN,zaR,zak,zar,zaf,tokz1,lk,zaa,za3,-List.map_map],by simp [AV.bare,zal,zaN,zaR,zak,zar,zaf,tokz1,lk,zaa,za3],hvb _ _,by simp [AV.bare,zal,zaN,zaR,zak,zar,zaf,tokz1,lk,zaa,za3],by simp [AV.bare,zal,zaN,zaR,zak,zar,zaf,tokz1,lk,zaa,za3],by simp [AV.bare,zal,zaN,zaR,zak,zar,zaf,tokz1,lk,zaa,za3],trivial⟩,_,rfl⟩
  unfold yC at hm
  obtain ⟨hL,hLl,hLs⟩:=zhD hm fo
  have hm':=hm
  generalize hmm:zdH _ fo = mm at hL hLl hLs ⊢
  have g0:=hL.m0
  have g7:=hL.m7
  have g3:=hL.len
  by_cases hkN:k < y.hires.length + 1
  ·have c1:decide ((k:Int) < (y.hires.length:Int) + 1) = true:=by simp; omega
   have hcall:=zoT hw k [] 0 mm hL (by simp; omega) (by omega)
   simp (maxSteps:=4000000) only [go_sem,zae,zac,zad,zan,zaq,czb,cza,↓reduceIte,zaQ,zbe,zab,zay,onz,g0,g7,c1]
   refine ⟨_,zbE (zud hcall),?_⟩
   rintro r mem' ⟨r0,rfl,⟨fo',rfl,rfl,hf⟩,hlen2⟩ _
   obtain ⟨fo2,hp1,hp2⟩:=zjM hmm g3 hLs [] fo'
   rw [List.append_nil,List.append_nil] at hp1
   rw [hp1]
   rw [show y.hires.length + 1 - k = (y.hires.length - k) + 1 by omega,zg5] at hI
   cases c2:zcT (ze8 ⟨y,K⟩) y.hires.length k [] 0 with
   | some x =>
    rw [c2] at hI
    cases hI
    have:=hp2 _ (hf x0 c2)
    subst this
    simp (maxSteps:=4000000) only [go_sem,zae,zac,zad,zan,zaq,zaa,czb,cza,↓reduceIte,zaQ,zbe,zab,zay,onz,zdH]
    all_goals (repeat' first | (with_reducible first | rfl | apply And.intro | assumption) | ((with_reducible show zaj _ _ = true); rfl)) <;> try first | omega | (simp only [InR]; omega)
   | none =>
    rw [c2] at hI
    simp (maxSteps:=4000000) only [go_sem,zae,zac,zad,zan,zaq,czb,cza,↓reduceIte,zaQ,zbe,zab,zay,onz]
    obtain ⟨hM,hMl,_⟩:=zhD hm' fo2
    refine ⟨(by simp only [InR]; omega),(k + 1,fo2),⟨by dsimp only; omega,?_⟩,by dsimp only; omega,?_⟩
    ·rw [show y.hires.length + 1 - (k + 1) = y.hires.length - k by omega]; exact hI
    ·refine zbl ⟨rfl,rfl,rfl,Nat.zero_le _,za0 _,?_,zby hM.ok,trivial⟩
     show zaN _ (zdH _ fo2).length _
     rw [hMl]
     simp [AV.bare,zal,zaN,zaR,zak,zar,zaf,tokz1,lk,zaa,za3,-List.map_map]
  ·exfalso
   rw [show y.hires.length + 1 - k = 0 by omega,zg5] at hI
   cases hI
def P139 (g:FuncId):=(zas 45 (zcC (fun y:Yd => y.t.heights.length ≤ 4096 ∧ y.order.length ≤ 4096) zg6) (P138):zaJ) g
theorem P139_ok:zaz Tryz.prog P139:=zah (zbj zq5) (zkk)
theorem zoj (d:Option Nat):zaF P139 d = none:=(zag (by decide) d).trans (zok d)
attribute [go_sem] P139 zoj
end Go.Proofs
