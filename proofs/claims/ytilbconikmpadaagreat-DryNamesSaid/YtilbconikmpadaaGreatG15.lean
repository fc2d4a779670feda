/- The texts H11, H12, H13, H14, joined. -/
import Derived.Test.YtilbconikmpadaaGreatG14
set_option linter.all false
namespace Go.Proofs
open Go.Fs
set_option maxHeartbeats 4000000
set_option maxRecDepth 8000
inductive FnFine where
 | hours (y:Yd) (o:List Int) (c:Int)
 | free (y:Yd) (o:List Int) (c h:Int)
 | lost (y:Yd) (o:List Int)
 | best
def FnFine.ask:FnFine → Bool
 | .hours y o c => za8 y.chairs.length o && inB c 0 ((y.chairs.length:Int) - 1)
 | .free y o c h => za8 y.chairs.length o && inB c 0 ((y.chairs.length:Int) - 1) && inB h 0 y.t.last
 | .lost y o => za8 y.chairs.length o
 | .best => true
def FnFine.ok (z:Yd):FnFine → Prop
 | .hours y o c => y = z ∧ o.length ≤ 4096
 | .free y o c h => y = z ∧ o.length ≤ 4096
 | .lost y o => y = z ∧ o.length ≤ 4096
 | .best => True
def FnFine.av:FnFine → AV
 | .hours y o c => .fn (.func 98) [] [.ref (ydC y) 0,.ref [.sl (o.map EncE.cs) .no] 0,.ref [.int .i64 c] 0]
 | .free y o c h => .fn (.func 92) [] [.ref (ydC y) 0,.ref [.sl (o.map EncE.cs) .no] 0,.ref [.int .i64 c] 0,.ref [.int .i64 h] 0]
 | .lost y o => .fn (.func 102) [] [.ref (ydC y) 0,.ref [.sl (o.map EncE.cs) .no] 0]
 | .best => .fn (.func 106) [] []
def zif:AV → Option FnFine
 | .fn (.func g) [] [.ref a 0,.ref [.sl o .no] 0,.ref [.int .i64 c] 0] =>
  if g = 98 then match ziS a,(zdC o:Option (List Int)) with
   | some y,some o => some (.hours y o c)
   | _,_ => none
  else none
 | .fn (.func g) [] [.ref a 0,.ref [.sl o .no] 0,.ref [.int .i64 c] 0,.ref [.int .i64 h] 0] =>
  if g = 92 then match ziS a,(zdC o:Option (List Int)) with
   | some y,some o => some (.free y o c h)
   | _,_ => none
  else none
 | .fn (.func g) [] [.ref a 0,.ref [.sl o .no] 0] =>
  if g = 102 then match ziS a,(zdC o:Option (List Int)) with
   | some y,some o => some (.lost y o)
   | _,_ => none
  else none
 | .fn (.func g) [] [] => if g = 106 then some .best else none
 | _ => none
theorem zqi {v:AV} {f:FnFine} (h:zif v = some f):v = f.av:=by
 unfold zif at h
 split at h
 ·split at h
  ·rename_i e
   split at h
   ·rename_i h1 h2
    cases h
    rw [e,zfj h1,zbx _ _ h2]; rfl
   ·cases h
  ·cases h
 ·split at h
  ·rename_i e
   split at h
   ·rename_i h1 h2
    cases h
    rw [e,zfj h1,zbx _ _ h2]; rfl
   ·cases h
  ·cases h
 ·split at h
  ·rename_i e
   split at h
   ·rename_i h1 h2
    cases h
    rw [e,zfj h1,zbx _ _ h2]; rfl
   ·cases h
  ·cases h
 ·split at h
  ·rename_i e; cases h; rw [e]; rfl
  ·cases h
 ·cases h
theorem zft:∀ (n m:Nat) (v:AV),zbr n v → n ≤ m → zbr m v:=by
 intro n
 induction n with
 | zero => intro m v h; simp [zbr] at h
 | succ n ih =>
  intro m v h hm
  obtain ⟨m,rfl⟩:∃ k,m = k + 1:=⟨m - 1,by omega⟩
  cases v <;> simp only [zbr] at h ⊢
  ·exact fun c hc => ih m c (h c hc) (by omega)
  ·exact fun c hc => ih m c (h c hc) (by omega)
  ·exact ⟨h.1,fun e he c hc => ih m c (h.2 e he c hc) (by omega)⟩
  ·exact fun c hc => ih m c (h c hc) (by omega)
  ·exact ⟨fun c hc => ih m c (h.1 c hc) (by omega),fun c hc => ih m c (h.2 c hc) (by omega)⟩
  ·exact fun c hc => ih m c (h c hc) (by omega)
theorem fine_pure (f:FnFine):zbr 5 f.av:=by
 have hy:∀ y:Yd,zbr 4 (.ref (ydC y) 0):=fun y c hc => zft 2 3 c (zfo y c hc) (by omega)
 have ho:∀ o:List Int,zbr 4 (.ref [.sl (o.map EncE.cs) .no] 0):=fun o c hc => by
  simp only [czn,czk,or_false] at hc
  subst hc
  refine ⟨rfl,fun e he c hc => ?_⟩
  obtain ⟨x,_,rfl⟩:=czx.1 he
  exact zft 1 2 c (EncE.ok x c hc) (by omega)
 have hi:∀ n:Int,zbr 4 (.ref [.int .i64 n] 0):=fun n c hc => by
  simp only [czn,czk,or_false] at hc
  subst hc
  trivial
 cases f with
 | hours y o c =>
  refine ⟨fun _ h => (by cases h),fun a ha => ?_⟩
  simp only [czn,czk,or_false] at ha
  rcases ha with rfl | rfl | rfl
  ·exact hy y
  ·exact ho o
  ·exact hi c
 | free y o c h =>
  refine ⟨fun _ h => (by cases h),fun a ha => ?_⟩
  simp only [czn,czk,or_false] at ha
  rcases ha with rfl | rfl | rfl | rfl
  ·exact hy y
  ·exact ho o
  ·exact hi c
  ·exact hi h
 | lost y o =>
  refine ⟨fun _ h => (by cases h),fun a ha => ?_⟩
  simp only [czn,czk,or_false] at ha
  rcases ha with rfl | rfl
  ·exact hy y
  ·exact ho o
 | best => exact ⟨fun _ h => (by cases h),fun _ h => (by cases h)⟩
instance:Enc FnFine where
 enc f:=f.av
 dec:=zif
 law v x h:=zqi h
 dep:=5
 ok:=fine_pure
theorem zau (y:Yd) (o:List Int) (c:Int):(Enc.dec (.fn (.func 98) [] [.ref [.int .i64 y.t.last,.sl (y.t.heights.map EncE.cs) .no,.int .i64 y.t.step,.sl (y.t.levels.map EncE.cs) .no,.sl (y.t.marks.map EncE.cs) .no,.int .i64 y.hands,.sl (y.chairs.map EncE.cs) .no,.sl (y.order.map EncE.cs) .no,.sl (y.hires.map EncE.cs) .no] 0,.ref [.sl (o.map EncE.cs) .no] 0,.ref [.int .i64 c] 0]):Option FnFine) = some (.hours y o c):=by
 have e1:=zjZ y
 have e2:=zdo o
 rw [ydC] at e1
 simp only [Enc.dec,zif,if_true,e1,e2]
theorem zav (y:Yd) (o:List Int) (c h:Int):(Enc.dec (.fn (.func 92) [] [.ref [.int .i64 y.t.last,.sl (y.t.heights.map EncE.cs) .no,.int .i64 y.t.step,.sl (y.t.levels.map EncE.cs) .no,.sl (y.t.marks.map EncE.cs) .no,.int .i64 y.hands,.sl (y.chairs.map EncE.cs) .no,.sl (y.order.map EncE.cs) .no,.sl (y.hires.map EncE.cs) .no] 0,.ref [.sl (o.map EncE.cs) .no] 0,.ref [.int .i64 c] 0,.ref [.int .i64 h] 0]):Option FnFine) = some (.free y o c h):=by
 have e1:=zjZ y
 have e2:=zdo o
 rw [ydC] at e1
 simp only [Enc.dec,zif,if_true,e1,e2]
theorem zat (y:Yd) (o:List Int):(Enc.dec (.fn (.func 102) [] [.ref [.int .i64 y.t.last,.sl (y.t.heights.map EncE.cs) .no,.int .i64 y.t.step,.sl (y.t.levels.map EncE.cs) .no,.sl (y.t.marks.map EncE.cs) .no,.int .i64 y.hands,.sl (y.chairs.map EncE.cs) .no,.sl (y.order.map EncE.cs) .no,.sl (y.hires.map EncE.cs) .no] 0,.ref [.sl (o.map EncE.cs) .no] 0]):Option FnFine) = some (.lost y o):=by
 have e1:=zjZ y
 have e2:=zdo o
 rw [ydC] at e1
 simp only [Enc.dec,zif,if_true,e1,e2]
theorem zaw:(Enc.dec (.fn (.func 106) [] []):Option FnFine) = some .best:=rfl
theorem za4 (f:FnFine):Enc.enc f = f.av:=rfl
theorem zpW (f:RefYd) (o:RefC (List Int)) (c:RefC Int) (h:f.y.chairs.length ≤ 4096 ∧ o.x.length ≤ 4096):zaP Tryz.prog 98 [Enc.enc f,Enc.enc o,Enc.enc c] (· = Enc.enc (FnFine.hours f.y o.x c.x).ask):=by
 obtain ⟨y⟩:=f
 obtain ⟨o⟩:=o
 obtain ⟨c⟩:=c
 simp only [zaI,ydC,zek,FnFine.ask]
 have h1:=h.1
 have h2:=h.2
 dsimp only at h1 h2
 simp only [zcf]
 refine cpz zil Tryz.func98 zaB ?_
 rw [Tryz.ntmps98]
 simp only [Tryz.f98,zai,zam]
 simp (maxSteps:=4000000) only [go_sem,AV.one,zae,zac,zad,zan,zaq,zaa,czb,cza,↓reduceIte,zaL,zau,zav,zat,zaw,zaI,zab,onz]
 all_goals (repeat' first | (with_reducible first | rfl | apply And.intro | assumption) | ((with_reducible show zaj _ _ = true); rfl)) <;> try first | omega | (simp only [InR]; omega)
 all_goals first | exact fun q => ⟨q,h1⟩ | skip
theorem ztV (f:RefYd) (o:RefC (List Int)) (c k:RefC Int) (h:f.y.chairs.length ≤ 4096 ∧ o.x.length ≤ 4096):zaP Tryz.prog 92 [Enc.enc f,Enc.enc o,Enc.enc c,Enc.enc k] (· = Enc.enc (FnFine.free f.y o.x c.x k.x).ask):=by
 obtain ⟨y⟩:=f
 obtain ⟨o⟩:=o
 obtain ⟨c⟩:=c
 obtain ⟨k⟩:=k
 simp only [zaI,ydC,zek,FnFine.ask]
 have h1:=h.1
 have h2:=h.2
 dsimp only at h1 h2
 simp only [zcf]
 refine cpz zil Tryz.func92 zaB ?_
 rw [Tryz.ntmps92]
 simp only [Tryz.f92,zai,zam]
 simp (maxSteps:=4000000) only [go_sem,AV.one,zae,zac,zad,zan,zaq,zaa,czb,cza,↓reduceIte,zaL,zau,zav,zat,zaw,zaI,zab,onz]
 all_goals (repeat' first | (with_reducible first | rfl | apply And.intro | assumption) | ((with_reducible show zaj _ _ = true); rfl)) <;> try first | omega | (simp only [InR]; omega)
 all_goals first | exact fun q => ⟨q,h1⟩ | skip
theorem ztz (f:RefYd) (o:RefC (List Int)) (h:f.y.chairs.length ≤ 4096 ∧ o.x.length ≤ 4096):zaP Tryz.prog 102 [Enc.enc f,Enc.enc o] (· = Enc.enc (FnFine.lost f.y o.x).ask):=by
 obtain ⟨y⟩:=f
 obtain ⟨o⟩:=o
 simp only [zaI,ydC,zek,FnFine.ask]
 have h1:=h.1
 have h2:=h.2
 dsimp only at h1 h2
 simp only [zcf]
 refine cpz zil Tryz.func102 zaB ?_
 rw [Tryz.ntmps102]
 simp only [Tryz.f102,zai,zam]
 simp (maxSteps:=4000000) only [go_sem,AV.one,zae,zac,zad,zan,zaq,zaa,czb,cza,↓reduceIte,zaL,zau,zav,zat,zaw,zaI,zab,onz]
 all_goals (repeat' first | (with_reducible first | rfl | apply And.intro | assumption) | ((with_reducible show zaj _ _ = true); rfl)) <;> try first | omega | (simp only [InR]; omega)
 all_goals first | exact fun q => ⟨q,h1⟩ | skip
theorem zuj:zaP Tryz.prog 106 [] (· = Enc.enc true):=by
 simp only [zcf]
 refine cpz zil Tryz.func106 zaB ?_
 rw [Tryz.ntmps106]
 simp only [Tryz.f106,zai,zam]
 simp (maxSteps:=4000000) only [go_sem,AV.one,zae,zac,zad,zan,zaq,zaa,czb,cza,↓reduceIte,zaL,zau,zav,zat,zaw,zaI,zab,onz]
def P127 (g:FuncId):=(zas 98 (zec (fun (f:RefYd) (o:RefC (List Int)) (c:RefC Int) => f.y.chairs.length ≤ 4096 ∧ o.x.length ≤ 4096) (fun f o c => (FnFine.hours f.y o.x c.x).ask)) (zas 92 (ziL (fun (f:RefYd) (o:RefC (List Int)) (c _:RefC Int) => f.y.chairs.length ≤ 4096 ∧ o.x.length ≤ 4096) (fun f o c k => (FnFine.free f.y o.x c.x k.x).ask)) (zas 102 (zbF (fun (f:RefYd) (o:RefC (List Int)) => f.y.chairs.length ≤ 4096 ∧ o.x.length ≤ 4096) (fun f o => (FnFine.lost f.y o.x).ask)) (zas 106 (zs2 true) (P126)))):zaJ) g
theorem zgx:zaz Tryz.prog P127:=zah (zb8 zpW) (zah (zeg ztV) (zah (zaM ztz) (zah (zlw zuj) (zil))))
theorem zou (d:Option Nat):zaF P127 d = none:=(zag (by decide) d).trans ((zag (by decide) d).trans ((zag (by decide) d).trans ((zag (by decide) d).trans (zov d))))
attribute [go_sem] P127 zou
def zee (y:Yd):List Sea:=((zba y).map (zb1 y.t)).filter fun x => zcr y x []
def zds (y:Yd) (a:Bool):Int:=if zbk y ≠ 0 then zbk y else if a = false then 2 else if zee y = [] then 11 else 0
def yC (y:Yd):AObj:=.cells [.int .i64 y.t.last,.sl (y.t.heights.map EncE.cs) .no,.int .i64 y.t.step,.sl (y.t.levels.map EncE.cs) .no,.sl (y.t.marks.map EncE.cs) .no,.int .i64 y.hands,.sl (y.chairs.map EncE.cs) .no,.sl (y.order.map EncE.cs) .no,.sl (y.hires.map EncE.cs) .no]
def zhY (y:Yd) (n0:Nat):List AObj:=[yC y,yC y,
 .cells [.int .i64 y.t.last,.sl (y.t.heights.map EncE.cs) .no,.int .i64 y.t.step,.sl (y.t.levels.map EncE.cs) .no,.sl (y.t.marks.map EncE.cs) .no,.int .i64 y.hands,.sl (y.chairs.map EncE.cs) .no,.sl (y.order.map EncE.cs) .no,.sl (y.hires.map EncE.cs) .no,.vec (n0 + 4) (zba y).length 0 (zee y).length 2],
 .cells [.ptr (n0 + 2) 0],.vec ((zee y).map EncE.cs ++ List.replicate ((zba y).length - (zee y).length) zoV) 2 (zba y).length]
def zlp (y:Yd) (a:Bool) (mem:List AObj) (r:AV) (m:List AObj):Prop :=
 if zds y a = 0 then r = .tup [.ptr (mem.length + 2) 0,.int .i64 0] ∧ m = mem ++ zhY y mem.length else r = .tup [.nilp,.int .i64 (zds y a)] ∧ m = mem
theorem zcc (y:Yd) (k:Nat):zb6 k (yC y):=fun c hc => zcR _ _ _ (zfo y c hc) (by omega)
theorem askW {y:Yd} (hv:VY y):∀ x ∈ (zba y).map (zb1 y.t),YS y x:=fun x hx => by
 obtain ⟨p,_,rfl⟩:=czx.1 hx
 exact ys_of hv p
theorem zfk {y:Yd} (hv:VY y):(zba y).length ≤ 4096:=by
 have h1:(zba y).length ≤ (zkP y.t).length:=by
  have:=zjc y (zkP y.t) []
  simpa [zba] using this
 have:=zlD hv.fok.vok
 omega
section
variable {mem:List AObj} (y:Yd)
theorem askedh (o:List Int) (c:Int) {b0 b1 b2:Nat} (h4:y.t.heights.length ≤ 4096 ∧ y.order.length ≤ 4096) (m0:zaa mem b0 = yC y) (m1:zaa mem b1 = .cells [.sl (o.map EncE.cs) .no]) (m2:zaa mem b2 = .cells [.int .i64 c]) (ho:o.length ≤ 4096) (hm:∀ o ∈ mem,zb6 mem.length o) :
  zeK Tryz.prog 91 [.agg (ydC y),.fn (.func 98) [] [.ptr b0 0,.ptr b1 0,.ptr b2 0]] mem (zlp y (FnFine.hours y o c).ask mem):=by
 obtain ⟨A,hA⟩:∃ A,(FnFine.hours y o c).ask = A:=⟨_,rfl⟩
 rw [hA]
 obtain ⟨n0,hn0⟩:∃ n0,mem.length = n0:=⟨_,rfl⟩
 rw [hn0] at hm
 unfold yC at m0
 have q0:=zbf m0 (by simp)
 have e0:∀ r,zaa (mem ++ r) b0 = _:=fun r => (zaT (by omega)).trans m0
 have q1:=zbf m1 (by simp)
 have e1:∀ r,zaa (mem ++ r) b1 = _:=fun r => (zaT (by omega)).trans m1
 have q2:=zbf m2 (by simp)
 have e2:∀ r,zaa (mem ++ r) b2 = _:=fun r => (zaT (by omega)).trans m2
 have g0:∀ r,zaa (mem ++ r) n0 = zaa r 0:=fun r => by rw [← hn0]; exact zaK _ _ 0
 have gk:∀ r k,zaa (mem ++ r) (n0 + k) = zaa r k:=fun r k => by rw [← hn0]; exact zaK _ _ k
 have s0:∀ r o,(mem ++ r).set n0 o = mem ++ r.set 0 o:=fun r o => by rw [← hn0]; exact zbN _ _ 0 _
 have sk:∀ r k o,(mem ++ r).set (n0 + k) o = mem ++ r.set k o:=fun r k o => by rw [← hn0]; exact zbN _ _ k _
 have hl1:∀ o:AObj,(mem ++ [o]).length = n0 + 1:=fun o => by simp [hn0]
 have hok1:∀ o ∈ mem ++ [yC y],zb6 (mem ++ [yC y]).length o:=by
  rw [hl1]
  exact zce hm (by omega) ⟨zcc y _,trivial⟩
 have hbad:∀ (m:List AObj) (a:List AObj) e,e ≠ 0 → zds y A = e → m = mem ++ a → ∃ k,n0 ≤ k ∧ k ≤ m.length ∧ zlp y A mem (.tup [.nilp,.int .i64 e]) (m.take k) ∧ (∀ o ∈ m.take k,zb6 k o):=fun m a e he hq hm' => by
  subst hm'
  refine ⟨n0,czf _,by simp [hn0],?_,?_⟩
  ·rw [List.take_left' hn0]
   unfold zlp
   rw [hq,if_neg he]
   exact ⟨rfl,rfl⟩
  ·rw [List.take_left' hn0]; exact hm
 refine zbU (Φ:=P127) Tryz.func91 rfl (by rfl) (by rw [Tryz.ntmps91]; simp) zaB zgx ?_
 rw [Tryz.ntmps91]
 simp only [Tryz.f91,zai,zam,ydC]
 refine zkI fun Q0 hQ0 => ?_
 refine zaC fun Q1 h1 => ?_
 simp (maxSteps:=4000000) only [go_sem,zae,zac,zad,zan,zaq,czb,cza,↓reduceIte,zaL,za6,zau,zav,zat,zaw,zaI,zao,zap,za4,zab,onz,g0,hn0]
 all_goals (repeat' first | (with_reducible first | rfl | apply And.intro | assumption) | ((with_reducible show zaj _ _ = true); rfl)) <;> try first | omega | (simp only [InR]; omega)
 rw [h1]; clear h1 Q1; simp only [zaW,zaA]
 refine zaC fun Q1 h1 => ?_
 simp (maxSteps:=4000000) only [go_sem,zae,zac,zad,zan,zaq,czb,cza,↓reduceIte,zaL,za6,zau,zav,zat,zaw,zaI,zao,zap,za4,zab,onz,g0,hn0]
 by_cases c0:zbk y = 0
 ·have hv:=zkp c0
  have h5:=hv.c5
  have hcl:=zfk hv
  refine ⟨_,zer y hv hok1,?_⟩
  rintro r m ⟨rfl,rfl⟩ _
  rw [hl1]
  simp (maxSteps:=4000000) only [go_sem,zae,zac,zad,zan,zaq,czb,cza,↓reduceIte,zaL,za6,zau,zav,zat,zaw,zaI,zao,zap,za4,zab,onz,g0,hn0]
  rw [h1]; clear h1 Q1
  simp only [zaW,zaA]
  unfold zcy
  simp only [czd,czs,List.nil_append,Nat.add_assoc,Nat.reduceAdd]
  have hD:=zeT (mem:=mem ++ (yC y :: zcy y (n0 + 1) (zba y))) (v:=n0 + 4) (s:=(zba y).length) (b:=n0) y ((zba y).map (zb1 y.t)) (askW hv) (by rw [czz]; exact hcl) (by rw [gk]; rfl) (by rw [g0]; rfl)
  have hn5:(mem ++ (yC y :: zcy y (n0 + 1) (zba y))).length = n0 + 5:=by simp [hn0,zcy]
  have hok5:∀ o ∈ mem ++ (yC y :: zcy y (n0 + 1) (zba y)),zb6 (mem ++ (yC y :: zcy y (n0 + 1) (zba y))).length o:=by
   rw [hn5]
   refine zce hm (by omega) ⟨zcc y _,?_⟩
   simp [AV.bare,zal,zaN,zaR,zak,zar,zaf,tokz1,lk,zaa,za3,zcy,-List.map_map]
   try omega
  have hD:=hD hok5
  rw [sk] at hD
  have hk:(((zba y).map (zb1 y.t)).filter fun x => zcr y x []) = zee y:=rfl
  rw [hk] at hD
  obtain ⟨K,hK⟩:∃ K,zee y = K:=⟨_,rfl⟩
  rw [hK] at hD
  have htk:∀ r,(K.map EncE.cs ++ r).take K.length = K.map (EncE.cs (α:=Sea)):=fun r => List.take_left' (by simp)
  simp only [czz] at hD
  refine zaC fun Q1 h1 => ?_
  simp (maxSteps:=4000000) only [go_sem,zae,zac,zad,zan,zaq,czb,cza,↓reduceIte,zaL,za6,zau,zav,zat,zaw,zaI,zao,zap,za4,zab,onz,g0,gk,s0,sk,hn0,e0,e1,e2,czd,czs,czc]
  all_goals (repeat' first | (with_reducible first | rfl | apply And.intro | assumption) | ((with_reducible show zaj _ _ = true); rfl)) <;> try first | omega | (simp only [InR]; omega)
  rw [h1]; clear h1 Q1; simp only [zaW,zaA]
  simp (maxSteps:=4000000) only [go_sem,zae,zac,zad,zan,zaq,czb,cza,↓reduceIte,zaL,za6,zau,zav,zat,zaw,zaI,zao,zap,za4,zab,onz,hA,g0,gk,s0,sk,hn0,e0,e1,e2,czd,czs,czc,decide_true,decide_false]
  refine ⟨⟨by omega,ho⟩,fun q => ?_,fun q => ⟨_,hD,?_⟩⟩
  ·have hq:zds y A = 2:=by unfold zds; rw [if_neg (by simp [c0]),if_pos q]
   simp (maxSteps:=4000000) only [go_sem,zae,zac,zad,zan,zaq,czb,cza,↓reduceIte,zaL,za6,zau,zav,zat,zaw,zaI,zao,zap,za4,zab,onz,hQ0,hn0]
   obtain ⟨k,k1,k2,k3,k4⟩:=hbad _ _ 2 (by simp) hq rfl
   exact ⟨k,k1,k2,k3,by simp [AV.bare,zal,zaN,zaR,zak,zar,zaf,tokz1,lk,zaa,za3],k4⟩
  rintro r m ⟨rfl,rfl⟩ _
  unfold zcy yC
  generalize hr:List.replicate ((zba y).length - K.length) zoV = RR
  clear hD
  simp (maxSteps:=4000000) only [go_sem,zae,zac,zad,zan,zaq,czb,cza,↓reduceIte,zaL,za6,zau,zav,zat,zaw,zaI,zao,zap,za4,zab,onz,htk,g0,gk,s0,sk,hn0,e0,e1,e2,czd,czs,czc,czz,List.set_cons_succ,List.set_cons_zero,decide_true,decide_false]
  have hv5:zb6 (n0 + 5) (.vec (K.map EncE.cs ++ RR) 2 (zba y).length):=fun e he c hc => by
   rcases czv.1 he with h | h
   ·obtain ⟨x,_,rfl⟩:=czx.1 h
    exact zcR _ _ _ (EncE.ok x c hc) (by rw [zfA]; omega)
   ·rw [← hr] at h
    rw [(czL.1 h).2] at hc
    simp only [zoV,czn,czk,or_false] at hc
    rcases hc with rfl | rfl <;> simp [bel]
  have hqa:zds y A = if K = [] then 11 else 0:=by unfold zds; rw [if_neg (by simp [c0]),if_neg (by simp [q]),hK]
  refine ⟨fun e => ?_,fun e => ?_⟩
  ·have hKn:K = []:=List.eq_nil_of_length_eq_zero (by simpa using e)
   rw [if_pos hKn] at hqa
   simp (maxSteps:=4000000) only [go_sem,zae,zac,zad,zan,zaq,czb,cza,↓reduceIte,zaL,za6,zau,zav,zat,zaw,zaI,zao,zap,za4,zab,onz,hQ0,hn0]
   obtain ⟨k,k1,k2,k3,k4⟩:=hbad _ _ 11 (by simp) hqa rfl
   exact ⟨k,k1,k2,k3,by simp [AV.bare,zal,zaN,zaR,zak,zar,zaf,tokz1,lk,zaa,za3],k4⟩
  ·have hKn:K ≠ []:=fun q => by simp [q] at e
   rw [if_neg hKn] at hqa
   simp (maxSteps:=4000000) only [go_sem,zae,zac,zad,zan,zaq,czb,cza,↓reduceIte,zaL,za6,zau,zav,zat,zaw,zaI,zao,zap,za4,zab,onz,hQ0,hn0]
   refine ⟨n0 + 5,by omega,by simp [hn0],?_,by simp [AV.bare,zal,zaN,zaR,zak,zar,zaf,tokz1,lk,zaa,za3],?_⟩
   ·rw [cze (by simp [hn0])]
    unfold zlp
    rw [if_pos hqa,hn0]
    refine ⟨rfl,?_⟩
    unfold zhY yC
    rw [hK,hr]
   ·rw [cze (by simp [hn0])]
    exact zce hm (by omega) ⟨zcc y _,zcc y _,by simp [AV.bare,zal,zaN,zaR,zak,zar,zaf,tokz1,lk,zaa,za3,-List.map_map],by simp [AV.bare,zal,zaN,zaR,zak,zar,zaf,tokz1,lk,zaa,za3],hv5,trivial⟩
 ·have hq:zds y A = zbk y:=by unfold zds; rw [if_pos c0]
  refine ⟨_,zd1 y h4 c0 hok1,?_⟩
  rintro r m ⟨rfl,rfl⟩ _
  simp (maxSteps:=4000000) only [go_sem,zae,zac,zad,zan,zaq,czb,cza,↓reduceIte,zaL,za6,zau,zav,zat,zaw,zaI,zao,zap,za4,zab,onz,g0,hn0]
  rw [h1]; clear h1 Q1
  simp only [zaW,zaA]
  simp (maxSteps:=4000000) only [go_sem,zae,zac,zad,zan,zaq,czb,cza,↓reduceIte,zaL,za6,zau,zav,zat,zaw,zaI,zao,zap,za4,zab,onz,c0,hQ0,g0,hn0,decide_true,decide_false]
  obtain ⟨k,k1,k2,k3,k4⟩:=hbad _ _ _ c0 hq rfl
  exact ⟨k,k1,k2,k3,by simp [AV.bare,zal,zaN,zaR,zak,zar,zaf,tokz1,lk,zaa,za3],k4⟩
theorem askedf (o:List Int) (c h:Int) {b0 b1 b2 b3:Nat} (h4:y.t.heights.length ≤ 4096 ∧ y.order.length ≤ 4096) (m0:zaa mem b0 = yC y) (m1:zaa mem b1 = .cells [.sl (o.map EncE.cs) .no]) (m2:zaa mem b2 = .cells [.int .i64 c]) (m3:zaa mem b3 = .cells [.int .i64 h]) (ho:o.length ≤ 4096) (hm:∀ o ∈ mem,zb6 mem.length o) :
  zeK Tryz.prog 91 [.agg (ydC y),.fn (.func 92) [] [.ptr b0 0,.ptr b1 0,.ptr b2 0,.ptr b3 0]] mem (zlp y (FnFine.free y o c h).ask mem):=by
 obtain ⟨A,hA⟩:∃ A,(FnFine.free y o c h).ask = A:=⟨_,rfl⟩
 rw [hA]
 obtain ⟨n0,hn0⟩:∃ n0,mem.length = n0:=⟨_,rfl⟩
 rw [hn0] at hm
 unfold yC at m0
 have q0:=zbf m0 (by simp)
 have e0:∀ r,zaa (mem ++ r) b0 = _:=fun r => (zaT (by omega)).trans m0
 have q1:=zbf m1 (by simp)
 have e1:∀ r,zaa (mem ++ r) b1 = _:=fun r => (zaT (by omega)).trans m1
 have q2:=zbf m2 (by simp)
 have e2:∀ r,zaa (mem ++ r) b2 = _:=fun r => (zaT (by omega)).trans m2
 have q3:=zbf m3 (by simp)
 have e3:∀ r,zaa (mem ++ r) b3 = _:=fun r => (zaT (by omega)).trans m3
 have g0:∀ r,zaa (mem ++ r) n0 = zaa r 0:=fun r => by rw [← hn0]; exact zaK _ _ 0
 have gk:∀ r k,zaa (mem ++ r) (n0 + k) = zaa r k:=fun r k => by rw [← hn0]; exact zaK _ _ k
 have s0:∀ r o,(mem ++ r).set n0 o = mem ++ r.set 0 o:=fun r o => by rw [← hn0]; exact zbN _ _ 0 _
 have sk:∀ r k o,(mem ++ r).set (n0 + k) o = mem ++ r.set k o:=fun r k o => by rw [← hn0]; exact zbN _ _ k _
 have hl1:∀ o:AObj,(mem ++ [o]).length = n0 + 1:=fun o => by simp [hn0]
 have hok1:∀ o ∈ mem ++ [yC y],zb6 (mem ++ [yC y]).length o:=by
  rw [hl1]
  exact zce hm (by omega) ⟨zcc y _,trivial⟩
 have hbad:∀ (m:List AObj) (a:List AObj) e,e ≠ 0 → zds y A = e → m = mem ++ a → ∃ k,n0 ≤ k ∧ k ≤ m.length ∧ zlp y A mem (.tup [.nilp,.int .i64 e]) (m.take k) ∧ (∀ o ∈ m.take k,zb6 k o):=fun m a e he hq hm' => by
  subst hm'
  refine ⟨n0,czf _,by simp [hn0],?_,?_⟩
  ·rw [List.take_left' hn0]
   unfold zlp
   rw [hq,if_neg he]
   exact ⟨rfl,rfl⟩
  ·rw [List.take_left' hn0]; exact hm
 refine zbU (Φ:=P127) Tryz.func91 rfl (by rfl) (by rw [Tryz.ntmps91]; simp) zaB zgx ?_
 rw [Tryz.ntmps91]
 simp only [Tryz.f91,zai,zam,ydC]
 refine zkI fun Q0 hQ0 => ?_
 refine zaC fun Q1 h1 => ?_
 simp (maxSteps:=4000000) only [go_sem,zae,zac,zad,zan,zaq,czb,cza,↓reduceIte,zaL,za6,zau,zav,zat,zaw,zaI,zao,zap,za4,zab,onz,g0,hn0]
 all_goals (repeat' first | (with_reducible first | rfl | apply And.intro | assumption) | ((with_reducible show zaj _ _ = true); rfl)) <;> try first | omega | (simp only [InR]; omega)
 rw [h1]; clear h1 Q1; simp only [zaW,zaA]
 refine zaC fun Q1 h1 => ?_
 simp (maxSteps:=4000000) only [go_sem,zae,zac,zad,zan,zaq,czb,cza,↓reduceIte,zaL,za6,zau,zav,zat,zaw,zaI,zao,zap,za4,zab,onz,g0,hn0]
 by_cases c0:zbk y = 0
 ·have hv:=zkp c0
  have h5:=hv.c5
  have hcl:=zfk hv
  refine ⟨_,zer y hv hok1,?_⟩
  rintro r m ⟨rfl,rfl⟩ _
  rw [hl1]
  simp (maxSteps:=4000000) only [go_sem,zae,zac,zad,zan,zaq,czb,cza,↓reduceIte,zaL,za6,zau,zav,zat,zaw,zaI,zao,zap,za4,zab,onz,g0,hn0]
  rw [h1]; clear h1 Q1
  simp only [zaW,zaA]
  unfold zcy
  simp only [czd,czs,List.nil_append,Nat.add_assoc,Nat.reduceAdd]
  have hD:=zeT (mem:=mem ++ (yC y :: zcy y (n0 + 1) (zba y))) (v:=n0 + 4) (s:=(zba y).length) (b:=n0) y ((zba y).map (zb1 y.t)) (askW hv) (by rw [czz]; exact hcl) (by rw [gk]; rfl) (by rw [g0]; rfl)
  have hn5:(mem ++ (yC y :: zcy y (n0 + 1) (zba y))).length = n0 + 5:=by simp [hn0,zcy]
  have hok5:∀ o ∈ mem ++ (yC y :: zcy y (n0 + 1) (zba y)),zb6 (mem ++ (yC y :: zcy y (n0 + 1) (zba y))).length o:=by
   rw [hn5]
   refine zce hm (by omega) ⟨zcc y _,?_⟩
   simp [AV.bare,zal,zaN,zaR,zak,zar,zaf,tokz1,lk,zaa,za3,zcy,-List.map_map]
   try omega
  have hD:=hD hok5
  rw [sk] at hD
  have hk:(((zba y).map (zb1 y.t)).filter fun x => zcr y x []) = zee y:=rfl
  rw [hk] at hD
  obtain ⟨K,hK⟩:∃ K,zee y = K:=⟨_,rfl⟩
  rw [hK] at hD
  have htk:∀ r,(K.map EncE.cs ++ r).take K.length = K.map (EncE.cs (α:=Sea)):=fun r => List.take_left' (by simp)
  simp only [czz] at hD
  refine zaC fun Q1 h1 => ?_
  simp (maxSteps:=4000000) only [go_sem,zae,zac,zad,zan,zaq,czb,cza,↓reduceIte,zaL,za6,zau,zav,zat,zaw,zaI,zao,zap,za4,zab,onz,g0,gk,s0,sk,hn0,e0,e1,e2,e3,czd,czs,czc]
  all_goals (repeat' first | (with_reducible first | rfl | apply And.intro | assumption) | ((with_reducible show zaj _ _ = true); rfl)) <;> try first | omega | (simp only [InR]; omega)
  rw [h1]; clear h1 Q1; simp only [zaW,zaA]
  simp (maxSteps:=4000000) only [go_sem,zae,zac,zad,zan,zaq,czb,cza,↓reduceIte,zaL,za6,zau,zav,zat,zaw,zaI,zao,zap,za4,zab,onz,hA,g0,gk,s0,sk,hn0,e0,e1,e2,e3,czd,czs,czc,decide_true,decide_false]
  refine ⟨⟨by omega,ho⟩,fun q => ?_,fun q => ⟨_,hD,?_⟩⟩
  ·have hq:zds y A = 2:=by unfold zds; rw [if_neg (by simp [c0]),if_pos q]
   simp (maxSteps:=4000000) only [go_sem,zae,zac,zad,zan,zaq,czb,cza,↓reduceIte,zaL,za6,zau,zav,zat,zaw,zaI,zao,zap,za4,zab,onz,hQ0,hn0]
   obtain ⟨k,k1,k2,k3,k4⟩:=hbad _ _ 2 (by simp) hq rfl
   exact ⟨k,k1,k2,k3,by simp [AV.bare,zal,zaN,zaR,zak,zar,zaf,tokz1,lk,zaa,za3],k4⟩
  rintro r m ⟨rfl,rfl⟩ _
  unfold zcy yC
  generalize hr:List.replicate ((zba y).length - K.length) zoV = RR
  clear hD
  simp (maxSteps:=4000000) only [go_sem,zae,zac,zad,zan,zaq,czb,cza,↓reduceIte,zaL,za6,zau,zav,zat,zaw,zaI,zao,zap,za4,zab,onz,htk,g0,gk,s0,sk,hn0,e0,e1,e2,e3,czd,czs,czc,czz,List.set_cons_succ,List.set_cons_zero,decide_true,decide_false]
  have hv5:zb6 (n0 + 5) (.vec (K.map EncE.cs ++ RR) 2 (zba y).length):=fun e he c hc => by
   rcases czv.1 he with h | h
   ·obtain ⟨x,_,rfl⟩:=czx.1 h
    exact zcR _ _ _ (EncE.ok x c hc) (by rw [zfA]; omega)
   ·rw [← hr] at h
    rw [(czL.1 h).2] at hc
    simp only [zoV,czn,czk,or_false] at hc
    rcases hc with rfl | rfl <;> simp [bel]
  have hqa:zds y A = if K = [] then 11 else 0:=by unfold zds; rw [if_neg (by simp [c0]),if_neg (by simp [q]),hK]
  refine ⟨fun e => ?_,fun e => ?_⟩
  ·have hKn:K = []:=List.eq_nil_of_length_eq_zero (by simpa using e)
   rw [if_pos hKn] at hqa
   simp (maxSteps:=4000000) only [go_sem,zae,zac,zad,zan,zaq,czb,cza,↓reduceIte,zaL,za6,zau,zav,zat,zaw,zaI,zao,zap,za4,zab,onz,hQ0,hn0]
   obtain ⟨k,k1,k2,k3,k4⟩:=hbad _ _ 11 (by simp) hqa rfl
   exact ⟨k,k1,k2,k3,by simp [AV.bare,zal,zaN,zaR,zak,zar,zaf,tokz1,lk,zaa,za3],k4⟩
  ·have hKn:K ≠ []:=fun q => by simp [q] at e
   rw [if_neg hKn] at hqa
   simp (maxSteps:=4000000) only [go_sem,zae,zac,zad,zan,zaq,czb,cza,↓reduceIte,zaL,za6,zau,zav,zat,zaw,zaI,zao,zap,za4,zab,onz,hQ0,hn0]
   refine ⟨n0 + 5,by omega,by simp [hn0],?_,by simp [AV.bare,zal,zaN,zaR,zak,zar,zaf,tokz1,lk,zaa,za3],?_⟩
   ·rw [cze (by simp [hn0])]
    unfold zlp
    rw [if_pos hqa,hn0]
    refine ⟨rfl,?_⟩
    unfold zhY yC
    rw [hK,hr]
   ·rw [cze (by simp [hn0])]
    exact zce hm (by omega) ⟨zcc y _,zcc y _,by simp [AV.bare,zal,zaN,zaR,zak,zar,zaf,tokz1,lk,zaa,za3,-List.map_map],by simp [AV.bare,zal,zaN,zaR,zak,zar,zaf,tokz1,lk,zaa,za3],hv5,trivial⟩
 ·have hq:zds y A = zbk y:=by unfold zds; rw [if_pos c0]
  refine ⟨_,zd1 y h4 c0 hok1,?_⟩
  rintro r m ⟨rfl,rfl⟩ _
  simp (maxSteps:=4000000) only [go_sem,zae,zac,zad,zan,zaq,czb,cza,↓reduceIte,zaL,za6,zau,zav,zat,zaw,zaI,zao,zap,za4,zab,onz,g0,hn0]
  rw [h1]; clear h1 Q1
  simp only [zaW,zaA]
  simp (maxSteps:=4000000) only [go_sem,zae,zac,zad,zan,zaq,czb,cza,↓reduceIte,zaL,za6,zau,zav,zat,zaw,zaI,zao,zap,za4,zab,onz,c0,hQ0,g0,hn0,decide_true,decide_false]
  obtain ⟨k,k1,k2,k3,k4⟩:=hbad _ _ _ c0 hq rfl
  exact ⟨k,k1,k2,k3,by simp [AV.bare,zal,zaN,zaR,zak,zar,zaf,tokz1,lk,zaa,za3],k4⟩
theorem askedl (o:List Int) {b0 b1:Nat} (h4:y.t.heights.length ≤ 4096 ∧ y.order.length ≤ 4096) (m0:zaa mem b0 = yC y) (m1:zaa mem b1 = .cells [.sl (o.map EncE.cs) .no]) (ho:o.length ≤ 4096) (hm:∀ o ∈ mem,zb6 mem.length o) :
  zeK Tryz.prog 91 [.agg (ydC y),.fn (.func 102) [] [.ptr b0 0,.ptr b1 0]] mem (zlp y (FnFine.lost y o).ask mem):=by
 obtain ⟨A,hA⟩:∃ A,(FnFine.lost y o).ask = A:=⟨_,rfl⟩
 rw [hA]
 obtain ⟨n0,hn0⟩:∃ n0,mem.length = n0:=⟨_,rfl⟩
 rw [hn0] at hm
 unfold yC at m0
 have q0:=zbf m0 (by simp)
 have e0:∀ r,zaa (mem ++ r) b0 = _:=fun r => (zaT (by omega)).trans m0
 have q1:=zbf m1 (by simp)
 have e1:∀ r,zaa (mem ++ r) b1 = _:=fun r => (zaT (by omega)).trans m1
 have g0:∀ r,zaa (mem ++ r) n0 = zaa r 0:=fun r => by rw [← hn0]; exact zaK _ _ 0
 have gk:∀ r k,zaa (mem ++ r) (n0 + k) = zaa r k:=fun r k => by rw [← hn0]; exact zaK _ _ k
 have s0:∀ r o,(mem ++ r).set n0 o = mem ++ r.set 0 o:=fun r o => by rw [← hn0]; exact zbN _ _ 0 _
 have sk:∀ r k o,(mem ++ r).set (n0 + k) o = mem ++ r.set k o:=fun r k o => by rw [← hn0]; exact zbN _ _ k _
 have hl1:∀ o:AObj,(mem ++ [o]).length = n0 + 1:=fun o => by simp [hn0]
 have hok1:∀ o ∈ mem ++ [yC y],zb6 (mem ++ [yC y]).length o:=by
  rw [hl1]
  exact zce hm (by omega) ⟨zcc y _,trivial⟩
 have hbad:∀ (m:List AObj) (a:List AObj) e,e ≠ 0 → zds y A = e → m = mem ++ a → ∃ k,n0 ≤ k ∧ k ≤ m.length ∧ zlp y A mem (.tup [.nilp,.int .i64 e]) (m.take k) ∧ (∀ o ∈ m.take k,zb6 k o):=fun m a e he hq hm' => by
  subst hm'
  refine ⟨n0,czf _,by simp [hn0],?_,?_⟩
  ·rw [List.take_left' hn0]
   unfold zlp
   rw [hq,if_neg he]
   exact ⟨rfl,rfl⟩
  ·rw [List.take_left' hn0]; exact hm
 refine zbU (Φ:=P127) Tryz.func91 rfl (by rfl) (by rw [Tryz.ntmps91]; simp) zaB zgx ?_
 rw [Tryz.ntmps91]
 simp only [Tryz.f91,zai,zam,ydC]
 refine zkI fun Q0 hQ0 => ?_
 refine zaC fun Q1 h1 => ?_
 simp (maxSteps:=4000000) only [go_sem,zae,zac,zad,zan,zaq,czb,cza,↓reduceIte,zaL,za6,zau,zav,zat,zaw,zaI,zao,zap,za4,zab,onz,g0,hn0]
 all_goals (repeat' first | (with_reducible first | rfl | apply And.intro | assumption) | ((with_reducible show zaj _ _ = true); rfl)) <;> try first | omega | (simp only [InR]; omega)
 rw [h1]; clear h1 Q1; simp only [zaW,zaA]
 refine zaC fun Q1 h1 => ?_
 simp (maxSteps:=4000000) only [go_sem,zae,zac,zad,zan,zaq,czb,cza,↓reduceIte,zaL,za6,zau,zav,zat,zaw,zaI,zao,zap,za4,zab,onz,g0,hn0]
 by_cases c0:zbk y = 0
 ·have hv:=zkp c0
  have h5:=hv.c5
  have hcl:=zfk hv
  refine ⟨_,zer y hv hok1,?_⟩
  rintro r m ⟨rfl,rfl⟩ _
  rw [hl1]
  simp (maxSteps:=4000000) only [go_sem,zae,zac,zad,zan,zaq,czb,cza,↓reduceIte,zaL,za6,zau,zav,zat,zaw,zaI,zao,zap,za4,zab,onz,g0,hn0]
  rw [h1]; clear h1 Q1
  simp only [zaW,zaA]
  unfold zcy
  simp only [czd,czs,List.nil_append,Nat.add_assoc,Nat.reduceAdd]
  have hD:=zeT (mem:=mem ++ (yC y :: zcy y (n0 + 1) (zba y))) (v:=n0 + 4) (s:=(zba y).length) (b:=n0) y ((zba y).map (zb1 y.t)) (askW hv) (by rw [czz]; exact hcl) (by rw [gk]; rfl) (by rw [g0]; rfl)
  have hn5:(mem ++ (yC y :: zcy y (n0 + 1) (zba y))).length = n0 + 5:=by simp [hn0,zcy]
  have hok5:∀ o ∈ mem ++ (yC y :: zcy y (n0 + 1) (zba y)),zb6 (mem ++ (yC y :: zcy y (n0 + 1) (zba y))).length o:=by
   rw [hn5]
   refine zce hm (by omega) ⟨zcc y _,?_⟩
   simp [AV.bare,zal,zaN,zaR,zak,zar,zaf,tokz1,lk,zaa,za3,zcy,-List.map_map]
   try omega
  have hD:=hD hok5
  rw [sk] at hD
  have hk:(((zba y).map (zb1 y.t)).filter fun x => zcr y x []) = zee y:=rfl
  rw [hk] at hD
  obtain ⟨K,hK⟩:∃ K,zee y = K:=⟨_,rfl⟩
  rw [hK] at hD
  have htk:∀ r,(K.map EncE.cs ++ r).take K.length = K.map (EncE.cs (α:=Sea)):=fun r => List.take_left' (by simp)
  simp only [czz] at hD
  refine zaC fun Q1 h1 => ?_
  simp (maxSteps:=4000000) only [go_sem,zae,zac,zad,zan,zaq,czb,cza,↓reduceIte,zaL,za6,zau,zav,zat,zaw,zaI,zao,zap,za4,zab,onz,g0,gk,s0,sk,hn0,e0,e1,czd,czs,czc]
  all_goals (repeat' first | (with_reducible first | rfl | apply And.intro | assumption) | ((with_reducible show zaj _ _ = true); rfl)) <;> try first | omega | (simp only [InR]; omega)
  rw [h1]; clear h1 Q1; simp only [zaW,zaA]
  simp (maxSteps:=4000000) only [go_sem,zae,zac,zad,zan,zaq,czb,cza,↓reduceIte,zaL,za6,zau,zav,zat,zaw,zaI,zao,zap,za4,zab,onz,hA,g0,gk,s0,sk,hn0,e0,e1,czd,czs,czc,decide_true,decide_false]
  refine ⟨⟨by omega,ho⟩,fun q => ?_,fun q => ⟨_,hD,?_⟩⟩
  ·have hq:zds y A = 2:=by unfold zds; rw [if_neg (by simp [c0]),if_pos q]
   simp (maxSteps:=4000000) only [go_sem,zae,zac,zad,zan,zaq,czb,cza,↓reduceIte,zaL,za6,zau,zav,zat,zaw,zaI,zao,zap,za4,zab,onz,hQ0,hn0]
   obtain ⟨k,k1,k2,k3,k4⟩:=hbad _ _ 2 (by simp) hq rfl
   exact ⟨k,k1,k2,k3,by simp [AV.bare,zal,zaN,zaR,zak,zar,zaf,tokz1,lk,zaa,za3],k4⟩
  rintro r m ⟨rfl,rfl⟩ _
  unfold zcy yC
  generalize hr:List.replicate ((zba y).length - K.length) zoV = RR
  clear hD
  simp (maxSteps:=4000000) only [go_sem,zae,zac,zad,zan,zaq,czb,cza,↓reduceIte,zaL,za6,zau,zav,zat,zaw,zaI,zao,zap,za4,zab,onz,htk,g0,gk,s0,sk,hn0,e0,e1,czd,czs,czc,czz,List.set_cons_succ,List.set_cons_zero,decide_true,decide_false]
  have hv5:zb6 (n0 + 5) (.vec (K.map EncE.cs ++ RR) 2 (zba y).length):=fun e he c hc => by
   rcases czv.1 he with h | h
   ·obtain ⟨x,_,rfl⟩:=czx.1 h
    exact zcR _ _ _ (EncE.ok x c hc) (by rw [zfA]; omega)
   ·rw [← hr] at h
    rw [(czL.1 h).2] at hc
    simp only [zoV,czn,czk,or_false] at hc
    rcases hc with rfl | rfl <;> simp [bel]
  have hqa:zds y A = if K = [] then 11 else 0:=by unfold zds; rw [if_neg (by simp [c0]),if_neg (by simp [q]),hK]
  refine ⟨fun e => ?_,fun e => ?_⟩
  ·have hKn:K = []:=List.eq_nil_of_length_eq_zero (by simpa using e)
   rw [if_pos hKn] at hqa
   simp (maxSteps:=4000000) only [go_sem,zae,zac,zad,zan,zaq,czb,cza,↓reduceIte,zaL,za6,zau,zav,zat,zaw,zaI,zao,zap,za4,zab,onz,hQ0,hn0]
   obtain ⟨k,k1,k2,k3,k4⟩:=hbad _ _ 11 (by simp) hqa rfl
   exact ⟨k,k1,k2,k3,by simp [AV.bare,zal,zaN,zaR,zak,zar,zaf,tokz1,lk,zaa,za3],k4⟩
  ·have hKn:K ≠ []:=fun q => by simp [q] at e
   rw [if_neg hKn] at hqa
   simp (maxSteps:=4000000) only [go_sem,zae,zac,zad,zan,zaq,czb,cza,↓reduceIte,zaL,za6,zau,zav,zat,zaw,zaI,zao,zap,za4,zab,onz,hQ0,hn0]
   refine ⟨n0 + 5,by omega,by simp [hn0],?_,by simp [AV.bare,zal,zaN,zaR,zak,zar,zaf,tokz1,lk,zaa,za3],?_⟩
   ·rw [cze (by simp [hn0])]
    unfold zlp
    rw [if_pos hqa,hn0]
    refine ⟨rfl,?_⟩
    unfold zhY yC
    rw [hK,hr]
   ·rw [cze (by simp [hn0])]
    exact zce hm (by omega) ⟨zcc y _,zcc y _,by simp [AV.bare,zal,zaN,zaR,zak,zar,zaf,tokz1,lk,zaa,za3,-List.map_map],by simp [AV.bare,zal,zaN,zaR,zak,zar,zaf,tokz1,lk,zaa,za3],hv5,trivial⟩
 ·have hq:zds y A = zbk y:=by unfold zds; rw [if_pos c0]
  refine ⟨_,zd1 y h4 c0 hok1,?_⟩
  rintro r m ⟨rfl,rfl⟩ _
  simp (maxSteps:=4000000) only [go_sem,zae,zac,zad,zan,zaq,czb,cza,↓reduceIte,zaL,za6,zau,zav,zat,zaw,zaI,zao,zap,za4,zab,onz,g0,hn0]
  rw [h1]; clear h1 Q1
  simp only [zaW,zaA]
  simp (maxSteps:=4000000) only [go_sem,zae,zac,zad,zan,zaq,czb,cza,↓reduceIte,zaL,za6,zau,zav,zat,zaw,zaI,zao,zap,za4,zab,onz,c0,hQ0,g0,hn0,decide_true,decide_false]
  obtain ⟨k,k1,k2,k3,k4⟩:=hbad _ _ _ c0 hq rfl
  exact ⟨k,k1,k2,k3,by simp [AV.bare,zal,zaN,zaR,zak,zar,zaf,tokz1,lk,zaa,za3],k4⟩
theorem askedb  (h4:y.t.heights.length ≤ 4096 ∧ y.order.length ≤ 4096)  (hm:∀ o ∈ mem,zb6 mem.length o) :
  zeK Tryz.prog 91 [.agg (ydC y),.fn (.func 106) [] []] mem (zlp y (FnFine.best).ask mem):=by
 obtain ⟨A,hA⟩:∃ A,(FnFine.best).ask = A:=⟨_,rfl⟩
 rw [hA]
 obtain ⟨n0,hn0⟩:∃ n0,mem.length = n0:=⟨_,rfl⟩
 rw [hn0] at hm
 have g0:∀ r,zaa (mem ++ r) n0 = zaa r 0:=fun r => by rw [← hn0]; exact zaK _ _ 0
 have gk:∀ r k,zaa (mem ++ r) (n0 + k) = zaa r k:=fun r k => by rw [← hn0]; exact zaK _ _ k
 have s0:∀ r o,(mem ++ r).set n0 o = mem ++ r.set 0 o:=fun r o => by rw [← hn0]; exact zbN _ _ 0 _
 have sk:∀ r k o,(mem ++ r).set (n0 + k) o = mem ++ r.set k o:=fun r k o => by rw [← hn0]; exact zbN _ _ k _
 have hl1:∀ o:AObj,(mem ++ [o]).length = n0 + 1:=fun o => by simp [hn0]
 have hok1:∀ o ∈ mem ++ [yC y],zb6 (mem ++ [yC y]).length o:=by
  rw [hl1]
  exact zce hm (by omega) ⟨zcc y _,trivial⟩
 have hbad:∀ (m:List AObj) (a:List AObj) e,e ≠ 0 → zds y A = e → m = mem ++ a → ∃ k,n0 ≤ k ∧ k ≤ m.length ∧ zlp y A mem (.tup [.nilp,.int .i64 e]) (m.take k) ∧ (∀ o ∈ m.take k,zb6 k o):=fun m a e he hq hm' => by
  subst hm'
  refine ⟨n0,czf _,by simp [hn0],?_,?_⟩
  ·rw [List.take_left' hn0]
   unfold zlp
   rw [hq,if_neg he]
   exact ⟨rfl,rfl⟩
  ·rw [List.take_left' hn0]; exact hm
 refine zbU (Φ:=P127) Tryz.func91 rfl (by rfl) (by rw [Tryz.ntmps91]; simp) zaB zgx ?_
 rw [Tryz.ntmps91]
 simp only [Tryz.f91,zai,zam,ydC]
 refine zkI fun Q0 hQ0 => ?_
 refine zaC fun Q1 h1 => ?_
 simp (maxSteps:=4000000) only [go_sem,zae,zac,zad,zan,zaq,czb,cza,↓reduceIte,zaL,za6,zau,zav,zat,zaw,zaI,zao,zap,za4,zab,onz,g0,hn0]
 all_goals (repeat' first | (with_reducible first | rfl | apply And.intro | assumption) | ((with_reducible show zaj _ _ = true); rfl)) <;> try first | omega | (simp only [InR]; omega)
 rw [h1]; clear h1 Q1; simp only [zaW,zaA]
 refine zaC fun Q1 h1 => ?_
 simp (maxSteps:=4000000) only [go_sem,zae,zac,zad,zan,zaq,czb,cza,↓reduceIte,zaL,za6,zau,zav,zat,zaw,zaI,zao,zap,za4,zab,onz,g0,hn0]
 by_cases c0:zbk y = 0
 ·have hv:=zkp c0
  have h5:=hv.c5
  have hcl:=zfk hv
  refine ⟨_,zer y hv hok1,?_⟩
  rintro r m ⟨rfl,rfl⟩ _
  rw [hl1]
  simp (maxSteps:=4000000) only [go_sem,zae,zac,zad,zan,zaq,czb,cza,↓reduceIte,zaL,za6,zau,zav,zat,zaw,zaI,zao,zap,za4,zab,onz,g0,hn0]
  rw [h1]; clear h1 Q1
  simp only [zaW,zaA]
  unfold zcy
  simp only [czd,czs,List.nil_append,Nat.add_assoc,Nat.reduceAdd]
  have hD:=zeT (mem:=mem ++ (yC y :: zcy y (n0 + 1) (zba y))) (v:=n0 + 4) (s:=(zba y).length) (b:=n0) y ((zba y).map (zb1 y.t)) (askW hv) (by rw [czz]; exact hcl) (by rw [gk]; rfl) (by rw [g0]; rfl)
  have hn5:(mem ++ (yC y :: zcy y (n0 + 1) (zba y))).length = n0 + 5:=by simp [hn0,zcy]
  have hok5:∀ o ∈ mem ++ (yC y :: zcy y (n0 + 1) (zba y)),zb6 (mem ++ (yC y :: zcy y (n0 + 1) (zba y))).length o:=by
   rw [hn5]
   refine zce hm (by omega) ⟨zcc y _,?_⟩
   simp [AV.bare,zal,zaN,zaR,zak,zar,zaf,tokz1,lk,zaa,za3,zcy,-List.map_map]
   try omega
  have hD:=hD hok5
  rw [sk] at hD
  have hk:(((zba y).map (zb1 y.t)).filter fun x => zcr y x []) = zee y:=rfl
  rw [hk] at hD
  obtain ⟨K,hK⟩:∃ K,zee y = K:=⟨_,rfl⟩
  rw [hK] at hD
  have htk:∀ r,(K.map EncE.cs ++ r).take K.length = K.map (EncE.cs (α:=Sea)):=fun r => List.take_left' (by simp)
  simp only [czz] at hD
  refine zaC fun Q1 h1 => ?_
  simp (maxSteps:=4000000) only [go_sem,zae,zac,zad,zan,zaq,czb,cza,↓reduceIte,zaL,za6,zau,zav,zat,zaw,zaI,zao,zap,za4,zab,onz,g0,gk,s0,sk,hn0,czd,czs,czc]
  all_goals (repeat' first | (with_reducible first | rfl | apply And.intro | assumption) | ((with_reducible show zaj _ _ = true); rfl)) <;> try first | omega | (simp only [InR]; omega)
  rw [h1]; clear h1 Q1; simp only [zaW,zaA]
  simp (maxSteps:=4000000) only [go_sem,zae,zac,zad,zan,zaq,czb,cza,↓reduceIte,zaL,za6,zau,zav,zat,zaw,zaI,zao,zap,za4,zab,onz,hA,g0,gk,s0,sk,hn0,czd,czs,czc,decide_true,decide_false]
  have q:A = true:=hA.symm
  refine ⟨_,hD,?_⟩
  rintro r m ⟨rfl,rfl⟩ _
  unfold zcy yC
  generalize hr:List.replicate ((zba y).length - K.length) zoV = RR
  clear hD
  simp (maxSteps:=4000000) only [go_sem,zae,zac,zad,zan,zaq,czb,cza,↓reduceIte,zaL,za6,zau,zav,zat,zaw,zaI,zao,zap,za4,zab,onz,htk,g0,gk,s0,sk,hn0,czd,czs,czc,czz,List.set_cons_succ,List.set_cons_zero,decide_true,decide_false]
  have hv5:zb6 (n0 + 5) (.vec (K.map EncE.cs ++ RR) 2 (zba y).length):=fun e he c hc => by
   rcases czv.1 he with h | h
   ·obtain ⟨x,_,rfl⟩:=czx.1 h
    exact zcR _ _ _ (EncE.ok x c hc) (by rw [zfA]; omega)
   ·rw [← hr] at h
    rw [(czL.1 h).2] at hc
    simp only [zoV,czn,czk,or_false] at hc
    rcases hc with rfl | rfl <;> simp [bel]
  have hqa:zds y A = if K = [] then 11 else 0:=by unfold zds; rw [if_neg (by simp [c0]),if_neg (by simp [q]),hK]
  refine ⟨fun e => ?_,fun e => ?_⟩
  ·have hKn:K = []:=List.eq_nil_of_length_eq_zero (by simpa using e)
   rw [if_pos hKn] at hqa
   simp (maxSteps:=4000000) only [go_sem,zae,zac,zad,zan,zaq,czb,cza,↓reduceIte,zaL,za6,zau,zav,zat,zaw,zaI,zao,zap,za4,zab,onz,hQ0,hn0]
   obtain ⟨k,k1,k2,k3,k4⟩:=hbad _ _ 11 (by simp) hqa rfl
   exact ⟨k,k1,k2,k3,by simp [AV.bare,zal,zaN,zaR,zak,zar,zaf,tokz1,lk,zaa,za3],k4⟩
  ·have hKn:K ≠ []:=fun q => by simp [q] at e
   rw [if_neg hKn] at hqa
   simp (maxSteps:=4000000) only [go_sem,zae,zac,zad,zan,zaq,czb,cza,↓reduceIte,zaL,za6,zau,zav,zat,zaw,zaI,zao,zap,za4,zab,onz,hQ0,hn0]
   refine ⟨n0 + 5,by omega,by simp [hn0],?_,by simp [AV.bare,zal,zaN,zaR,zak,zar,zaf,tokz1,lk,zaa,za3],?_⟩
   ·rw [cze (by simp [hn0])]
    unfold zlp
    rw [if_pos hqa,hn0]
    refine ⟨rfl,?_⟩
    unfold zhY yC
    rw [hK,hr]
   ·rw [cze (by simp [hn0])]
    exact zce hm (by omega) ⟨zcc y _,zcc y _,by simp [AV.bare,zal,zaN,zaR,zak,zar,zaf,tokz1,lk,zaa,za3,-List.map_map],by simp [AV.bare,zal,zaN,zaR,zak,zar,zaf,tokz1,lk,zaa,za3],hv5,trivial⟩
 ·have hq:zds y A = zbk y:=by unfold zds; rw [if_pos c0]
  refine ⟨_,zd1 y h4 c0 hok1,?_⟩
  rintro r m ⟨rfl,rfl⟩ _
  simp (maxSteps:=4000000) only [go_sem,zae,zac,zad,zan,zaq,czb,cza,↓reduceIte,zaL,za6,zau,zav,zat,zaw,zaI,zao,zap,za4,zab,onz,g0,hn0]
  rw [h1]; clear h1 Q1
  simp only [zaW,zaA]
  simp (maxSteps:=4000000) only [go_sem,zae,zac,zad,zan,zaq,czb,cza,↓reduceIte,zaL,za6,zau,zav,zat,zaw,zaI,zao,zap,za4,zab,onz,c0,hQ0,g0,hn0,decide_true,decide_false]
  obtain ⟨k,k1,k2,k3,k4⟩:=hbad _ _ _ c0 hq rfl
  exact ⟨k,k1,k2,k3,by simp [AV.bare,zal,zaN,zaR,zak,zar,zaf,tokz1,lk,zaa,za3],k4⟩
end
theorem stay_play {y:Yd} (hv:VY y) {hs o:List Int} (hl:hs.length = hrs y) {c:Int} (h0:0 ≤ c) (h1:c < y.chairs.length):zfP y (zb1 y.t hs) ⟨c,zca y o c⟩ = zmX y o hs c:=by
 unfold zfP zmX
 refine zmA fun k hk => ?_
 have hh:=hv.hrs
 have hr:=(hv.at h0 h1).2.1
 unfold stayW zo2
 dsimp only
 rw [zue hv.h0 (by omega)]
 congr 1
 unfold zb1 lvY
 dsimp only
 rw [zii (by omega)]
 exact zpq (by omega) (by omega)
theorem play_at {y:Yd} (hv:VY y) {hs o:List Int} (hl:hs.length = hrs y) {c:Int} (h0:0 ≤ c) (h1:c < y.chairs.length):at_ (ziO y (zb1 y.t hs) o) c.toNat = zmX y o hs c:=by
 unfold ziO
 rw [zhX _ (by omega),show ((c.toNat:Nat):Int) = c by omega]
 exact stay_play hv hl h0 h1
theorem rightP_of {y:Yd} (hv:VY y) {hs:List Int} (hl:hs.length = hrs y) (out:List Int) {k:Nat} (hk:k < y.hires.length):zhq y (zb1 y.t hs) out k = (out.contains (k:Int) || zd6 y hs k):=by
 have h:=hv.hi _ (zbv hk)
 have hh:=hv.hrs
 unfold zhq zd6
 rw [play_at hv hl h.1.1 h.1.2,zhT _ _ _ (by omega),show (((at_ y.hires k).hi.toNat:Nat):Int) = (at_ y.hires k).hi by omega]
theorem zmR {y:Yd} (hv:VY y) {hs:List Int} (hl:hs.length = hrs y) (out:List Int):zcr y (zb1 y.t hs) out = (List.range y.hires.length).all fun k => out.contains (k:Int) || zd6 y hs k:=by
 unfold zcr
 apply zdA
 intro k hk
 exact rightP_of hv hl out (by simpa using hk)
theorem ztj {y:Yd} (hv:VY y) {hs:List Int} (hl:hs.length = hrs y):zcr y (zb1 y.t hs) [] = zfs y hs:=by
 rw [zmR hv hl]
 unfold zfs
 apply zdA
 intro k _
 simp
theorem zig {y:Yd} (hv:VY y) {p:List Int} (h:p ∈ zba y):p.length = hrs y:=zhg hv (zhS hv h)
theorem zpS {y:Yd} (hv:VY y):zee y = (ziK y).map (zb1 y.t):=by
 unfold zee ziK
 rw [List.filter_map]
 congr 1
 apply List.filter_congr
 intro p hp
 exact ztj hv (zig hv hp)
theorem kept_nil {y:Yd} (hv:VY y):zee y = [] ↔ zeV y = []:=by
 rw [zpS hv,List.map_eq_nil_iff,zrg hv]
def zgN (y:Yd) (a:Bool):Int:=if zbk y ≠ 0 then zbk y else if a = false then 2 else if zeV y = [] then 11 else 0
theorem zkd (y:Yd) (a:Bool):zds y a = zgN y a:=by
 unfold zds zgN
 by_cases c:zbk y = 0
 ·have hv:=zkp c
  simp only [kept_nil hv]
 ·simp [c]
theorem zjb {y:Yd} {a:Bool} (h:zgN y a = 0):VY y ∧ a = true ∧ zeV y ≠ [] ∧ zds y a = 0 ∧ zee y = (ziK y).map (zb1 y.t):=by
 have h':=h
 unfold zgN at h
 by_cases c:zbk y = 0
 ·have hv:=zkp c
  simp only [c,ne_eq,not_true_eq_false,if_false] at h
  cases a
  ·simp at h
  ·simp only [Bool.true_eq_false,if_false] at h
   by_cases d:zeV y = []
   ·simp [d] at h
   ·exact ⟨hv,rfl,d,by rw [zkd,h'],zpS hv⟩
 ·rw [if_pos c] at h
  exact absurd h c
theorem work_hrs {y:Yd} (hv:VY y) {p:List Int} (h:p ∈ ziK y):p.length = hrs y:=by
 unfold ziK at h
 exact zig hv (List.mem_filter.1 h).1
theorem work_len {y:Yd} (hv:VY y):(ziK y).length ≤ 2000:=by
 have:=zt7 (y:=y) hv.fok.vok
 have:=List.length_filter_le (zfs y) (zba y)
 unfold ziK
 omega
def hasR (s:Sy) (h:Int):Int:=if s.free.contains h = true then 1 else 0
inductive Qn8 where
 | free
 | has (h:Int)
instance:Enc Qn8 where
 enc
  | .free => .agg [.fn (.func 99) [] []]
  | .has h => .agg [.fn (.func 95) [] [.ref [.int .i64 h] 0]]
 dec
  | .agg [.fn (.func g) [] []] => if g = 99 then some .free else none
  | .agg [.fn (.func g) [] [.ref [.int .i64 h] 0]] => if g = 95 then some (.has h) else none
  | _ => none
 law v x h:=by
  split at h
  ·split at h
   ·rename_i e; cases h; rw [e]
   ·cases h
  ·split at h
   ·rename_i e; cases h; rw [e]
   ·cases h
  ·cases h
 dep:=4
 ok x:=by cases x <;> simp [zbr]
theorem enc_qn8_f:Enc.enc Qn8.free = .agg [.fn (.func 99) [] []]:=rfl
theorem enc_qn8_h (h:Int):Enc.enc (Qn8.has h) = .agg [.fn (.func 95) [] [.ref [.int .i64 h] 0]]:=rfl
theorem zbQ:(Enc.dec (.agg [.fn (.func 99) [] []]):Option Qn8) = some .free:=rfl
theorem zbP (h:Int):(Enc.dec (.agg [.fn (.func 95) [] [.ref [.int .i64 h] 0]]):Option Qn8) = some (.has h):=rfl
theorem zlv (s:Sy) (h:s.free.length ≤ 4096):zaP Tryz.prog 99 [Enc.enc s] (· = Enc.enc ((s.free.length:Nat):Int)):=by
 simp only [zcf]
 refine cpz zgx Tryz.func99 zaB ?_
 rw [Tryz.ntmps99]
 simp only [Tryz.f99,zai,zam]
 simp (maxSteps:=4000000) only [go_sem,AV.one,zae,zac,zad,zan,zaq,zaa,czb,cza,↓reduceIte,zaQ,zbQ,zbP,zbe,zab,onz]
theorem has8_call (s:Sy) (h:RefC Int) (hl:s.free.length ≤ 4096):zaP Tryz.prog 95 [Enc.enc s,Enc.enc h] (· = Enc.enc (hasR s h.x)):=by
 obtain ⟨h⟩:=h
 unfold hasR
 simp only [zek]
 cases c:s.free.contains h
 ·simp only [zcf]
  refine cpz zgx Tryz.func95 zaB ?_
  rw [Tryz.ntmps95]
  simp only [Tryz.f95,zai,zam]
  simp (maxSteps:=4000000) only [go_sem,AV.one,zae,zac,zad,zan,zaq,zaa,czb,cza,↓reduceIte,zaQ,zbQ,zbP,zbe,zab,onz,c]
  all_goals exact auz
 ·simp only [zcf]
  refine cpz zgx Tryz.func95 zaB ?_
  rw [Tryz.ntmps95]
  simp only [Tryz.f95,zai,zam]
  simp (maxSteps:=4000000) only [go_sem,AV.one,zae,zac,zad,zan,zaq,zaa,czb,cza,↓reduceIte,zaQ,zbQ,zbP,zbe,zab,onz,c]
  all_goals exact auz
def P129 (g:FuncId):=(zas 99 (zcC (fun s:Sy => s.free.length ≤ 4096) (fun s => ((s.free.length:Nat):Int))) (zas 95 (zbF (fun (s:Sy) (_:RefC Int) => s.free.length ≤ 4096) (fun s h => hasR s h.x)) (P127)):zaJ) g
theorem zq1:zaz Tryz.prog P129:=zah (zbj zlv) (zah (zaM has8_call) (zgx))
theorem zot (d:Option Nat):zaF P129 d = none:=(zag (by decide) d).trans ((zag (by decide) d).trans (zou d))
attribute [go_sem] P129 zot
def Qn8.ask (q:Qn8) (s:Sy):Int :=
 match q with
 | .free => (s.free.length:Nat)
 | .has h => hasR s h
def bW (q:Qn8) (y:Yd) (b c:Int) (r:Rg) (s:Sea):Rg:=zdt r (q.ask (zfP y s ⟨c,b⟩))
def zfD (q:Qn8) (w:W8) (o:List Int) (c:Int):Rg:=w.ts.foldl (bW q w.y (zca w.y o c) c) ⟨q.ask (zfP w.y (at_ w.ts 0) ⟨c,zca w.y o c⟩),q.ask (zfP w.y (at_ w.ts 0) ⟨c,zca w.y o c⟩)⟩
structure zu1 (w:W8):Prop where
 vy:VY w.y
 ys:∀ s ∈ w.ts,YS w.y s
 l1:w.ts.length ≤ 4096
theorem znL (q:Qn8) (w:W8) (o:List Int) (c:Int) (h:(zu1 w ∧ 0 < w.ts.length) ∧ o.length ≤ 4096 ∧ 0 ≤ c ∧ c < w.y.chairs.length):zaP Tryz.prog 97 [Enc.enc q,Enc.enc w,Enc.enc o,Enc.enc c] (· = Enc.enc (zfD q w o c)):=by
 obtain ⟨⟨hw,h1⟩,ho,hc0,hc1⟩:=h
 obtain ⟨y,ts⟩:=w
 obtain ⟨hv,hys,hl⟩:=hw
 dsimp only at hv hys hl h1 hc1
 have hb1:=hv.l0
 have hb2:=hv.h0
 have hb3:=hv.h5
 have hh:=hv.hrs
 have h0:=zax (f:=EncE.cs) h1
 have h1':(0:Int) < ts.length:=by omega
 obtain ⟨b,hb⟩:∃ b,zca y o c = b:=⟨_,rfl⟩
 have hp0:=(hys _ (zbv h1)).pre (b:=b) hc0 hc1
 have hfl:∀ s,(zfP y s ⟨c,b⟩).free.length ≤ 4096:=fun s => by have:=zkM y s ⟨c,b⟩; omega
 have hf0:=hfl (at_ ts 0)
 unfold zfD
 simp only [zbe,w8C,hb]
 cases q with
 | free =>
  simp only [enc_qn8_f]
  simp only [zcf]
  refine cpz zq1 Tryz.func97 zaB ?_
  rw [Tryz.ntmps97]
  simp only [Tryz.f97,zai,zam]
  simp (maxSteps:=4000000) only [go_sem,zae,zac,zad,zan,zaq,zaa,czb,cza,↓reduceIte,zaQ,zbQ,zbP,zbe,zab,onz,h0,h1',hb]
  all_goals (repeat' first | (with_reducible first | rfl | apply And.intro | assumption) | ((with_reducible show zaj _ _ = true); rfl)) <;> try first | omega | (simp only [InR]; omega)
  refine zbG (ts.length) [] [1,4,8,9,11,44,45] (fun i => [(46,.int .i64 i)]) (fun i m => m.set 3 (.cells (EncE.cs ((ts.take i).foldl (bW Qn8.free y b c) ⟨Qn8.ask Qn8.free (zfP y (at_ ts 0) ⟨c,b⟩),Qn8.ask Qn8.free (zfP y (at_ ts 0) ⟨c,b⟩)⟩)))) (fun _ => True) ?_ ?_ ?_ ?_
  ·trivial
  ·simp [AV.bare,zal,zaN,zaR,zak,zar,zaf,tokz1,lk,zaa,za3,Qn8.ask]
  ·intro i hi _
   have hpi:=(hys _ (zbv hi)).pre (b:=b) hc0 hc1
   have hfi:=hfl (at_ ts i)
   simp (maxSteps:=4000000) only [go_sem,zae,zac,zad,zan,zaq,zaa,czb,cza,↓reduceIte,zaQ,zbQ,zbP,zbe,zab,onz,zax hi,czH.2 hi,hb]
   all_goals (repeat' first | (with_reducible first | rfl | apply And.intro | assumption) | ((with_reducible show zaj _ _ = true); rfl)) <;> try first | omega | (simp only [InR]; omega)
   refine nxt hi trivial ?_
   simp [AV.bare,zal,zaN,zaR,zak,zar,zaf,tokz1,lk,zaa,za3,zjU hi,Qn8.ask,bW]
  ·intro _
   simp (maxSteps:=4000000) only [go_sem,zae,zac,zad,zan,zaq,zaa,czb,cza,↓reduceIte,zaQ,zbQ,zbP,zbe,zab,onz,czm]
 | has k =>
  simp only [enc_qn8_h]
  simp only [zcf]
  refine cpz zq1 Tryz.func97 zaB ?_
  rw [Tryz.ntmps97]
  simp only [Tryz.f97,zai,zam]
  simp (maxSteps:=4000000) only [go_sem,zae,zac,zad,zan,zaq,zaa,czb,cza,↓reduceIte,zaQ,zbQ,zbP,zbe,zab,onz,h0,h1',hb]
  all_goals (repeat' first | (with_reducible first | rfl | apply And.intro | assumption) | ((with_reducible show zaj _ _ = true); rfl)) <;> try first | omega | (simp only [InR]; omega)
  refine zbG (ts.length) [] [1,4,8,9,11,44,45] (fun i => [(46,.int .i64 i)]) (fun i m => m.set 3 (.cells (EncE.cs ((ts.take i).foldl (bW (Qn8.has k) y b c) ⟨Qn8.ask (Qn8.has k) (zfP y (at_ ts 0) ⟨c,b⟩),Qn8.ask (Qn8.has k) (zfP y (at_ ts 0) ⟨c,b⟩)⟩)))) (fun _ => True) ?_ ?_ ?_ ?_
  ·trivial
  ·simp [AV.bare,zal,zaN,zaR,zak,zar,zaf,tokz1,lk,zaa,za3,Qn8.ask]
  ·intro i hi _
   have hpi:=(hys _ (zbv hi)).pre (b:=b) hc0 hc1
   have hfi:=hfl (at_ ts i)
   simp (maxSteps:=4000000) only [go_sem,zae,zac,zad,zan,zaq,zaa,czb,cza,↓reduceIte,zaQ,zbQ,zbP,zbe,zab,onz,zax hi,czH.2 hi,hb]
   all_goals (repeat' first | (with_reducible first | rfl | apply And.intro | assumption) | ((with_reducible show zaj _ _ = true); rfl)) <;> try first | omega | (simp only [InR]; omega)
   refine nxt hi trivial ?_
   simp [AV.bare,zal,zaN,zaR,zak,zar,zaf,tokz1,lk,zaa,za3,zjU hi,Qn8.ask,bW]
  ·intro _
   simp (maxSteps:=4000000) only [go_sem,zae,zac,zad,zan,zaq,zaa,czb,cza,↓reduceIte,zaQ,zbQ,zbP,zbe,zab,onz,czm]
def P130 (g:FuncId):=(zas 97 (ziL (fun (q:Qn8) (w:W8) (o:List Int) (c:Int) => (zu1 w ∧ 0 < w.ts.length) ∧ o.length ≤ 4096 ∧ 0 ≤ c ∧ c < w.y.chairs.length) zfD) (P129):zaJ) g
theorem zq0:zaz Tryz.prog P130:=zah (zeg znL) (zq1)
theorem zos (d:Option Nat):zaF P130 d = none:=(zag (by decide) d).trans (zot d)
attribute [go_sem] P130 zos
end Go.Proofs
