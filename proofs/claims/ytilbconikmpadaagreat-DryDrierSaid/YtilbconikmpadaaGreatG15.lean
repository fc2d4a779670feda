/- The texts H11, H12, H13, H14, joined. -/
import Derived.Test.YtilbconikmpadaaGreatG14
set_option linter.all false
namespace Go.Proofs
open Go.Fs
set_option maxHeartbeats 4000000
set_option maxRecDepth 8000
inductive FnFine where
 | hours (y:Yd) (o:List Int) (c:Int)
 | free (y:Yd) (o:List Int) (c h:Int)
 | lost (y:Yd) (o:List Int)
 | best
def FnFine.ask:FnFine → Bool
 | .hours y o c => za2 y.chairs.length o && inB c 0 ((y.chairs.length:Int) - 1)
 | .free y o c h => za2 y.chairs.length o && inB c 0 ((y.chairs.length:Int) - 1) && inB h 0 y.t.last
 | .lost y o => za2 y.chairs.length o
 | .best => true
def FnFine.ok (z:Yd):FnFine → Prop
 | .hours y o c => y = z ∧ o.length ≤ 4096
 | .free y o c h => y = z ∧ o.length ≤ 4096
 | .lost y o => y = z ∧ o.length ≤ 4096
 | .best => True
def FnFine.av:FnFine → AV
 | .hours y o c => .fn (.func 98) [] [.ref (ydC y) 0,.ref [.sl (o.map EncE.cs) .no] 0,.ref [.int .i64 c] 0]
 | .free y o c h => .fn (.func 92) [] [.ref (ydC y) 0,.ref [.sl (o.map EncE.cs) .no] 0,.ref [.int .i64 c] 0,.ref [.int .i64 h] 0]
 | .lost y o => .fn (.func 102) [] [.ref (ydC y) 0,.ref [.sl (o.map EncE.cs) .no] 0]
 | .best => .fn (.func 106) [] []
def zik:AV → Option FnFine
 | .fn (.func g) [] [.ref a 0,.ref [.sl o .no] 0,.ref [.int .i64 c] 0] =>
  if g = 98 then match ziW a,(zdC o:Option (List Int)) with
   | some y,some o => some (.hours y o c)
   | _,_ => none
  else none
 | .fn (.func g) [] [.ref a 0,.ref [.sl o .no] 0,.ref [.int .i64 c] 0,.ref [.int .i64 h] 0] =>
  if g = 92 then match ziW a,(zdC o:Option (List Int)) with
   | some y,some o => some (.free y o c h)
   | _,_ => none
  else none
 | .fn (.func g) [] [.ref a 0,.ref [.sl o .no] 0] =>
  if g = 102 then match ziW a,(zdC o:Option (List Int)) with
   | some y,some o => some (.lost y o)
   | _,_ => none
  else none
 | .fn (.func g) [] [] => if g = 106 then some .best else none
 | _ => none
theorem zqG {v:AV} {f:FnFine} (h:zik v = some f):v = f.av:=by
 unfold zik at h
 split at h
 ·split at h
  ·rename_i e
   split at h
   ·rename_i h1 h2
    cases h
    rw [e,zfk h1,zbv _ _ h2]; rfl
   ·cases h
  ·cases h
 ·split at h
  ·rename_i e
   split at h
   ·rename_i h1 h2
    cases h
    rw [e,zfk h1,zbv _ _ h2]; rfl
   ·cases h
  ·cases h
 ·split at h
  ·rename_i e
   split at h
   ·rename_i h1 h2
    cases h
    rw [e,zfk h1,zbv _ _ h2]; rfl
   ·cases h
  ·cases h
 ·split at h
  ·rename_i e; cases h; rw [e]; rfl
  ·cases h
 ·cases h
theorem zfu:∀ (n m:Nat) (v:AV),zbp n v → n ≤ m → zbp m v:=by
 intro n
 induction n with
 | zero => intro m v h; simp [zbp] at h
 | succ n ih =>
  intro m v h hm
  obtain ⟨m,rfl⟩:∃ k,m = k + 1:=⟨m - 1,by omega⟩
  cases v <;> simp only [zbp] at h ⊢
  ·exact fun c hc => ih m c (h c hc) (by omega)
  ·exact fun c hc => ih m c (h c hc) (by omega)
  ·exact ⟨h.1,fun e he c hc => ih m c (h.2 e he c hc) (by omega)⟩
  ·exact fun c hc => ih m c (h c hc) (by omega)
  ·exact ⟨fun c hc => ih m c (h.1 c hc) (by omega),fun c hc => ih m c (h.2 c hc) (by omega)⟩
  ·exact fun c hc => ih m c (h c hc) (by omega)
theorem fine_pure (f:FnFine):zbp 5 f.av:=by
 have hy:∀ y:Yd,zbp 4 (.ref (ydC y) 0):=fun y c hc => zfu 2 3 c (zfp y c hc) (by omega)
 have ho:∀ o:List Int,zbp 4 (.ref [.sl (o.map EncE.cs) .no] 0):=fun o c hc => by
  simp only [czn,czk,or_false] at hc
  subst hc
  refine ⟨rfl,fun e he c hc => ?_⟩
  obtain ⟨x,_,rfl⟩:=czx.1 he
  exact zfu 1 2 c (EncE.ok x c hc) (by omega)
 have hi:∀ n:Int,zbp 4 (.ref [.int .i64 n] 0):=fun n c hc => by
  simp only [czn,czk,or_false] at hc
  subst hc
  trivial
 cases f with
 | hours y o c =>
  refine ⟨fun _ h => (by cases h),fun a ha => ?_⟩
  simp only [czn,czk,or_false] at ha
  rcases ha with rfl | rfl | rfl
  ·exact hy y
  ·exact ho o
  ·exact hi c
 | free y o c h =>
  refine ⟨fun _ h => (by cases h),fun a ha => ?_⟩
  simp only [czn,czk,or_false] at ha
  rcases ha with rfl | rfl | rfl | rfl
  ·exact hy y
  ·exact ho o
  ·exact hi c
  ·exact hi h
 | lost y o =>
  refine ⟨fun _ h => (by cases h),fun a ha => ?_⟩
  simp only [czn,czk,or_false] at ha
  rcases ha with rfl | rfl
  ·exact hy y
  ·exact ho o
 | best => exact ⟨fun _ h => (by cases h),fun _ h => (by cases h)⟩
instance:Enc FnFine where
 enc f:=f.av
 dec:=zik
 law v x h:=zqG h
 dep:=5
 ok:=fine_pure
theorem zav (y:Yd) (o:List Int) (c:Int):(Enc.dec (.fn (.func 98) [] [.ref [.int .i64 y.t.last,.sl (y.t.heights.map EncE.cs) .no,.int .i64 y.t.step,.sl (y.t.levels.map EncE.cs) .no,.sl (y.t.marks.map EncE.cs) .no,.int .i64 y.hands,.sl (y.chairs.map EncE.cs) .no,.sl (y.order.map EncE.cs) .no,.sl (y.hires.map EncE.cs) .no] 0,.ref [.sl (o.map EncE.cs) .no] 0,.ref [.int .i64 c] 0]):Option FnFine) = some (.hours y o c):=by
 have e1:=zj8 y
 have e2:=zdn o
 rw [ydC] at e1
 simp only [Enc.dec,zik,if_true,e1,e2]
theorem zaw (y:Yd) (o:List Int) (c h:Int):(Enc.dec (.fn (.func 92) [] [.ref [.int .i64 y.t.last,.sl (y.t.heights.map EncE.cs) .no,.int .i64 y.t.step,.sl (y.t.levels.map EncE.cs) .no,.sl (y.t.marks.map EncE.cs) .no,.int .i64 y.hands,.sl (y.chairs.map EncE.cs) .no,.sl (y.order.map EncE.cs) .no,.sl (y.hires.map EncE.cs) .no] 0,.ref [.sl (o.map EncE.cs) .no] 0,.ref [.int .i64 c] 0,.ref [.int .i64 h] 0]):Option FnFine) = some (.free y o c h):=by
 have e1:=zj8 y
 have e2:=zdn o
 rw [ydC] at e1
 simp only [Enc.dec,zik,if_true,e1,e2]
theorem zau (y:Yd) (o:List Int):(Enc.dec (.fn (.func 102) [] [.ref [.int .i64 y.t.last,.sl (y.t.heights.map EncE.cs) .no,.int .i64 y.t.step,.sl (y.t.levels.map EncE.cs) .no,.sl (y.t.marks.map EncE.cs) .no,.int .i64 y.hands,.sl (y.chairs.map EncE.cs) .no,.sl (y.order.map EncE.cs) .no,.sl (y.hires.map EncE.cs) .no] 0,.ref [.sl (o.map EncE.cs) .no] 0]):Option FnFine) = some (.lost y o):=by
 have e1:=zj8 y
 have e2:=zdn o
 rw [ydC] at e1
 simp only [Enc.dec,zik,if_true,e1,e2]
theorem zax:(Enc.dec (.fn (.func 106) [] []):Option FnFine) = some .best:=rfl
theorem za4 (f:FnFine):Enc.enc f = f.av:=rfl
theorem zqi (f:RefYd) (o:RefC (List Int)) (c:RefC Int) (h:f.y.chairs.length ≤ 4096 ∧ o.x.length ≤ 4096):zaQ Tryz.prog 98 [Enc.enc f,Enc.enc o,Enc.enc c] (· = Enc.enc (FnFine.hours f.y o.x c.x).ask):=by
 obtain ⟨y⟩:=f
 obtain ⟨o⟩:=o
 obtain ⟨c⟩:=c
 simp only [zaI,ydC,zem,FnFine.ask]
 have h1:=h.1
 have h2:=h.2
 dsimp only at h1 h2
 simp only [zb5]
 refine cpz zir Tryz.func98 zaC ?_
 rw [Tryz.ntmps98]
 simp only [Tryz.f98,zah,zam]
 simp (maxSteps:=4000000) only [go_sem,AV.one,zae,zac,zad,zan,zaq,zaa,czb,cza,↓reduceIte,zaK,zav,zaw,zau,zax,zaI,zab,onz]
 all_goals (repeat' first | (with_reducible first | rfl | apply And.intro | assumption) | ((with_reducible show zaj _ _ = true); rfl)) <;> try first | omega | (simp only [InR]; omega)
 all_goals first | exact fun q => ⟨q,h1⟩ | skip
theorem zui (f:RefYd) (o:RefC (List Int)) (c k:RefC Int) (h:f.y.chairs.length ≤ 4096 ∧ o.x.length ≤ 4096):zaQ Tryz.prog 92 [Enc.enc f,Enc.enc o,Enc.enc c,Enc.enc k] (· = Enc.enc (FnFine.free f.y o.x c.x k.x).ask):=by
 obtain ⟨y⟩:=f
 obtain ⟨o⟩:=o
 obtain ⟨c⟩:=c
 obtain ⟨k⟩:=k
 simp only [zaI,ydC,zem,FnFine.ask]
 have h1:=h.1
 have h2:=h.2
 dsimp only at h1 h2
 simp only [zb5]
 refine cpz zir Tryz.func92 zaC ?_
 rw [Tryz.ntmps92]
 simp only [Tryz.f92,zah,zam]
 simp (maxSteps:=4000000) only [go_sem,AV.one,zae,zac,zad,zan,zaq,zaa,czb,cza,↓reduceIte,zaK,zav,zaw,zau,zax,zaI,zab,onz]
 all_goals (repeat' first | (with_reducible first | rfl | apply And.intro | assumption) | ((with_reducible show zaj _ _ = true); rfl)) <;> try first | omega | (simp only [InR]; omega)
 all_goals first | exact fun q => ⟨q,h1⟩ | skip
theorem ztX (f:RefYd) (o:RefC (List Int)) (h:f.y.chairs.length ≤ 4096 ∧ o.x.length ≤ 4096):zaQ Tryz.prog 102 [Enc.enc f,Enc.enc o] (· = Enc.enc (FnFine.lost f.y o.x).ask):=by
 obtain ⟨y⟩:=f
 obtain ⟨o⟩:=o
 simp only [zaI,ydC,zem,FnFine.ask]
 have h1:=h.1
 have h2:=h.2
 dsimp only at h1 h2
 simp only [zb5]
 refine cpz zir Tryz.func102 zaC ?_
 rw [Tryz.ntmps102]
 simp only [Tryz.f102,zah,zam]
 simp (maxSteps:=4000000) only [go_sem,AV.one,zae,zac,zad,zan,zaq,zaa,czb,cza,↓reduceIte,zaK,zav,zaw,zau,zax,zaI,zab,onz]
 all_goals (repeat' first | (with_reducible first | rfl | apply And.intro | assumption) | ((with_reducible show zaj _ _ = true); rfl)) <;> try first | omega | (simp only [InR]; omega)
 all_goals first | exact fun q => ⟨q,h1⟩ | skip
theorem zuG:zaQ Tryz.prog 106 [] (· = Enc.enc true):=by
 simp only [zb5]
 refine cpz zir Tryz.func106 zaC ?_
 rw [Tryz.ntmps106]
 simp only [Tryz.f106,zah,zam]
 simp (maxSteps:=4000000) only [go_sem,AV.one,zae,zac,zad,zan,zaq,zaa,czb,cza,↓reduceIte,zaK,zav,zaw,zau,zax,zaI,zab,onz]
def P127 (g:FuncId):=(zaz 98 (zeb (fun (f:RefYd) (o:RefC (List Int)) (c:RefC Int) => f.y.chairs.length ≤ 4096 ∧ o.x.length ≤ 4096) (fun f o c => (FnFine.hours f.y o.x c.x).ask)) (zaz 92 (ziR (fun (f:RefYd) (o:RefC (List Int)) (c _:RefC Int) => f.y.chairs.length ≤ 4096 ∧ o.x.length ≤ 4096) (fun f o c k => (FnFine.free f.y o.x c.x k.x).ask)) (zaz 102 (zbE (fun (f:RefYd) (o:RefC (List Int)) => f.y.chairs.length ≤ 4096 ∧ o.x.length ≤ 4096) (fun f o => (FnFine.lost f.y o.x).ask)) (zaz 106 (ztq true) (P126)))):zaJ) g
theorem zgv:zaA Tryz.prog P127:=zai (zb6 zqi) (zai (zeh zui) (zai (zaM ztX) (zai (zlK zuG) (zir))))
theorem zoP (d:Option Nat):zaG P127 d = none:=(zag (by decide) d).trans ((zag (by decide) d).trans ((zag (by decide) d).trans ((zag (by decide) d).trans (zoQ d))))
attribute [go_sem] P127 zoP
def zee (y:Yd):List Sea:=((zba y).map (zbW y.t)).filter fun x => zcs y x []
def zds (y:Yd) (a:Bool):Int:=if zbQ y ≠ 0 then zbQ y else if a = false then 2 else if zee y = [] then 11 else 0
def yC (y:Yd):AObj:=.cells [.int .i64 y.t.last,.sl (y.t.heights.map EncE.cs) .no,.int .i64 y.t.step,.sl (y.t.levels.map EncE.cs) .no,.sl (y.t.marks.map EncE.cs) .no,.int .i64 y.hands,.sl (y.chairs.map EncE.cs) .no,.sl (y.order.map EncE.cs) .no,.sl (y.hires.map EncE.cs) .no]
def zh4 (y:Yd) (n0:Nat):List AObj:=[yC y,yC y,
 .cells [.int .i64 y.t.last,.sl (y.t.heights.map EncE.cs) .no,.int .i64 y.t.step,.sl (y.t.levels.map EncE.cs) .no,.sl (y.t.marks.map EncE.cs) .no,.int .i64 y.hands,.sl (y.chairs.map EncE.cs) .no,.sl (y.order.map EncE.cs) .no,.sl (y.hires.map EncE.cs) .no,.vec (n0 + 4) (zba y).length 0 (zee y).length 2],
 .cells [.ptr (n0 + 2) 0],.vec ((zee y).map EncE.cs ++ List.replicate ((zba y).length - (zee y).length) zpg) 2 (zba y).length]
def zlD (y:Yd) (a:Bool) (mem:List AObj) (r:AV) (m:List AObj):Prop :=
 if zds y a = 0 then r = .tup [.ptr (mem.length + 2) 0,.int .i64 0] ∧ m = mem ++ zh4 y mem.length else r = .tup [.nilp,.int .i64 (zds y a)] ∧ m = mem
theorem zcb (y:Yd) (k:Nat):zb9 k (yC y):=fun c hc => zcP _ _ _ (zfp y c hc) (by omega)
theorem askW {y:Yd} (hv:VY y):∀ x ∈ (zba y).map (zbW y.t),YS y x:=fun x hx => by
 obtain ⟨p,_,rfl⟩:=czx.1 hx
 exact ys_of hv p
theorem zfl {y:Yd} (hv:VY y):(zba y).length ≤ 4096:=by
 have h1:(zba y).length ≤ (zkY y.t).length:=by
  have:=zjg y (zkY y.t) []
  simpa [zba] using this
 have:=zlR hv.fok.vok
 omega
section
variable {mem:List AObj} (y:Yd)
theorem askedh (o:List Int) (c:Int) {b0 b1 b2:Nat} (h4:y.t.heights.length ≤ 4096 ∧ y.order.length ≤ 4096) (m0:zaa mem b0 = yC y) (m1:zaa mem b1 = .cells [.sl (o.map EncE.cs) .no]) (m2:zaa mem b2 = .cells [.int .i64 c]) (ho:o.length ≤ 4096) (hm:∀ o ∈ mem,zb9 mem.length o) :
  ze3 Tryz.prog 91 [.agg (ydC y),.fn (.func 98) [] [.ptr b0 0,.ptr b1 0,.ptr b2 0]] mem (zlD y (FnFine.hours y o c).ask mem):=by
 obtain ⟨A,hA⟩:∃ A,(FnFine.hours y o c).ask = A:=⟨_,rfl⟩
 rw [hA]
 obtain ⟨n0,hn0⟩:∃ n0,mem.length = n0:=⟨_,rfl⟩
 rw [hn0] at hm
 unfold yC at m0
 have q0:=zbf m0 (by simp)
 have e0:∀ r,zaa (mem ++ r) b0 = _:=fun r => (zaT (by omega)).trans m0
 have q1:=zbf m1 (by simp)
 have e1:∀ r,zaa (mem ++ r) b1 = _:=fun r => (zaT (by omega)).trans m1
 have q2:=zbf m2 (by simp)
 have e2:∀ r,zaa (mem ++ r) b2 = _:=fun r => (zaT (by omega)).trans m2
 have g0:∀ r,zaa (mem ++ r) n0 = zaa r 0:=fun r => by rw [← hn0]; exact zaL _ _ 0
 have gk:∀ r k,zaa (mem ++ r) (n0 + k) = zaa r k:=fun r k => by rw [← hn0]; exact zaL _ _ k
 have s0:∀ r o,(mem ++ r).set n0 o = mem ++ r.set 0 o:=fun r o => by rw [← hn0]; exact zbV _ _ 0 _
 have sk:∀ r k o,(mem ++ r).set (n0 + k) o = mem ++ r.set k o:=fun r k o => by rw [← hn0]; exact zbV _ _ k _
 have hl1:∀ o:AObj,(mem ++ [o]).length = n0 + 1:=fun o => by simp [hn0]
 have hok1:∀ o ∈ mem ++ [yC y],zb9 (mem ++ [yC y]).length o:=by
  rw [hl1]
  exact zcg hm (by omega) ⟨zcb y _,trivial⟩
 have hbad:∀ (m:List AObj) (a:List AObj) e,e ≠ 0 → zds y A = e → m = mem ++ a → ∃ k,n0 ≤ k ∧ k ≤ m.length ∧ zlD y A mem (.tup [.nilp,.int .i64 e]) (m.take k) ∧ (∀ o ∈ m.take k,zb9 k o):=fun m a e he hq hm' => by
  subst hm'
  refine ⟨n0,czf _,by simp [hn0],?_,?_⟩
  ·rw [List.take_left' hn0]
   unfold zlD
   rw [hq,if_neg he]
   exact ⟨rfl,rfl⟩
  ·rw [List.take_left' hn0]; exact hm
 refine zb0 (Φ:=P127) Tryz.func91 rfl (by rfl) (by rw [Tryz.ntmps91]; simp) zaC zgv ?_
 rw [Tryz.ntmps91]
 simp only [Tryz.f91,zah,zam,ydC]
 refine zkR fun Q0 hQ0 => ?_
 refine zaB fun Q1 h1 => ?_
 simp (maxSteps:=4000000) only [go_sem,zae,zac,zad,zan,zaq,czb,cza,↓reduceIte,zaK,za6,zav,zaw,zau,zax,zaI,zao,zap,za4,zab,onz,g0,hn0]
 all_goals (repeat' first | (with_reducible first | rfl | apply And.intro | assumption) | ((with_reducible show zaj _ _ = true); rfl)) <;> try first | omega | (simp only [InR]; omega)
 rw [h1]; clear h1 Q1; simp only [zaU,zat]
 refine zaB fun Q1 h1 => ?_
 simp (maxSteps:=4000000) only [go_sem,zae,zac,zad,zan,zaq,czb,cza,↓reduceIte,zaK,za6,zav,zaw,zau,zax,zaI,zao,zap,za4,zab,onz,g0,hn0]
 by_cases c0:zbQ y = 0
 ·have hv:=zjh c0
  have h5:=hv.c5
  have hcl:=zfl hv
  refine ⟨_,zeu y hv hok1,?_⟩
  rintro r m ⟨rfl,rfl⟩ _
  rw [hl1]
  simp (maxSteps:=4000000) only [go_sem,zae,zac,zad,zan,zaq,czb,cza,↓reduceIte,zaK,za6,zav,zaw,zau,zax,zaI,zao,zap,za4,zab,onz,g0,hn0]
  rw [h1]; clear h1 Q1
  simp only [zaU,zat]
  unfold zcy
  simp only [czd,czs,List.nil_append,Nat.add_assoc,Nat.reduceAdd]
  have hD:=zeV (mem:=mem ++ (yC y :: zcy y (n0 + 1) (zba y))) (v:=n0 + 4) (s:=(zba y).length) (b:=n0) y ((zba y).map (zbW y.t)) (askW hv) (by rw [czz]; exact hcl) (by rw [gk]; rfl) (by rw [g0]; rfl)
  have hn5:(mem ++ (yC y :: zcy y (n0 + 1) (zba y))).length = n0 + 5:=by simp [hn0,zcy]
  have hok5:∀ o ∈ mem ++ (yC y :: zcy y (n0 + 1) (zba y)),zb9 (mem ++ (yC y :: zcy y (n0 + 1) (zba y))).length o:=by
   rw [hn5]
   refine zcg hm (by omega) ⟨zcb y _,?_⟩
   simp [AV.bare,zal,zaN,zaS,zak,zas,zaf,tokz1,lk,zaa,za3,zcy,-List.map_map]
   try omega
  have hD:=hD hok5
  rw [sk] at hD
  have hk:(((zba y).map (zbW y.t)).filter fun x => zcs y x []) = zee y:=rfl
  rw [hk] at hD
  obtain ⟨K,hK⟩:∃ K,zee y = K:=⟨_,rfl⟩
  rw [hK] at hD
  have htk:∀ r,(K.map EncE.cs ++ r).take K.length = K.map (EncE.cs (α:=Sea)):=fun r => List.take_left' (by simp)
  simp only [czz] at hD
  refine zaB fun Q1 h1 => ?_
  simp (maxSteps:=4000000) only [go_sem,zae,zac,zad,zan,zaq,czb,cza,↓reduceIte,zaK,za6,zav,zaw,zau,zax,zaI,zao,zap,za4,zab,onz,g0,gk,s0,sk,hn0,e0,e1,e2,czd,czs,czc]
  all_goals (repeat' first | (with_reducible first | rfl | apply And.intro | assumption) | ((with_reducible show zaj _ _ = true); rfl)) <;> try first | omega | (simp only [InR]; omega)
  rw [h1]; clear h1 Q1; simp only [zaU,zat]
  simp (maxSteps:=4000000) only [go_sem,zae,zac,zad,zan,zaq,czb,cza,↓reduceIte,zaK,za6,zav,zaw,zau,zax,zaI,zao,zap,za4,zab,onz,hA,g0,gk,s0,sk,hn0,e0,e1,e2,czd,czs,czc,decide_true,decide_false]
  refine ⟨⟨by omega,ho⟩,fun q => ?_,fun q => ⟨_,hD,?_⟩⟩
  ·have hq:zds y A = 2:=by unfold zds; rw [if_neg (by simp [c0]),if_pos q]
   simp (maxSteps:=4000000) only [go_sem,zae,zac,zad,zan,zaq,czb,cza,↓reduceIte,zaK,za6,zav,zaw,zau,zax,zaI,zao,zap,za4,zab,onz,hQ0,hn0]
   obtain ⟨k,k1,k2,k3,k4⟩:=hbad _ _ 2 (by simp) hq rfl
   exact ⟨k,k1,k2,k3,by simp [AV.bare,zal,zaN,zaS,zak,zas,zaf,tokz1,lk,zaa,za3],k4⟩
  rintro r m ⟨rfl,rfl⟩ _
  unfold zcy yC
  generalize hr:List.replicate ((zba y).length - K.length) zpg = RR
  clear hD
  simp (maxSteps:=4000000) only [go_sem,zae,zac,zad,zan,zaq,czb,cza,↓reduceIte,zaK,za6,zav,zaw,zau,zax,zaI,zao,zap,za4,zab,onz,htk,g0,gk,s0,sk,hn0,e0,e1,e2,czd,czs,czc,czz,List.set_cons_succ,List.set_cons_zero,decide_true,decide_false]
  have hv5:zb9 (n0 + 5) (.vec (K.map EncE.cs ++ RR) 2 (zba y).length):=fun e he c hc => by
   rcases czv.1 he with h | h
   ·obtain ⟨x,_,rfl⟩:=czx.1 h
    exact zcP _ _ _ (EncE.ok x c hc) (by rw [zfA]; omega)
   ·rw [← hr] at h
    rw [(czL.1 h).2] at hc
    simp only [zpg,czn,czk,or_false] at hc
    rcases hc with rfl | rfl <;> simp [bel]
  have hqa:zds y A = if K = [] then 11 else 0:=by unfold zds; rw [if_neg (by simp [c0]),if_neg (by simp [q]),hK]
  refine ⟨fun e => ?_,fun e => ?_⟩
  ·have hKn:K = []:=List.eq_nil_of_length_eq_zero (by simpa using e)
   rw [if_pos hKn] at hqa
   simp (maxSteps:=4000000) only [go_sem,zae,zac,zad,zan,zaq,czb,cza,↓reduceIte,zaK,za6,zav,zaw,zau,zax,zaI,zao,zap,za4,zab,onz,hQ0,hn0]
   obtain ⟨k,k1,k2,k3,k4⟩:=hbad _ _ 11 (by simp) hqa rfl
   exact ⟨k,k1,k2,k3,by simp [AV.bare,zal,zaN,zaS,zak,zas,zaf,tokz1,lk,zaa,za3],k4⟩
  ·have hKn:K ≠ []:=fun q => by simp [q] at e
   rw [if_neg hKn] at hqa
   simp (maxSteps:=4000000) only [go_sem,zae,zac,zad,zan,zaq,czb,cza,↓reduceIte,zaK,za6,zav,zaw,zau,zax,zaI,zao,zap,za4,zab,onz,hQ0,hn0]
   refine ⟨n0 + 5,by omega,by simp [hn0],?_,by simp [AV.bare,zal,zaN,zaS,zak,zas,zaf,tokz1,lk,zaa,za3],?_⟩
   ·rw [cze (by simp [hn0])]
    unfold zlD
    rw [if_pos hqa,hn0]
    refine ⟨rfl,?_⟩
    unfold zh4 yC
    rw [hK,hr]
   ·rw [cze (by simp [hn0])]
    exact zcg hm (by omega) ⟨zcb y _,zcb y _,by simp [AV.bare,zal,zaN,zaS,zak,zas,zaf,tokz1,lk,zaa,za3,-List.map_map],by simp [AV.bare,zal,zaN,zaS,zak,zas,zaf,tokz1,lk,zaa,za3],hv5,trivial⟩
 ·have hq:zds y A = zbQ y:=by unfold zds; rw [if_pos c0]
  refine ⟨_,zd0 y h4 c0 hok1,?_⟩
  rintro r m ⟨rfl,rfl⟩ _
  simp (maxSteps:=4000000) only [go_sem,zae,zac,zad,zan,zaq,czb,cza,↓reduceIte,zaK,za6,zav,zaw,zau,zax,zaI,zao,zap,za4,zab,onz,g0,hn0]
  rw [h1]; clear h1 Q1
  simp only [zaU,zat]
  simp (maxSteps:=4000000) only [go_sem,zae,zac,zad,zan,zaq,czb,cza,↓reduceIte,zaK,za6,zav,zaw,zau,zax,zaI,zao,zap,za4,zab,onz,c0,hQ0,g0,hn0,decide_true,decide_false]
  obtain ⟨k,k1,k2,k3,k4⟩:=hbad _ _ _ c0 hq rfl
  exact ⟨k,k1,k2,k3,by simp [AV.bare,zal,zaN,zaS,zak,zas,zaf,tokz1,lk,zaa,za3],k4⟩
theorem askedf (o:List Int) (c h:Int) {b0 b1 b2 b3:Nat} (h4:y.t.heights.length ≤ 4096 ∧ y.order.length ≤ 4096) (m0:zaa mem b0 = yC y) (m1:zaa mem b1 = .cells [.sl (o.map EncE.cs) .no]) (m2:zaa mem b2 = .cells [.int .i64 c]) (m3:zaa mem b3 = .cells [.int .i64 h]) (ho:o.length ≤ 4096) (hm:∀ o ∈ mem,zb9 mem.length o) :
  ze3 Tryz.prog 91 [.agg (ydC y),.fn (.func 92) [] [.ptr b0 0,.ptr b1 0,.ptr b2 0,.ptr b3 0]] mem (zlD y (FnFine.free y o c h).ask mem):=by
 obtain ⟨A,hA⟩:∃ A,(FnFine.free y o c h).ask = A:=⟨_,rfl⟩
 rw [hA]
 obtain ⟨n0,hn0⟩:∃ n0,mem.length = n0:=⟨_,rfl⟩
 rw [hn0] at hm
 unfold yC at m0
 have q0:=zbf m0 (by simp)
 have e0:∀ r,zaa (mem ++ r) b0 = _:=fun r => (zaT (by omega)).trans m0
 have q1:=zbf m1 (by simp)
 have e1:∀ r,zaa (mem ++ r) b1 = _:=fun r => (zaT (by omega)).trans m1
 have q2:=zbf m2 (by simp)
 have e2:∀ r,zaa (mem ++ r) b2 = _:=fun r => (zaT (by omega)).trans m2
 have q3:=zbf m3 (by simp)
 have e3:∀ r,zaa (mem ++ r) b3 = _:=fun r => (zaT (by omega)).trans m3
 have g0:∀ r,zaa (mem ++ r) n0 = zaa r 0:=fun r => by rw [← hn0]; exact zaL _ _ 0
 have gk:∀ r k,zaa (mem ++ r) (n0 + k) = zaa r k:=fun r k => by rw [← hn0]; exact zaL _ _ k
 have s0:∀ r o,(mem ++ r).set n0 o = mem ++ r.set 0 o:=fun r o => by rw [← hn0]; exact zbV _ _ 0 _
 have sk:∀ r k o,(mem ++ r).set (n0 + k) o = mem ++ r.set k o:=fun r k o => by rw [← hn0]; exact zbV _ _ k _
 have hl1:∀ o:AObj,(mem ++ [o]).length = n0 + 1:=fun o => by simp [hn0]
 have hok1:∀ o ∈ mem ++ [yC y],zb9 (mem ++ [yC y]).length o:=by
  rw [hl1]
  exact zcg hm (by omega) ⟨zcb y _,trivial⟩
 have hbad:∀ (m:List AObj) (a:List AObj) e,e ≠ 0 → zds y A = e → m = mem ++ a → ∃ k,n0 ≤ k ∧ k ≤ m.length ∧ zlD y A mem (.tup [.nilp,.int .i64 e]) (m.take k) ∧ (∀ o ∈ m.take k,zb9 k o):=fun m a e he hq hm' => by
  subst hm'
  refine ⟨n0,czf _,by simp [hn0],?_,?_⟩
  ·rw [List.take_left' hn0]
   unfold zlD
   rw [hq,if_neg he]
   exact ⟨rfl,rfl⟩
  ·rw [List.take_left' hn0]; exact hm
 refine zb0 (Φ:=P127) Tryz.func91 rfl (by rfl) (by rw [Tryz.ntmps91]; simp) zaC zgv ?_
 rw [Tryz.ntmps91]
 simp only [Tryz.f91,zah,zam,ydC]
 refine zkR fun Q0 hQ0 => ?_
 refine zaB fun Q1 h1 => ?_
 simp (maxSteps:=4000000) only [go_sem,zae,zac,zad,zan,zaq,czb,cza,↓reduceIte,zaK,za6,zav,zaw,zau,zax,zaI,zao,zap,za4,zab,onz,g0,hn0]
 all_goals (repeat' first | (with_reducible first | rfl | apply And.intro | assumption) | ((with_reducible show zaj _ _ = true); rfl)) <;> try first | omega | (simp only [InR]; omega)
 rw [h1]; clear h1 Q1; simp only [zaU,zat]
 refine zaB fun Q1 h1 => ?_
 simp (maxSteps:=4000000) only [go_sem,zae,zac,zad,zan,zaq,czb,cza,↓reduceIte,zaK,za6,zav,zaw,zau,zax,zaI,zao,zap,za4,zab,onz,g0,hn0]
 by_cases c0:zbQ y = 0
 ·have hv:=zjh c0
  have h5:=hv.c5
  have hcl:=zfl hv
  refine ⟨_,zeu y hv hok1,?_⟩
  rintro r m ⟨rfl,rfl⟩ _
  rw [hl1]
  simp (maxSteps:=4000000) only [go_sem,zae,zac,zad,zan,zaq,czb,cza,↓reduceIte,zaK,za6,zav,zaw,zau,zax,zaI,zao,zap,za4,zab,onz,g0,hn0]
  rw [h1]; clear h1 Q1
  simp only [zaU,zat]
  unfold zcy
  simp only [czd,czs,List.nil_append,Nat.add_assoc,Nat.reduceAdd]
  have hD:=zeV (mem:=mem ++ (yC y :: zcy y (n0 + 1) (zba y))) (v:=n0 + 4) (s:=(zba y).length) (b:=n0) y ((zba y).map (zbW y.t)) (askW hv) (by rw [czz]; exact hcl) (by rw [gk]; rfl) (by rw [g0]; rfl)
  have hn5:(mem ++ (yC y :: zcy y (n0 + 1) (zba y))).length = n0 + 5:=by simp [hn0,zcy]
  have hok5:∀ o ∈ mem ++ (yC y :: zcy y (n0 + 1) (zba y)),zb9 (mem ++ (yC y :: zcy y (n0 + 1) (zba y))).length o:=by
   rw [hn5]
   refine zcg hm (by omega) ⟨zcb y _,?_⟩
   simp [AV.bare,zal,zaN,zaS,zak,zas,zaf,tokz1,lk,zaa,za3,zcy,-List.map_map]
   try omega
  have hD:=hD hok5
  rw [sk] at hD
  have hk:(((zba y).map (zbW y.t)).filter fun x => zcs y x []) = zee y:=rfl
  rw [hk] at hD
  obtain ⟨K,hK⟩:∃ K,zee y = K:=⟨_,rfl⟩
  rw [hK] at hD
  have htk:∀ r,(K.map EncE.cs ++ r).take K.length = K.map (EncE.cs (α:=Sea)):=fun r => List.take_left' (by simp)
  simp only [czz] at hD
  refine zaB fun Q1 h1 => ?_
  simp (maxSteps:=4000000) only [go_sem,zae,zac,zad,zan,zaq,czb,cza,↓reduceIte,zaK,za6,zav,zaw,zau,zax,zaI,zao,zap,za4,zab,onz,g0,gk,s0,sk,hn0,e0,e1,e2,e3,czd,czs,czc]
  all_goals (repeat' first | (with_reducible first | rfl | apply And.intro | assumption) | ((with_reducible show zaj _ _ = true); rfl)) <;> try first | omega | (simp only [InR]; omega)
  rw [h1]; clear h1 Q1; simp only [zaU,zat]
  simp (maxSteps:=4000000) only [go_sem,zae,zac,zad,zan,zaq,czb,cza,↓reduceIte,zaK,za6,zav,zaw,zau,zax,zaI,zao,zap,za4,zab,onz,hA,g0,gk,s0,sk,hn0,e0,e1,e2,e3,czd,czs,czc,decide_true,decide_false]
  refine ⟨⟨by omega,ho⟩,fun q => ?_,fun q => ⟨_,hD,?_⟩⟩
  ·have hq:zds y A = 2:=by unfold zds; rw [if_neg (by simp [c0]),if_pos q]
   simp (maxSteps:=4000000) only [go_sem,zae,zac,zad,zan,zaq,czb,cza,↓reduceIte,zaK,za6,zav,zaw,zau,zax,zaI,zao,zap,za4,zab,onz,hQ0,hn0]
   obtain ⟨k,k1,k2,k3,k4⟩:=hbad _ _ 2 (by simp) hq rfl
   exact ⟨k,k1,k2,k3,by simp [AV.bare,zal,zaN,zaS,zak,zas,zaf,tokz1,lk,zaa,za3],k4⟩
  rintro r m ⟨rfl,rfl⟩ _
  unfold zcy yC
  generalize hr:List.replicate ((zba y).length - K.length) zpg = RR
  clear hD
  simp (maxSteps:=4000000) only [go_sem,zae,zac,zad,zan,zaq,czb,cza,↓reduceIte,zaK,za6,zav,zaw,zau,zax,zaI,zao,zap,za4,zab,onz,htk,g0,gk,s0,sk,hn0,e0,e1,e2,e3,czd,czs,czc,czz,List.set_cons_succ,List.set_cons_zero,decide_true,decide_false]
  have hv5:zb9 (n0 + 5) (.vec (K.map EncE.cs ++ RR) 2 (zba y).length):=fun e he c hc => by
   rcases czv.1 he with h | h
   ·obtain ⟨x,_,rfl⟩:=czx.1 h
    exact zcP _ _ _ (EncE.ok x c hc) (by rw [zfA]; omega)
   ·rw [← hr] at h
    rw [(czL.1 h).2] at hc
    simp only [zpg,czn,czk,or_false] at hc
    rcases hc with rfl | rfl <;> simp [bel]
  have hqa:zds y A = if K = [] then 11 else 0:=by unfold zds; rw [if_neg (by simp [c0]),if_neg (by simp [q]),hK]
  refine ⟨fun e => ?_,fun e => ?_⟩
  ·have hKn:K = []:=List.eq_nil_of_length_eq_zero (by simpa using e)
   rw [if_pos hKn] at hqa
   simp (maxSteps:=4000000) only [go_sem,zae,zac,zad,zan,zaq,czb,cza,↓reduceIte,zaK,za6,zav,zaw,zau,zax,zaI,zao,zap,za4,zab,onz,hQ0,hn0]
   obtain ⟨k,k1,k2,k3,k4⟩:=hbad _ _ 11 (by simp) hqa rfl
   exact ⟨k,k1,k2,k3,by simp [AV.bare,zal,zaN,zaS,zak,zas,zaf,tokz1,lk,zaa,za3],k4⟩
  ·have hKn:K ≠ []:=fun q => by simp [q] at e
   rw [if_neg hKn] at hqa
   simp (maxSteps:=4000000) only [go_sem,zae,zac,zad,zan,zaq,czb,cza,↓reduceIte,zaK,za6,zav,zaw,zau,zax,zaI,zao,zap,za4,zab,onz,hQ0,hn0]
   refine ⟨n0 + 5,by omega,by simp [hn0],?_,by simp [AV.bare,zal,zaN,zaS,zak,zas,zaf,tokz1,lk,zaa,za3],?_⟩
   ·rw [cze (by simp [hn0])]
    unfold zlD
    rw [if_pos hqa,hn0]
    refine ⟨rfl,?_⟩
    unfold zh4 yC
    rw [hK,hr]
   ·rw [cze (by simp [hn0])]
    exact zcg hm (by omega) ⟨zcb y _,zcb y _,by simp [AV.bare,zal,zaN,zaS,zak,zas,zaf,tokz1,lk,zaa,za3,-List.map_map],by simp [AV.bare,zal,zaN,zaS,zak,zas,zaf,tokz1,lk,zaa,za3],hv5,trivial⟩
 ·have hq:zds y A = zbQ y:=by unfold zds; rw [if_pos c0]
  refine ⟨_,zd0 y h4 c0 hok1,?_⟩
  rintro r m ⟨rfl,rfl⟩ _
  simp (maxSteps:=4000000) only [go_sem,zae,zac,zad,zan,zaq,czb,cza,↓reduceIte,zaK,za6,zav,zaw,zau,zax,zaI,zao,zap,za4,zab,onz,g0,hn0]
  rw [h1]; clear h1 Q1
  simp only [zaU,zat]
  simp (maxSteps:=4000000) only [go_sem,zae,zac,zad,zan,zaq,czb,cza,↓reduceIte,zaK,za6,zav,zaw,zau,zax,zaI,zao,zap,za4,zab,onz,c0,hQ0,g0,hn0,decide_true,decide_false]
  obtain ⟨k,k1,k2,k3,k4⟩:=hbad _ _ _ c0 hq rfl
  exact ⟨k,k1,k2,k3,by simp [AV.bare,zal,zaN,zaS,zak,zas,zaf,tokz1,lk,zaa,za3],k4⟩
theorem askedl (o:List Int) {b0 b1:Nat} (h4:y.t.heights.length ≤ 4096 ∧ y.order.length ≤ 4096) (m0:zaa mem b0 = yC y) (m1:zaa mem b1 = .cells [.sl (o.map EncE.cs) .no]) (ho:o.length ≤ 4096) (hm:∀ o ∈ mem,zb9 mem.length o) :
  ze3 Tryz.prog 91 [.agg (ydC y),.fn (.func 102) [] [.ptr b0 0,.ptr b1 0]] mem (zlD y (FnFine.lost y o).ask mem):=by
 obtain ⟨A,hA⟩:∃ A,(FnFine.lost y o).ask = A:=⟨_,rfl⟩
 rw [hA]
 obtain ⟨n0,hn0⟩:∃ n0,mem.length = n0:=⟨_,rfl⟩
 rw [hn0] at hm
 unfold yC at m0
 have q0:=zbf m0 (by simp)
 have e0:∀ r,zaa (mem ++ r) b0 = _:=fun r => (zaT (by omega)).trans m0
 have q1:=zbf m1 (by simp)
 have e1:∀ r,zaa (mem ++ r) b1 = _:=fun r => (zaT (by omega)).trans m1
 have g0:∀ r,zaa (mem ++ r) n0 = zaa r 0:=fun r => by rw [← hn0]; exact zaL _ _ 0
 have gk:∀ r k,zaa (mem ++ r) (n0 + k) = zaa r k:=fun r k => by rw [← hn0]; exact zaL _ _ k
 have s0:∀ r o,(mem ++ r).set n0 o = mem ++ r.set 0 o:=fun r o => by rw [← hn0]; exact zbV _ _ 0 _
 have sk:∀ r k o,(mem ++ r).set (n0 + k) o = mem ++ r.set k o:=fun r k o => by rw [← hn0]; exact zbV _ _ k _
 have hl1:∀ o:AObj,(mem ++ [o]).length = n0 + 1:=fun o => by simp [hn0]
 have hok1:∀ o ∈ mem ++ [yC y],zb9 (mem ++ [yC y]).length o:=by
  rw [hl1]
  exact zcg hm (by omega) ⟨zcb y _,trivial⟩
 have hbad:∀ (m:List AObj) (a:List AObj) e,e ≠ 0 → zds y A = e → m = mem ++ a → ∃ k,n0 ≤ k ∧ k ≤ m.length ∧ zlD y A mem (.tup [.nilp,.int .i64 e]) (m.take k) ∧ (∀ o ∈ m.take k,zb9 k o):=fun m a e he hq hm' => by
  subst hm'
  refine ⟨n0,czf _,by simp [hn0],?_,?_⟩
  ·rw [List.take_left' hn0]
   unfold zlD
   rw [hq,if_neg he]
   exact ⟨rfl,rfl⟩
  ·rw [List.take_left' hn0]; exact hm
 refine zb0 (Φ:=P127) Tryz.func91 rfl (by rfl) (by rw [Tryz.ntmps91]; simp) zaC zgv ?_
 rw [Tryz.ntmps91]
 simp only [Tryz.f91,zah,zam,ydC]
 refine zkR fun Q0 hQ0 => ?_
 refine zaB fun Q1 h1 => ?_
 simp (maxSteps:=4000000) only [go_sem,zae,zac,zad,zan,zaq,czb,cza,↓reduceIte,zaK,za6,zav,zaw,zau,zax,zaI,zao,zap,za4,zab,onz,g0,hn0]
 all_goals (repeat' first | (with_reducible first | rfl | apply And.intro | assumption) | ((with_reducible show zaj _ _ = true); rfl)) <;> try first | omega | (simp only [InR]; omega)
 rw [h1]; clear h1 Q1; simp only [zaU,zat]
 refine zaB fun Q1 h1 => ?_
 simp (maxSteps:=4000000) only [go_sem,zae,zac,zad,zan,zaq,czb,cza,↓reduceIte,zaK,za6,zav,zaw,zau,zax,zaI,zao,zap,za4,zab,onz,g0,hn0]
 by_cases c0:zbQ y = 0
 ·have hv:=zjh c0
  have h5:=hv.c5
  have hcl:=zfl hv
  refine ⟨_,zeu y hv hok1,?_⟩
  rintro r m ⟨rfl,rfl⟩ _
  rw [hl1]
  simp (maxSteps:=4000000) only [go_sem,zae,zac,zad,zan,zaq,czb,cza,↓reduceIte,zaK,za6,zav,zaw,zau,zax,zaI,zao,zap,za4,zab,onz,g0,hn0]
  rw [h1]; clear h1 Q1
  simp only [zaU,zat]
  unfold zcy
  simp only [czd,czs,List.nil_append,Nat.add_assoc,Nat.reduceAdd]
  have hD:=zeV (mem:=mem ++ (yC y :: zcy y (n0 + 1) (zba y))) (v:=n0 + 4) (s:=(zba y).length) (b:=n0) y ((zba y).map (zbW y.t)) (askW hv) (by rw [czz]; exact hcl) (by rw [gk]; rfl) (by rw [g0]; rfl)
  have hn5:(mem ++ (yC y :: zcy y (n0 + 1) (zba y))).length = n0 + 5:=by simp [hn0,zcy]
  have hok5:∀ o ∈ mem ++ (yC y :: zcy y (n0 + 1) (zba y)),zb9 (mem ++ (yC y :: zcy y (n0 + 1) (zba y))).length o:=by
   rw [hn5]
   refine zcg hm (by omega) ⟨zcb y _,?_⟩
   simp [AV.bare,zal,zaN,zaS,zak,zas,zaf,tokz1,lk,zaa,za3,zcy,-List.map_map]
   try omega
  have hD:=hD hok5
  rw [sk] at hD
  have hk:(((zba y).map (zbW y.t)).filter fun x => zcs y x []) = zee y:=rfl
  rw [hk] at hD
  obtain ⟨K,hK⟩:∃ K,zee y = K:=⟨_,rfl⟩
  rw [hK] at hD
  have htk:∀ r,(K.map EncE.cs ++ r).take K.length = K.map (EncE.cs (α:=Sea)):=fun r => List.take_left' (by simp)
  simp only [czz] at hD
  refine zaB fun Q1 h1 => ?_
  simp (maxSteps:=4000000) only [go_sem,zae,zac,zad,zan,zaq,czb,cza,↓reduceIte,zaK,za6,zav,zaw,zau,zax,zaI,zao,zap,za4,zab,onz,g0,gk,s0,sk,hn0,e0,e1,czd,czs,czc]
  all_goals (repeat' first | (with_reducible first | rfl | apply And.intro | assumption) | ((with_reducible show zaj _ _ = true); rfl)) <;> try first | omega | (simp only [InR]; omega)
  rw [h1]; clear h1 Q1; simp only [zaU,zat]
  simp (maxSteps:=4000000) only [go_sem,zae,zac,zad,zan,zaq,czb,cza,↓reduceIte,zaK,za6,zav,zaw,zau,zax,zaI,zao,zap,za4,zab,onz,hA,g0,gk,s0,sk,hn0,e0,e1,czd,czs,czc,decide_true,decide_false]
  refine ⟨⟨by omega,ho⟩,fun q => ?_,fun q => ⟨_,hD,?_⟩⟩
  ·have hq:zds y A = 2:=by unfold zds; rw [if_neg (by simp [c0]),if_pos q]
   simp (maxSteps:=4000000) only [go_sem,zae,zac,zad,zan,zaq,czb,cza,↓reduceIte,zaK,za6,zav,zaw,zau,zax,zaI,zao,zap,za4,zab,onz,hQ0,hn0]
   obtain ⟨k,k1,k2,k3,k4⟩:=hbad _ _ 2 (by simp) hq rfl
   exact ⟨k,k1,k2,k3,by simp [AV.bare,zal,zaN,zaS,zak,zas,zaf,tokz1,lk,zaa,za3],k4⟩
  rintro r m ⟨rfl,rfl⟩ _
  unfold zcy yC
  generalize hr:List.replicate ((zba y).length - K.length) zpg = RR
  clear hD
  simp (maxSteps:=4000000) only [go_sem,zae,zac,zad,zan,zaq,czb,cza,↓reduceIte,zaK,za6,zav,zaw,zau,zax,zaI,zao,zap,za4,zab,onz,htk,g0,gk,s0,sk,hn0,e0,e1,czd,czs,czc,czz,List.set_cons_succ,List.set_cons_zero,decide_true,decide_false]
  have hv5:zb9 (n0 + 5) (.vec (K.map EncE.cs ++ RR) 2 (zba y).length):=fun e he c hc => by
   rcases czv.1 he with h | h
   ·obtain ⟨x,_,rfl⟩:=czx.1 h
    exact zcP _ _ _ (EncE.ok x c hc) (by rw [zfA]; omega)
   ·rw [← hr] at h
    rw [(czL.1 h).2] at hc
    simp only [zpg,czn,czk,or_false] at hc
    rcases hc with rfl | rfl <;> simp [bel]
  have hqa:zds y A = if K = [] then 11 else 0:=by unfold zds; rw [if_neg (by simp [c0]),if_neg (by simp [q]),hK]
  refine ⟨fun e => ?_,fun e => ?_⟩
  ·have hKn:K = []:=List.eq_nil_of_length_eq_zero (by simpa using e)
   rw [if_pos hKn] at hqa
   simp (maxSteps:=4000000) only [go_sem,zae,zac,zad,zan,zaq,czb,cza,↓reduceIte,zaK,za6,zav,zaw,zau,zax,zaI,zao,zap,za4,zab,onz,hQ0,hn0]
   obtain ⟨k,k1,k2,k3,k4⟩:=hbad _ _ 11 (by simp) hqa rfl
   exact ⟨k,k1,k2,k3,by simp [AV.bare,zal,zaN,zaS,zak,zas,zaf,tokz1,lk,zaa,za3],k4⟩
  ·have hKn:K ≠ []:=fun q => by simp [q] at e
   rw [if_neg hKn] at hqa
   simp (maxSteps:=4000000) only [go_sem,zae,zac,zad,zan,zaq,czb,cza,↓reduceIte,zaK,za6,zav,zaw,zau,zax,zaI,zao,zap,za4,zab,onz,hQ0,hn0]
   refine ⟨n0 + 5,by omega,by simp [hn0],?_,by simp [AV.bare,zal,zaN,zaS,zak,zas,zaf,tokz1,lk,zaa,za3],?_⟩
   ·rw [cze (by simp [hn0])]
    unfold zlD
    rw [if_pos hqa,hn0]
    refine ⟨rfl,?_⟩
    unfold zh4 yC
    rw [hK,hr]
   ·rw [cze (by simp [hn0])]
    exact zcg hm (by omega) ⟨zcb y _,zcb y _,by simp [AV.bare,zal,zaN,zaS,zak,zas,zaf,tokz1,lk,zaa,za3,-List.map_map],by simp [AV.bare,zal,zaN,zaS,zak,zas,zaf,tokz1,lk,zaa,za3],hv5,trivial⟩
 ·have hq:zds y A = zbQ y:=by unfold zds; rw [if_pos c0]
  refine ⟨_,zd0 y h4 c0 hok1,?_⟩
  rintro r m ⟨rfl,rfl⟩ _
  simp (maxSteps:=4000000) only [go_sem,zae,zac,zad,zan,zaq,czb,cza,↓reduceIte,zaK,za6,zav,zaw,zau,zax,zaI,zao,zap,za4,zab,onz,g0,hn0]
  rw [h1]; clear h1 Q1
  simp only [zaU,zat]
  simp (maxSteps:=4000000) only [go_sem,zae,zac,zad,zan,zaq,czb,cza,↓reduceIte,zaK,za6,zav,zaw,zau,zax,zaI,zao,zap,za4,zab,onz,c0,hQ0,g0,hn0,decide_true,decide_false]
  obtain ⟨k,k1,k2,k3,k4⟩:=hbad _ _ _ c0 hq rfl
  exact ⟨k,k1,k2,k3,by simp [AV.bare,zal,zaN,zaS,zak,zas,zaf,tokz1,lk,zaa,za3],k4⟩
theorem askedb  (h4:y.t.heights.length ≤ 4096 ∧ y.order.length ≤ 4096)  (hm:∀ o ∈ mem,zb9 mem.length o) :
  ze3 Tryz.prog 91 [.agg (ydC y),.fn (.func 106) [] []] mem (zlD y (FnFine.best).ask mem):=by
 obtain ⟨A,hA⟩:∃ A,(FnFine.best).ask = A:=⟨_,rfl⟩
 rw [hA]
 obtain ⟨n0,hn0⟩:∃ n0,mem.length = n0:=⟨_,rfl⟩
 rw [hn0] at hm
 have g0:∀ r,zaa (mem ++ r) n0 = zaa r 0:=fun r => by rw [← hn0]; exact zaL _ _ 0
 have gk:∀ r k,zaa (mem ++ r) (n0 + k) = zaa r k:=fun r k => by rw [← hn0]; exact zaL _ _ k
 have s0:∀ r o,(mem ++ r).set n0 o = mem ++ r.set 0 o:=fun r o => by rw [← hn0]; exact zbV _ _ 0 _
 have sk:∀ r k o,(mem ++ r).set (n0 + k) o = mem ++ r.set k o:=fun r k o => by rw [← hn0]; exact zbV _ _ k _
 have hl1:∀ o:AObj,(mem ++ [o]).length = n0 + 1:=fun o => by simp [hn0]
 have hok1:∀ o ∈ mem ++ [yC y],zb9 (mem ++ [yC y]).length o:=by
  rw [hl1]
  exact zcg hm (by omega) ⟨zcb y _,trivial⟩
 have hbad:∀ (m:List AObj) (a:List AObj) e,e ≠ 0 → zds y A = e → m = mem ++ a → ∃ k,n0 ≤ k ∧ k ≤ m.length ∧ zlD y A mem (.tup [.nilp,.int .i64 e]) (m.take k) ∧ (∀ o ∈ m.take k,zb9 k o):=fun m a e he hq hm' => by
  subst hm'
  refine ⟨n0,czf _,by simp [hn0],?_,?_⟩
  ·rw [List.take_left' hn0]
   unfold zlD
   rw [hq,if_neg he]
   exact ⟨rfl,rfl⟩
  ·rw [List.take_left' hn0]; exact hm
 refine zb0 (Φ:=P127) Tryz.func91 rfl (by rfl) (by rw [Tryz.ntmps91]; simp) zaC zgv ?_
 rw [Tryz.ntmps91]
 simp only [Tryz.f91,zah,zam,ydC]
 refine zkR fun Q0 hQ0 => ?_
 refine zaB fun Q1 h1 => ?_
 simp (maxSteps:=4000000) only [go_sem,zae,zac,zad,zan,zaq,czb,cza,↓reduceIte,zaK,za6,zav,zaw,zau,zax,zaI,zao,zap,za4,zab,onz,g0,hn0]
 all_goals (repeat' first | (with_reducible first | rfl | apply And.intro | assumption) | ((with_reducible show zaj _ _ = true); rfl)) <;> try first | omega | (simp only [InR]; omega)
 rw [h1]; clear h1 Q1; simp only [zaU,zat]
 refine zaB fun Q1 h1 => ?_
 simp (maxSteps:=4000000) only [go_sem,zae,zac,zad,zan,zaq,czb,cza,↓reduceIte,zaK,za6,zav,zaw,zau,zax,zaI,zao,zap,za4,zab,onz,g0,hn0]
 by_cases c0:zbQ y = 0
 ·have hv:=zjh c0
  have h5:=hv.c5
  have hcl:=zfl hv
  refine ⟨_,zeu y hv hok1,?_⟩
  rintro r m ⟨rfl,rfl⟩ _
  rw [hl1]
  simp (maxSteps:=4000000) only [go_sem,zae,zac,zad,zan,zaq,czb,cza,↓reduceIte,zaK,za6,zav,zaw,zau,zax,zaI,zao,zap,za4,zab,onz,g0,hn0]
  rw [h1]; clear h1 Q1
  simp only [zaU,zat]
  unfold zcy
  simp only [czd,czs,List.nil_append,Nat.add_assoc,Nat.reduceAdd]
  have hD:=zeV (mem:=mem ++ (yC y :: zcy y (n0 + 1) (zba y))) (v:=n0 + 4) (s:=(zba y).length) (b:=n0) y ((zba y).map (zbW y.t)) (askW hv) (by rw [czz]; exact hcl) (by rw [gk]; rfl) (by rw [g0]; rfl)
  have hn5:(mem ++ (yC y :: zcy y (n0 + 1) (zba y))).length = n0 + 5:=by simp [hn0,zcy]
  have hok5:∀ o ∈ mem ++ (yC y :: zcy y (n0 + 1) (zba y)),zb9 (mem ++ (yC y :: zcy y (n0 + 1) (zba y))).length o:=by
   rw [hn5]
   refine zcg hm (by omega) ⟨zcb y _,?_⟩
   simp [AV.bare,zal,zaN,zaS,zak,zas,zaf,tokz1,lk,zaa,za3,zcy,-List.map_map]
   try omega
  have hD:=hD hok5
  rw [sk] at hD
  have hk:(((zba y).map (zbW y.t)).filter fun x => zcs y x []) = zee y:=rfl
  rw [hk] at hD
  obtain ⟨K,hK⟩:∃ K,zee y = K:=⟨_,rfl⟩
  rw [hK] at hD
  have htk:∀ r,(K.map EncE.cs ++ r).take K.length = K.map (EncE.cs (α:=Sea)):=fun r => List.take_left' (by simp)
  simp only [czz] at hD
  refine zaB fun Q1 h1 => ?_
  simp (maxSteps:=4000000) only [go_sem,zae,zac,zad,zan,zaq,czb,cza,↓reduceIte,zaK,za6,zav,zaw,zau,zax,zaI,zao,zap,za4,zab,onz,g0,gk,s0,sk,hn0,czd,czs,czc]
  all_goals (repeat' first | (with_reducible first | rfl | apply And.intro | assumption) | ((with_reducible show zaj _ _ = true); rfl)) <;> try first | omega | (simp only [InR]; omega)
  rw [h1]; clear h1 Q1; simp only [zaU,zat]
  simp (maxSteps:=4000000) only [go_sem,zae,zac,zad,zan,zaq,czb,cza,↓reduceIte,zaK,za6,zav,zaw,zau,zax,zaI,zao,zap,za4,zab,onz,hA,g0,gk,s0,sk,hn0,czd,czs,czc,decide_true,decide_false]
  have q:A = true:=hA.symm
  refine ⟨_,hD,?_⟩
  rintro r m ⟨rfl,rfl⟩ _
  unfold zcy yC
  generalize hr:List.replicate ((zba y).length - K.length) zpg = RR
  clear hD
  simp (maxSteps:=4000000) only [go_sem,zae,zac,zad,zan,zaq,czb,cza,↓reduceIte,zaK,za6,zav,zaw,zau,zax,zaI,zao,zap,za4,zab,onz,htk,g0,gk,s0,sk,hn0,czd,czs,czc,czz,List.set_cons_succ,List.set_cons_zero,decide_true,decide_false]
  have hv5:zb9 (n0 + 5) (.vec (K.map EncE.cs ++ RR) 2 (zba y).length):=fun e he c hc => by
   rcases czv.1 he with h | h
   ·obtain ⟨x,_,rfl⟩:=czx.1 h
    exact zcP _ _ _ (EncE.ok x c hc) (by rw [zfA]; omega)
   ·rw [← hr] at h
    rw [(czL.1 h).2] at hc
    simp only [zpg,czn,czk,or_false] at hc
    rcases hc with rfl | rfl <;> simp [bel]
  have hqa:zds y A = if K = [] then 11 else 0:=by unfold zds; rw [if_neg (by simp [c0]),if_neg (by simp [q]),hK]
  refine ⟨fun e => ?_,fun e => ?_⟩
  ·have hKn:K = []:=List.eq_nil_of_length_eq_zero (by simpa using e)
   rw [if_pos hKn] at hqa
   simp (maxSteps:=4000000) only [go_sem,zae,zac,zad,zan,zaq,czb,cza,↓reduceIte,zaK,za6,zav,zaw,zau,zax,zaI,zao,zap,za4,zab,onz,hQ0,hn0]
   obtain ⟨k,k1,k2,k3,k4⟩:=hbad _ _ 11 (by simp) hqa rfl
   exact ⟨k,k1,k2,k3,by simp [AV.bare,zal,zaN,zaS,zak,zas,zaf,tokz1,lk,zaa,za3],k4⟩
  ·have hKn:K ≠ []:=fun q => by simp [q] at e
   rw [if_neg hKn] at hqa
   simp (maxSteps:=4000000) only [go_sem,zae,zac,zad,zan,zaq,czb,cza,↓reduceIte,zaK,za6,zav,zaw,zau,zax,zaI,zao,zap,za4,zab,onz,hQ0,hn0]
   refine ⟨n0 + 5,by omega,by simp [hn0],?_,by simp [AV.bare,zal,zaN,zaS,zak,zas,zaf,tokz1,lk,zaa,za3],?_⟩
   ·rw [cze (by simp [hn0])]
    unfold zlD
    rw [if_pos hqa,hn0]
    refine ⟨rfl,?_⟩
    unfold zh4 yC
    rw [hK,hr]
   ·rw [cze (by simp [hn0])]
    exact zcg hm (by omega) ⟨zcb y _,zcb y _,by simp [AV.bare,zal,zaN,zaS,zak,zas,zaf,tokz1,lk,zaa,za3,-List.map_map],by simp [AV.bare,zal,zaN,zaS,zak,zas,zaf,tokz1,lk,zaa,za3],hv5,trivial⟩
 ·have hq:zds y A = zbQ y:=by unfold zds; rw [if_pos c0]
  refine ⟨_,zd0 y h4 c0 hok1,?_⟩
  rintro r m ⟨rfl,rfl⟩ _
  simp (maxSteps:=4000000) only [go_sem,zae,zac,zad,zan,zaq,czb,cza,↓reduceIte,zaK,za6,zav,zaw,zau,zax,zaI,zao,zap,za4,zab,onz,g0,hn0]
  rw [h1]; clear h1 Q1
  simp only [zaU,zat]
  simp (maxSteps:=4000000) only [go_sem,zae,zac,zad,zan,zaq,czb,cza,↓reduceIte,zaK,za6,zav,zaw,zau,zax,zaI,zao,zap,za4,zab,onz,c0,hQ0,g0,hn0,decide_true,decide_false]
  obtain ⟨k,k1,k2,k3,k4⟩:=hbad _ _ _ c0 hq rfl
  exact ⟨k,k1,k2,k3,by simp [AV.bare,zal,zaN,zaS,zak,zas,zaf,tokz1,lk,zaa,za3],k4⟩
end
theorem zmR {y:Yd} (hv:VY y) {hs o:List Int} (hl:hs.length = hrs y) {c:Int} (h0:0 ≤ c) (h1:c < y.chairs.length):zfQ y (zbW y.t hs) ⟨c,zb8 y o c⟩ = zek y o hs c:=by
 unfold zfQ zek
 refine zmP fun k hk => ?_
 have hh:=hv.hrs
 have hr:=(hv.at h0 h1).2.1
 unfold stayW zph
 dsimp only
 rw [zuB hv.h0 (by omega)]
 congr 1
 unfold zbW lvY
 dsimp only
 rw [zin (by omega)]
 exact zpM (by omega) (by omega)
theorem play_at {y:Yd} (hv:VY y) {hs o:List Int} (hl:hs.length = hrs y) {c:Int} (h0:0 ≤ c) (h1:c < y.chairs.length):at_ (zhB y (zbW y.t hs) o) c.toNat = zek y o hs c:=by
 unfold zhB
 rw [zgM _ (by omega),show ((c.toNat:Nat):Int) = c by omega]
 exact zmR hv hl h0 h1
theorem rightP_of {y:Yd} (hv:VY y) {hs:List Int} (hl:hs.length = hrs y) (out:List Int) {k:Nat} (hk:k < y.hires.length):zht y (zbW y.t hs) out k = (out.contains (k:Int) || zd5 y hs k):=by
 have h:=hv.hi _ (zbs hk)
 have hh:=hv.hrs
 unfold zht zd5
 rw [play_at hv hl h.1.1 h.1.2,zh0 _ _ _ (by omega),show (((at_ y.hires k).hi.toNat:Nat):Int) = (at_ y.hires k).hi by omega]
theorem zm8 {y:Yd} (hv:VY y) {hs:List Int} (hl:hs.length = hrs y) (out:List Int):zcs y (zbW y.t hs) out = (List.range y.hires.length).all fun k => out.contains (k:Int) || zd5 y hs k:=by
 unfold zcs
 apply zdA
 intro k hk
 exact rightP_of hv hl out (by simpa using hk)
theorem ztH {y:Yd} (hv:VY y) {hs:List Int} (hl:hs.length = hrs y):zcs y (zbW y.t hs) [] = zfs y hs:=by
 rw [zm8 hv hl]
 unfold zfs
 apply zdA
 intro k _
 simp
theorem zil {y:Yd} (hv:VY y) {p:List Int} (h:p ∈ zba y):p.length = hrs y:=zhi hv (zhZ hv h)
theorem zqe {y:Yd} (hv:VY y):zee y = (ziQ y).map (zbW y.t):=by
 unfold zee ziQ
 rw [List.filter_map]
 congr 1
 apply List.filter_congr
 intro p hp
 exact ztH hv (zil hv hp)
theorem kept_nil {y:Yd} (hv:VY y):zee y = [] ↔ zeX y = []:=by
 rw [zqe hv,List.map_eq_nil_iff,zrE hv]
def zgP (y:Yd) (a:Bool):Int:=if zbQ y ≠ 0 then zbQ y else if a = false then 2 else if zeX y = [] then 11 else 0
theorem zkn (y:Yd) (a:Bool):zds y a = zgP y a:=by
 unfold zds zgP
 by_cases c:zbQ y = 0
 ·have hv:=zjh c
  simp only [kept_nil hv]
 ·simp [c]
theorem zjf {y:Yd} {a:Bool} (h:zgP y a = 0):VY y ∧ a = true ∧ zeX y ≠ [] ∧ zds y a = 0 ∧ zee y = (ziQ y).map (zbW y.t):=by
 have h':=h
 unfold zgP at h
 by_cases c:zbQ y = 0
 ·have hv:=zjh c
  simp only [c,ne_eq,not_true_eq_false,if_false] at h
  cases a
  ·simp at h
  ·simp only [Bool.true_eq_false,if_false] at h
   by_cases d:zeX y = []
   ·simp [d] at h
   ·exact ⟨hv,rfl,d,by rw [zkn,h'],zqe hv⟩
 ·rw [if_pos c] at h
  exact absurd h c
theorem work_hrs {y:Yd} (hv:VY y) {p:List Int} (h:p ∈ ziQ y):p.length = hrs y:=by
 unfold ziQ at h
 exact zil hv (List.mem_filter.1 h).1
theorem work_len {y:Yd} (hv:VY y):(ziQ y).length ≤ 2000:=by
 have:=zuu (y:=y) hv.fok.vok
 have:=List.length_filter_le (zfs y) (zba y)
 unfold ziQ
 omega
def hasR (s:Sy) (h:Int):Int:=if s.free.contains h = true then 1 else 0
inductive Qn8 where
 | free
 | has (h:Int)
instance:Enc Qn8 where
 enc
  | .free => .agg [.fn (.func 99) [] []]
  | .has h => .agg [.fn (.func 95) [] [.ref [.int .i64 h] 0]]
 dec
  | .agg [.fn (.func g) [] []] => if g = 99 then some .free else none
  | .agg [.fn (.func g) [] [.ref [.int .i64 h] 0]] => if g = 95 then some (.has h) else none
  | _ => none
 law v x h:=by
  split at h
  ·split at h
   ·rename_i e; cases h; rw [e]
   ·cases h
  ·split at h
   ·rename_i e; cases h; rw [e]
   ·cases h
  ·cases h
 dep:=4
 ok x:=by cases x <;> simp [zbp]
theorem enc_qn8_f:Enc.enc Qn8.free = .agg [.fn (.func 99) [] []]:=rfl
theorem enc_qn8_h (h:Int):Enc.enc (Qn8.has h) = .agg [.fn (.func 95) [] [.ref [.int .i64 h] 0]]:=rfl
theorem zbN:(Enc.dec (.agg [.fn (.func 99) [] []]):Option Qn8) = some .free:=rfl
theorem zbM (h:Int):(Enc.dec (.agg [.fn (.func 95) [] [.ref [.int .i64 h] 0]]):Option Qn8) = some (.has h):=rfl
theorem zlJ (s:Sy) (h:s.free.length ≤ 4096):zaQ Tryz.prog 99 [Enc.enc s] (· = Enc.enc ((s.free.length:Nat):Int)):=by
 simp only [zb5]
 refine cpz zgv Tryz.func99 zaC ?_
 rw [Tryz.ntmps99]
 simp only [Tryz.f99,zah,zam]
 simp (maxSteps:=4000000) only [go_sem,AV.one,zae,zac,zad,zan,zaq,zaa,czb,cza,↓reduceIte,zaP,zbN,zbM,zbe,zab,onz]
theorem has8_call (s:Sy) (h:RefC Int) (hl:s.free.length ≤ 4096):zaQ Tryz.prog 95 [Enc.enc s,Enc.enc h] (· = Enc.enc (hasR s h.x)):=by
 obtain ⟨h⟩:=h
 unfold hasR
 simp only [zem]
 cases c:s.free.contains h
 ·simp only [zb5]
  refine cpz zgv Tryz.func95 zaC ?_
  rw [Tryz.ntmps95]
  simp only [Tryz.f95,zah,zam]
  simp (maxSteps:=4000000) only [go_sem,AV.one,zae,zac,zad,zan,zaq,zaa,czb,cza,↓reduceIte,zaP,zbN,zbM,zbe,zab,onz,c]
  all_goals exact auz
 ·simp only [zb5]
  refine cpz zgv Tryz.func95 zaC ?_
  rw [Tryz.ntmps95]
  simp only [Tryz.f95,zah,zam]
  simp (maxSteps:=4000000) only [go_sem,AV.one,zae,zac,zad,zan,zaq,zaa,czb,cza,↓reduceIte,zaP,zbN,zbM,zbe,zab,onz,c]
  all_goals exact auz
def P129 (g:FuncId):=(zaz 99 (zcM (fun s:Sy => s.free.length ≤ 4096) (fun s => ((s.free.length:Nat):Int))) (zaz 95 (zbE (fun (s:Sy) (_:RefC Int) => s.free.length ≤ 4096) (fun s h => hasR s h.x)) (P127)):zaJ) g
theorem zrq:zaA Tryz.prog P129:=zai (zbi zlJ) (zai (zaM has8_call) (zgv))
theorem zoO (d:Option Nat):zaG P129 d = none:=(zag (by decide) d).trans ((zag (by decide) d).trans (zoP d))
attribute [go_sem] P129 zoO
def Qn8.ask (q:Qn8) (s:Sy):Int :=
 match q with
 | .free => (s.free.length:Nat)
 | .has h => hasR s h
def bW (q:Qn8) (y:Yd) (b c:Int) (r:Rg) (s:Sea):Rg:=zdt r (q.ask (zfQ y s ⟨c,b⟩))
def zfD (q:Qn8) (w:W8) (o:List Int) (c:Int):Rg:=w.ts.foldl (bW q w.y (zb8 w.y o c) c) ⟨q.ask (zfQ w.y (at_ w.ts 0) ⟨c,zb8 w.y o c⟩),q.ask (zfQ w.y (at_ w.ts 0) ⟨c,zb8 w.y o c⟩)⟩
structure zvn (w:W8):Prop where
 vy:VY w.y
 ys:∀ s ∈ w.ts,YS w.y s
 l1:w.ts.length ≤ 4096
theorem zn6 (q:Qn8) (w:W8) (o:List Int) (c:Int) (h:(zvn w ∧ 0 < w.ts.length) ∧ o.length ≤ 4096 ∧ 0 ≤ c ∧ c < w.y.chairs.length):zaQ Tryz.prog 97 [Enc.enc q,Enc.enc w,Enc.enc o,Enc.enc c] (· = Enc.enc (zfD q w o c)):=by
 obtain ⟨⟨hw,h1⟩,ho,hc0,hc1⟩:=h
 obtain ⟨y,ts⟩:=w
 obtain ⟨hv,hys,hl⟩:=hw
 dsimp only at hv hys hl h1 hc1
 have hb1:=hv.l0
 have hb2:=hv.h0
 have hb3:=hv.h5
 have hh:=hv.hrs
 have h0:=zar (f:=EncE.cs) h1
 have h1':(0:Int) < ts.length:=by omega
 obtain ⟨b,hb⟩:∃ b,zb8 y o c = b:=⟨_,rfl⟩
 have hp0:=(hys _ (zbs h1)).pre (b:=b) hc0 hc1
 have hfl:∀ s,(zfQ y s ⟨c,b⟩).free.length ≤ 4096:=fun s => by have:=zkV y s ⟨c,b⟩; omega
 have hf0:=hfl (at_ ts 0)
 unfold zfD
 simp only [zbe,w8C,hb]
 cases q with
 | free =>
  simp only [enc_qn8_f]
  simp only [zb5]
  refine cpz zrq Tryz.func97 zaC ?_
  rw [Tryz.ntmps97]
  simp only [Tryz.f97,zah,zam]
  simp (maxSteps:=4000000) only [go_sem,zae,zac,zad,zan,zaq,zaa,czb,cza,↓reduceIte,zaP,zbN,zbM,zbe,zab,onz,h0,h1',hb]
  all_goals (repeat' first | (with_reducible first | rfl | apply And.intro | assumption) | ((with_reducible show zaj _ _ = true); rfl)) <;> try first | omega | (simp only [InR]; omega)
  refine zbG (ts.length) [] [1,4,8,9,11,44,45] (fun i => [(46,.int .i64 i)]) (fun i m => m.set 3 (.cells (EncE.cs ((ts.take i).foldl (bW Qn8.free y b c) ⟨Qn8.ask Qn8.free (zfQ y (at_ ts 0) ⟨c,b⟩),Qn8.ask Qn8.free (zfQ y (at_ ts 0) ⟨c,b⟩)⟩)))) (fun _ => True) ?_ ?_ ?_ ?_
  ·trivial
  ·simp [AV.bare,zal,zaN,zaS,zak,zas,zaf,tokz1,lk,zaa,za3,Qn8.ask]
  ·intro i hi _
   have hpi:=(hys _ (zbs hi)).pre (b:=b) hc0 hc1
   have hfi:=hfl (at_ ts i)
   simp (maxSteps:=4000000) only [go_sem,zae,zac,zad,zan,zaq,zaa,czb,cza,↓reduceIte,zaP,zbN,zbM,zbe,zab,onz,zar hi,czH.2 hi,hb]
   all_goals (repeat' first | (with_reducible first | rfl | apply And.intro | assumption) | ((with_reducible show zaj _ _ = true); rfl)) <;> try first | omega | (simp only [InR]; omega)
   refine nxt hi trivial ?_
   simp [AV.bare,zal,zaN,zaS,zak,zas,zaf,tokz1,lk,zaa,za3,zj2 hi,Qn8.ask,bW]
  ·intro _
   simp (maxSteps:=4000000) only [go_sem,zae,zac,zad,zan,zaq,zaa,czb,cza,↓reduceIte,zaP,zbN,zbM,zbe,zab,onz,czm]
 | has k =>
  simp only [enc_qn8_h]
  simp only [zb5]
  refine cpz zrq Tryz.func97 zaC ?_
  rw [Tryz.ntmps97]
  simp only [Tryz.f97,zah,zam]
  simp (maxSteps:=4000000) only [go_sem,zae,zac,zad,zan,zaq,zaa,czb,cza,↓reduceIte,zaP,zbN,zbM,zbe,zab,onz,h0,h1',hb]
  all_goals (repeat' first | (with_reducible first | rfl | apply And.intro | assumption) | ((with_reducible show zaj _ _ = true); rfl)) <;> try first | omega | (simp only [InR]; omega)
  refine zbG (ts.length) [] [1,4,8,9,11,44,45] (fun i => [(46,.int .i64 i)]) (fun i m => m.set 3 (.cells (EncE.cs ((ts.take i).foldl (bW (Qn8.has k) y b c) ⟨Qn8.ask (Qn8.has k) (zfQ y (at_ ts 0) ⟨c,b⟩),Qn8.ask (Qn8.has k) (zfQ y (at_ ts 0) ⟨c,b⟩)⟩)))) (fun _ => True) ?_ ?_ ?_ ?_
  ·trivial
  ·simp [AV.bare,zal,zaN,zaS,zak,zas,zaf,tokz1,lk,zaa,za3,Qn8.ask]
  ·intro i hi _
   have hpi:=(hys _ (zbs hi)).pre (b:=b) hc0 hc1
   have hfi:=hfl (at_ ts i)
   simp (maxSteps:=4000000) only [go_sem,zae,zac,zad,zan,zaq,zaa,czb,cza,↓reduceIte,zaP,zbN,zbM,zbe,zab,onz,zar hi,czH.2 hi,hb]
   all_goals (repeat' first | (with_reducible first | rfl | apply And.intro | assumption) | ((with_reducible show zaj _ _ = true); rfl)) <;> try first | omega | (simp only [InR]; omega)
   refine nxt hi trivial ?_
   simp [AV.bare,zal,zaN,zaS,zak,zas,zaf,tokz1,lk,zaa,za3,zj2 hi,Qn8.ask,bW]
  ·intro _
   simp (maxSteps:=4000000) only [go_sem,zae,zac,zad,zan,zaq,zaa,czb,cza,↓reduceIte,zaP,zbN,zbM,zbe,zab,onz,czm]
def P130 (g:FuncId):=(zaz 97 (ziR (fun (q:Qn8) (w:W8) (o:List Int) (c:Int) => (zvn w ∧ 0 < w.ts.length) ∧ o.length ≤ 4096 ∧ 0 ≤ c ∧ c < w.y.chairs.length) zfD) (P129):zaJ) g
theorem zrp:zaA Tryz.prog P130:=zai (zeh zn6) (zrq)
theorem zoN (d:Option Nat):zaG P130 d = none:=(zag (by decide) d).trans (zoO d)
attribute [go_sem] P130 zoN
end Go.Proofs
