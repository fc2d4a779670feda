/- The texts H11, H12, H13, H14, joined. -/
import Derived.Test.YtilbconikmpadaaGreatG14
set_option linter.all false
namespace Go.Proofs
open Go.Fs
set_option maxHeartbeats 4000000
set_option maxRecDepth 8000
inductive FnFine where
 | hours (y:Yd) (o:List Int) (c:Int)
 | free (y:Yd) (o:List Int) (c h:Int)
 | lost (y:Yd) (o:List Int)
 | best
def FnFine.ask:FnFine → Bool
 | .hours y o c => zaG y.chairs.length o && inB c 0 ((y.chairs.length:Int) - 1)
 | .free y o c h => zaG y.chairs.length o && inB c 0 ((y.chairs.length:Int) - 1) && inB h 0 y.t.last
 | .lost y o => zaG y.chairs.length o
 | .best => true
def FnFine.ok (z:Yd):FnFine → Prop
 | .hours y o c => y = z ∧ o.length ≤ 4096
 | .free y o c h => y = z ∧ o.length ≤ 4096
 | .lost y o => y = z ∧ o.length ≤ 4096
 | .best => True
def FnFine.av:FnFine → AV
 | .hours y o c => .fn (.func 98) [] [.ref (ydC y) 0,.ref [.sl (o.map EncE.cs) .no] 0,.ref [.int .i64 c] 0]
 | .free y o c h => .fn (.func 92) [] [.ref (ydC y) 0,.ref [.sl (o.map EncE.cs) .no] 0,.ref [.int .i64 c] 0,.ref [.int .i64 h] 0]
 | .lost y o => .fn (.func 102) [] [.ref (ydC y) 0,.ref [.sl (o.map EncE.cs) .no] 0]
 | .best => .fn (.func 106) [] []
def ziT:AV → Option FnFine
 | .fn (.func g) [] [.ref a 0,.ref [.sl o .no] 0,.ref [.int .i64 c] 0] =>
  if g = 98 then match zju a,(zdH o:Option (List Int)) with
   | some y,some o => some (.hours y o c)
   | _,_ => none
  else none
 | .fn (.func g) [] [.ref a 0,.ref [.sl o .no] 0,.ref [.int .i64 c] 0,.ref [.int .i64 h] 0] =>
  if g = 92 then match zju a,(zdH o:Option (List Int)) with
   | some y,some o => some (.free y o c h)
   | _,_ => none
  else none
 | .fn (.func g) [] [.ref a 0,.ref [.sl o .no] 0] =>
  if g = 102 then match zju a,(zdH o:Option (List Int)) with
   | some y,some o => some (.lost y o)
   | _,_ => none
  else none
 | .fn (.func g) [] [] => if g = 106 then some .best else none
 | _ => none
theorem zrT {v:AV} {f:FnFine} (h:ziT v = some f):v = f.av:=by
 unfold ziT at h
 split at h
 ·split at h
  ·rename_i e
   split at h
   ·rename_i h1 h2
    cases h
    rw [e,zfy h1,zbt _ _ h2]; rfl
   ·cases h
  ·cases h
 ·split at h
  ·rename_i e
   split at h
   ·rename_i h1 h2
    cases h
    rw [e,zfy h1,zbt _ _ h2]; rfl
   ·cases h
  ·cases h
 ·split at h
  ·rename_i e
   split at h
   ·rename_i h1 h2
    cases h
    rw [e,zfy h1,zbt _ _ h2]; rfl
   ·cases h
  ·cases h
 ·split at h
  ·rename_i e; cases h; rw [e]; rfl
  ·cases h
 ·cases h
theorem zfI:∀ (n m:Nat) (v:AV),zbq n v → n ≤ m → zbq m v:=by
 intro n
 induction n with
 | zero => intro m v h; simp [zbq] at h
 | succ n ih =>
  intro m v h hm
  obtain ⟨m,rfl⟩:∃ k,m = k + 1:=⟨m - 1,by omega⟩
  cases v <;> simp only [zbq] at h ⊢
  ·exact fun c hc => ih m c (h c hc) (by omega)
  ·exact fun c hc => ih m c (h c hc) (by omega)
  ·exact ⟨h.1,fun e he c hc => ih m c (h.2 e he c hc) (by omega)⟩
  ·exact fun c hc => ih m c (h c hc) (by omega)
  ·exact ⟨fun c hc => ih m c (h.1 c hc) (by omega),fun c hc => ih m c (h.2 c hc) (by omega)⟩
  ·exact fun c hc => ih m c (h c hc) (by omega)
theorem fine_pure (f:FnFine):zbq 5 f.av:=by
 have hy:∀ y:Yd,zbq 4 (.ref (ydC y) 0):=fun y c hc => zfI 2 3 c (zfD y c hc) (by omega)
 have ho:∀ o:List Int,zbq 4 (.ref [.sl (o.map EncE.cs) .no] 0):=fun o c hc => by
  simp only [czn,czk,or_false] at hc
  subst hc
  refine ⟨rfl,fun e he c hc => ?_⟩
  obtain ⟨x,_,rfl⟩:=czx.1 he
  exact zfI 1 2 c (EncE.ok x c hc) (by omega)
 have hi:∀ n:Int,zbq 4 (.ref [.int .i64 n] 0):=fun n c hc => by
  simp only [czn,czk,or_false] at hc
  subst hc
  trivial
 cases f with
 | hours y o c =>
  refine ⟨fun _ h => (by cases h),fun a ha => ?_⟩
  simp only [czn,czk,or_false] at ha
  rcases ha with rfl | rfl | rfl
  ·exact hy y
  ·exact ho o
  ·exact hi c
 | free y o c h =>
  refine ⟨fun _ h => (by cases h),fun a ha => ?_⟩
  simp only [czn,czk,or_false] at ha
  rcases ha with rfl | rfl | rfl | rfl
  ·exact hy y
  ·exact ho o
  ·exact hi c
  ·exact hi h
 | lost y o =>
  refine ⟨fun _ h => (by cases h),fun a ha => ?_⟩
  simp only [czn,czk,or_false] at ha
  rcases ha with rfl | rfl
  ·exact hy y
  ·exact ho o
 | best => exact ⟨fun _ h => (by cases h),fun _ h => (by cases h)⟩
instance:Enc FnFine where
 enc f:=f.av
 dec:=ziT
 law v x h:=zrT h
 dep:=5
 ok:=fine_pure
theorem zaz (y:Yd) (o:List Int) (c:Int):(Enc.dec (.fn (.func 98) [] [.ref [.int .i64 y.t.last,.sl (y.t.heights.map EncE.cs) .no,.int .i64 y.t.step,.sl (y.t.levels.map EncE.cs) .no,.sl (y.t.marks.map EncE.cs) .no,.int .i64 y.hands,.sl (y.chairs.map EncE.cs) .no,.sl (y.order.map EncE.cs) .no,.sl (y.hires.map EncE.cs) .no] 0,.ref [.sl (o.map EncE.cs) .no] 0,.ref [.int .i64 c] 0]):Option FnFine) = some (.hours y o c):=by
 have e1:=zkK y
 have e2:=zdq o
 rw [ydC] at e1
 simp only [Enc.dec,ziT,if_true,e1,e2]
theorem zaA (y:Yd) (o:List Int) (c h:Int):(Enc.dec (.fn (.func 92) [] [.ref [.int .i64 y.t.last,.sl (y.t.heights.map EncE.cs) .no,.int .i64 y.t.step,.sl (y.t.levels.map EncE.cs) .no,.sl (y.t.marks.map EncE.cs) .no,.int .i64 y.hands,.sl (y.chairs.map EncE.cs) .no,.sl (y.order.map EncE.cs) .no,.sl (y.hires.map EncE.cs) .no] 0,.ref [.sl (o.map EncE.cs) .no] 0,.ref [.int .i64 c] 0,.ref [.int .i64 h] 0]):Option FnFine) = some (.free y o c h):=by
 have e1:=zkK y
 have e2:=zdq o
 rw [ydC] at e1
 simp only [Enc.dec,ziT,if_true,e1,e2]
theorem zay (y:Yd) (o:List Int):(Enc.dec (.fn (.func 102) [] [.ref [.int .i64 y.t.last,.sl (y.t.heights.map EncE.cs) .no,.int .i64 y.t.step,.sl (y.t.levels.map EncE.cs) .no,.sl (y.t.marks.map EncE.cs) .no,.int .i64 y.hands,.sl (y.chairs.map EncE.cs) .no,.sl (y.order.map EncE.cs) .no,.sl (y.hires.map EncE.cs) .no] 0,.ref [.sl (o.map EncE.cs) .no] 0]):Option FnFine) = some (.lost y o):=by
 have e1:=zkK y
 have e2:=zdq o
 rw [ydC] at e1
 simp only [Enc.dec,ziT,if_true,e1,e2]
theorem zaB:(Enc.dec (.fn (.func 106) [] []):Option FnFine) = some .best:=rfl
theorem za5 (f:FnFine):Enc.enc f = f.av:=rfl
theorem zrx (f:RefYd) (o:RefC (List Int)) (c:RefC Int) (h:f.y.chairs.length ≤ 4096 ∧ o.x.length ≤ 4096):zaQ Tryz.prog 98 [Enc.enc f,Enc.enc o,Enc.enc c] (· = Enc.enc (FnFine.hours f.y o.x c.x).ask):=by
 obtain ⟨y⟩:=f
 obtain ⟨o⟩:=o
 obtain ⟨c⟩:=c
 simp only [zaK,ydC,zeu,FnFine.ask]
 have h1:=h.1
 have h2:=h.2
 dsimp only at h1 h2
 simp only [zbz]
 refine cpz ziY Tryz.func98 zaD ?_
 rw [Tryz.ntmps98]
 simp only [Tryz.f98,zag,zap]
 simp (maxSteps:=4000000) only [go_sem,AV.one,zae,zac,zad,zaq,zas,zab,czb,cza,↓reduceIte,zaO,zaz,zaA,zay,zaB,zaK,zaa,onz]
 all_goals (repeat' first | (with_reducible first | rfl | apply And.intro | assumption) | ((with_reducible show zaf _ _ = true); rfl)) <;> try first | omega | (simp only [InR]; omega)
 all_goals first | exact fun q => ⟨q,h1⟩ | skip
theorem zvH (f:RefYd) (o:RefC (List Int)) (c k:RefC Int) (h:f.y.chairs.length ≤ 4096 ∧ o.x.length ≤ 4096):zaQ Tryz.prog 92 [Enc.enc f,Enc.enc o,Enc.enc c,Enc.enc k] (· = Enc.enc (FnFine.free f.y o.x c.x k.x).ask):=by
 obtain ⟨y⟩:=f
 obtain ⟨o⟩:=o
 obtain ⟨c⟩:=c
 obtain ⟨k⟩:=k
 simp only [zaK,ydC,zeu,FnFine.ask]
 have h1:=h.1
 have h2:=h.2
 dsimp only at h1 h2
 simp only [zbz]
 refine cpz ziY Tryz.func92 zaD ?_
 rw [Tryz.ntmps92]
 simp only [Tryz.f92,zag,zap]
 simp (maxSteps:=4000000) only [go_sem,AV.one,zae,zac,zad,zaq,zas,zab,czb,cza,↓reduceIte,zaO,zaz,zaA,zay,zaB,zaK,zaa,onz]
 all_goals (repeat' first | (with_reducible first | rfl | apply And.intro | assumption) | ((with_reducible show zaf _ _ = true); rfl)) <;> try first | omega | (simp only [InR]; omega)
 all_goals first | exact fun q => ⟨q,h1⟩ | skip
theorem zvk (f:RefYd) (o:RefC (List Int)) (h:f.y.chairs.length ≤ 4096 ∧ o.x.length ≤ 4096):zaQ Tryz.prog 102 [Enc.enc f,Enc.enc o] (· = Enc.enc (FnFine.lost f.y o.x).ask):=by
 obtain ⟨y⟩:=f
 obtain ⟨o⟩:=o
 simp only [zaK,ydC,zeu,FnFine.ask]
 have h1:=h.1
 have h2:=h.2
 dsimp only at h1 h2
 simp only [zbz]
 refine cpz ziY Tryz.func102 zaD ?_
 rw [Tryz.ntmps102]
 simp only [Tryz.f102,zag,zap]
 simp (maxSteps:=4000000) only [go_sem,AV.one,zae,zac,zad,zaq,zas,zab,czb,cza,↓reduceIte,zaO,zaz,zaA,zay,zaB,zaK,zaa,onz]
 all_goals (repeat' first | (with_reducible first | rfl | apply And.intro | assumption) | ((with_reducible show zaf _ _ = true); rfl)) <;> try first | omega | (simp only [InR]; omega)
 all_goals first | exact fun q => ⟨q,h1⟩ | skip
theorem zv6:zaQ Tryz.prog 106 [] (· = Enc.enc true):=by
 simp only [zbz]
 refine cpz ziY Tryz.func106 zaD ?_
 rw [Tryz.ntmps106]
 simp only [Tryz.f106,zag,zap]
 simp (maxSteps:=4000000) only [go_sem,AV.one,zae,zac,zad,zaq,zas,zab,czb,cza,↓reduceIte,zaO,zaz,zaA,zay,zaB,zaK,zaa,onz]
def P127 (g:FuncId):=(zaw 98 (zd1 (fun (f:RefYd) (o:RefC (List Int)) (c:RefC Int) => f.y.chairs.length ≤ 4096 ∧ o.x.length ≤ 4096) (fun f o c => (FnFine.hours f.y o.x c.x).ask)) (zaw 92 (zjm (fun (f:RefYd) (o:RefC (List Int)) (c _:RefC Int) => f.y.chairs.length ≤ 4096 ∧ o.x.length ≤ 4096) (fun f o c k => (FnFine.free f.y o.x c.x k.x).ask)) (zaw 102 (zbC (fun (f:RefYd) (o:RefC (List Int)) => f.y.chairs.length ≤ 4096 ∧ o.x.length ≤ 4096) (fun f o => (FnFine.lost f.y o.x).ask)) (zaw 106 (zuG true) (P126)))):zaL) g
theorem zgO:zaC Tryz.prog P127:=zaj (zbY zrx) (zaj (zer zvH) (zaj (zaM zvk) (zaj (zmG zv6) (ziY))))
theorem zpV (d:Option Nat):zaI P127 d = none:=(zai (by decide) d).trans ((zai (by decide) d).trans ((zai (by decide) d).trans ((zai (by decide) d).trans (zpW d))))
attribute [go_sem] P127 zpV
def zep (y:Yd):List Sea:=((zba y).map (zbH y.t)).filter fun x => zcp y x []
def zdw (y:Yd) (a:Bool):Int:=if za9 y ≠ 0 then za9 y else if a = false then 2 else if zep y = [] then 11 else 0
def yC (y:Yd):AObj:=.cells [.int .i64 y.t.last,.sl (y.t.heights.map EncE.cs) .no,.int .i64 y.t.step,.sl (y.t.levels.map EncE.cs) .no,.sl (y.t.marks.map EncE.cs) .no,.int .i64 y.hands,.sl (y.chairs.map EncE.cs) .no,.sl (y.order.map EncE.cs) .no,.sl (y.hires.map EncE.cs) .no]
def zix (y:Yd) (n0:Nat):List AObj:=[yC y,yC y,
 .cells [.int .i64 y.t.last,.sl (y.t.heights.map EncE.cs) .no,.int .i64 y.t.step,.sl (y.t.levels.map EncE.cs) .no,.sl (y.t.marks.map EncE.cs) .no,.int .i64 y.hands,.sl (y.chairs.map EncE.cs) .no,.sl (y.order.map EncE.cs) .no,.sl (y.hires.map EncE.cs) .no,.vec (n0 + 4) (zba y).length 0 (zep y).length 2],
 .cells [.ptr (n0 + 2) 0],.vec ((zep y).map EncE.cs ++ List.replicate ((zba y).length - (zep y).length) zqn) 2 (zba y).length]
def zmy (y:Yd) (a:Bool) (mem:List AObj) (r:AV) (m:List AObj):Prop :=
 if zdw y a = 0 then r = .tup [.ptr (mem.length + 2) 0,.int .i64 0] ∧ m = mem ++ zix y mem.length else r = .tup [.nilp,.int .i64 (zdw y a)] ∧ m = mem
theorem zb8 (y:Yd) (k:Nat):zb6 k (yC y):=fun c hc => zcO _ _ _ (zfD y c hc) (by omega)
theorem askW {y:Yd} (hv:VY y):∀ x ∈ (zba y).map (zbH y.t),YS y x:=fun x hx => by
 obtain ⟨p,_,rfl⟩:=czx.1 hx
 exact ys_of hv p
theorem zfz {y:Yd} (hv:VY y):(zba y).length ≤ 4096:=by
 have h1:(zba y).length ≤ (zlK y.t).length:=by
  have:=zjR y (zlK y.t) []
  simpa [zba] using this
 have:=zmO hv.fok.vok
 omega
section
variable {mem:List AObj} (y:Yd)
theorem askedh (o:List Int) (c:Int) {b0 b1 b2:Nat} (h4:y.t.heights.length ≤ 4096 ∧ y.order.length ≤ 4096) (m0:zab mem b0 = yC y) (m1:zab mem b1 = .cells [.sl (o.map EncE.cs) .no]) (m2:zab mem b2 = .cells [.int .i64 c]) (ho:o.length ≤ 4096) (hm:∀ o ∈ mem,zb6 mem.length o) :
  zff Tryz.prog 91 [.agg (ydC y),.fn (.func 98) [] [.ptr b0 0,.ptr b1 0,.ptr b2 0]] mem (zmy y (FnFine.hours y o c).ask mem):=by
 obtain ⟨A,hA⟩:∃ A,(FnFine.hours y o c).ask = A:=⟨_,rfl⟩
 rw [hA]
 obtain ⟨n0,hn0⟩:∃ n0,mem.length = n0:=⟨_,rfl⟩
 rw [hn0] at hm
 unfold yC at m0
 have q0:=zbg m0 (by simp)
 have e0:∀ r,zab (mem ++ r) b0 = _:=fun r => (zaX (by omega)).trans m0
 have q1:=zbg m1 (by simp)
 have e1:∀ r,zab (mem ++ r) b1 = _:=fun r => (zaX (by omega)).trans m1
 have q2:=zbg m2 (by simp)
 have e2:∀ r,zab (mem ++ r) b2 = _:=fun r => (zaX (by omega)).trans m2
 have g0:∀ r,zab (mem ++ r) n0 = zab r 0:=fun r => by rw [← hn0]; exact zaP _ _ 0
 have gk:∀ r k,zab (mem ++ r) (n0 + k) = zab r k:=fun r k => by rw [← hn0]; exact zaP _ _ k
 have s0:∀ r o,(mem ++ r).set n0 o = mem ++ r.set 0 o:=fun r o => by rw [← hn0]; exact zbW _ _ 0 _
 have sk:∀ r k o,(mem ++ r).set (n0 + k) o = mem ++ r.set k o:=fun r k o => by rw [← hn0]; exact zbW _ _ k _
 have hl1:∀ o:AObj,(mem ++ [o]).length = n0 + 1:=fun o => by simp [hn0]
 have hok1:∀ o ∈ mem ++ [yC y],zb6 (mem ++ [yC y]).length o:=by
  rw [hl1]
  exact zce hm (by omega) ⟨zb8 y _,trivial⟩
 have hbad:∀ (m:List AObj) (a:List AObj) e,e ≠ 0 → zdw y A = e → m = mem ++ a → ∃ k,n0 ≤ k ∧ k ≤ m.length ∧ zmy y A mem (.tup [.nilp,.int .i64 e]) (m.take k) ∧ (∀ o ∈ m.take k,zb6 k o):=fun m a e he hq hm' => by
  subst hm'
  refine ⟨n0,czf _,by simp [hn0],?_,?_⟩
  ·rw [List.take_left' hn0]
   unfold zmy
   rw [hq,if_neg he]
   exact ⟨rfl,rfl⟩
  ·rw [List.take_left' hn0]; exact hm
 refine zb0 (Φ:=P127) Tryz.func91 rfl (by rfl) (by rw [Tryz.ntmps91]; simp) zaD zgO ?_
 rw [Tryz.ntmps91]
 simp only [Tryz.f91,zag,zap,ydC]
 refine zlC fun Q0 hQ0 => ?_
 refine zar fun Q1 h1 => ?_
 simp (maxSteps:=4000000) only [go_sem,zae,zac,zad,zaq,zas,czb,cza,↓reduceIte,zaO,za6,zaz,zaA,zay,zaB,zaK,zau,zav,za5,zaa,onz,g0,hn0]
 all_goals (repeat' first | (with_reducible first | rfl | apply And.intro | assumption) | ((with_reducible show zaf _ _ = true); rfl)) <;> try first | omega | (simp only [InR]; omega)
 rw [h1]; clear h1 Q1; simp only [zaE,zam]
 refine zar fun Q1 h1 => ?_
 simp (maxSteps:=4000000) only [go_sem,zae,zac,zad,zaq,zas,czb,cza,↓reduceIte,zaO,za6,zaz,zaA,zay,zaB,zaK,zau,zav,za5,zaa,onz,g0,hn0]
 by_cases c0:za9 y = 0
 ·have hv:=zg9 c0
  have h5:=hv.c5
  have hcl:=zfz hv
  refine ⟨_,zeB y hv hok1,?_⟩
  rintro r m ⟨rfl,rfl⟩ _
  rw [hl1]
  simp (maxSteps:=4000000) only [go_sem,zae,zac,zad,zaq,zas,czb,cza,↓reduceIte,zaO,za6,zaz,zaA,zay,zaB,zaK,zau,zav,za5,zaa,onz,g0,hn0]
  rw [h1]; clear h1 Q1
  simp only [zaE,zam]
  unfold zcu
  simp only [czd,czs,List.nil_append,Nat.add_assoc,Nat.reduceAdd]
  have hD:=zfa (mem:=mem ++ (yC y :: zcu y (n0 + 1) (zba y))) (v:=n0 + 4) (s:=(zba y).length) (b:=n0) y ((zba y).map (zbH y.t)) (askW hv) (by rw [czz]; exact hcl) (by rw [gk]; rfl) (by rw [g0]; rfl)
  have hn5:(mem ++ (yC y :: zcu y (n0 + 1) (zba y))).length = n0 + 5:=by simp [hn0,zcu]
  have hok5:∀ o ∈ mem ++ (yC y :: zcu y (n0 + 1) (zba y)),zb6 (mem ++ (yC y :: zcu y (n0 + 1) (zba y))).length o:=by
   rw [hn5]
   refine zce hm (by omega) ⟨zb8 y _,?_⟩
   simp [AV.bare,zal,zaN,zaS,zak,zat,zah,tokz1,lk,zab,za2,zcu,-List.map_map]
   try omega
  have hD:=hD hok5
  rw [sk] at hD
  have hk:(((zba y).map (zbH y.t)).filter fun x => zcp y x []) = zep y:=rfl
  rw [hk] at hD
  obtain ⟨K,hK⟩:∃ K,zep y = K:=⟨_,rfl⟩
  rw [hK] at hD
  have htk:∀ r,(K.map EncE.cs ++ r).take K.length = K.map (EncE.cs (α:=Sea)):=fun r => List.take_left' (by simp)
  simp only [czz] at hD
  refine zar fun Q1 h1 => ?_
  simp (maxSteps:=4000000) only [go_sem,zae,zac,zad,zaq,zas,czb,cza,↓reduceIte,zaO,za6,zaz,zaA,zay,zaB,zaK,zau,zav,za5,zaa,onz,g0,gk,s0,sk,hn0,e0,e1,e2,czd,czs,czc]
  all_goals (repeat' first | (with_reducible first | rfl | apply And.intro | assumption) | ((with_reducible show zaf _ _ = true); rfl)) <;> try first | omega | (simp only [InR]; omega)
  rw [h1]; clear h1 Q1; simp only [zaE,zam]
  simp (maxSteps:=4000000) only [go_sem,zae,zac,zad,zaq,zas,czb,cza,↓reduceIte,zaO,za6,zaz,zaA,zay,zaB,zaK,zau,zav,za5,zaa,onz,hA,g0,gk,s0,sk,hn0,e0,e1,e2,czd,czs,czc,decide_true,decide_false]
  refine ⟨⟨by omega,ho⟩,fun q => ?_,fun q => ⟨_,hD,?_⟩⟩
  ·have hq:zdw y A = 2:=by unfold zdw; rw [if_neg (by simp [c0]),if_pos q]
   simp (maxSteps:=4000000) only [go_sem,zae,zac,zad,zaq,zas,czb,cza,↓reduceIte,zaO,za6,zaz,zaA,zay,zaB,zaK,zau,zav,za5,zaa,onz,hQ0,hn0]
   obtain ⟨k,k1,k2,k3,k4⟩:=hbad _ _ 2 (by simp) hq rfl
   exact ⟨k,k1,k2,k3,by simp [AV.bare,zal,zaN,zaS,zak,zat,zah,tokz1,lk,zab,za2],k4⟩
  rintro r m ⟨rfl,rfl⟩ _
  unfold zcu yC
  generalize hr:List.replicate ((zba y).length - K.length) zqn = RR
  clear hD
  simp (maxSteps:=4000000) only [go_sem,zae,zac,zad,zaq,zas,czb,cza,↓reduceIte,zaO,za6,zaz,zaA,zay,zaB,zaK,zau,zav,za5,zaa,onz,htk,g0,gk,s0,sk,hn0,e0,e1,e2,czd,czs,czc,czz,List.set_cons_succ,List.set_cons_zero,decide_true,decide_false]
  have hv5:zb6 (n0 + 5) (.vec (K.map EncE.cs ++ RR) 2 (zba y).length):=fun e he c hc => by
   rcases czv.1 he with h | h
   ·obtain ⟨x,_,rfl⟩:=czx.1 h
    exact zcO _ _ _ (EncE.ok x c hc) (by rw [zfU]; omega)
   ·rw [← hr] at h
    rw [(czL.1 h).2] at hc
    simp only [zqn,czn,czk,or_false] at hc
    rcases hc with rfl | rfl <;> simp [bel]
  have hqa:zdw y A = if K = [] then 11 else 0:=by unfold zdw; rw [if_neg (by simp [c0]),if_neg (by simp [q]),hK]
  refine ⟨fun e => ?_,fun e => ?_⟩
  ·have hKn:K = []:=List.eq_nil_of_length_eq_zero (by simpa using e)
   rw [if_pos hKn] at hqa
   simp (maxSteps:=4000000) only [go_sem,zae,zac,zad,zaq,zas,czb,cza,↓reduceIte,zaO,za6,zaz,zaA,zay,zaB,zaK,zau,zav,za5,zaa,onz,hQ0,hn0]
   obtain ⟨k,k1,k2,k3,k4⟩:=hbad _ _ 11 (by simp) hqa rfl
   exact ⟨k,k1,k2,k3,by simp [AV.bare,zal,zaN,zaS,zak,zat,zah,tokz1,lk,zab,za2],k4⟩
  ·have hKn:K ≠ []:=fun q => by simp [q] at e
   rw [if_neg hKn] at hqa
   simp (maxSteps:=4000000) only [go_sem,zae,zac,zad,zaq,zas,czb,cza,↓reduceIte,zaO,za6,zaz,zaA,zay,zaB,zaK,zau,zav,za5,zaa,onz,hQ0,hn0]
   refine ⟨n0 + 5,by omega,by simp [hn0],?_,by simp [AV.bare,zal,zaN,zaS,zak,zat,zah,tokz1,lk,zab,za2],?_⟩
   ·rw [cze (by simp [hn0])]
    unfold zmy
    rw [if_pos hqa,hn0]
    refine ⟨rfl,?_⟩
    unfold zix yC
    rw [hK,hr]
   ·rw [cze (by simp [hn0])]
    exact zce hm (by omega) ⟨zb8 y _,zb8 y _,by simp [AV.bare,zal,zaN,zaS,zak,zat,zah,tokz1,lk,zab,za2,-List.map_map],by simp [AV.bare,zal,zaN,zaS,zak,zat,zah,tokz1,lk,zab,za2],hv5,trivial⟩
 ·have hq:zdw y A = za9 y:=by unfold zdw; rw [if_pos c0]
  refine ⟨_,zea y h4 c0 hok1,?_⟩
  rintro r m ⟨rfl,rfl⟩ _
  simp (maxSteps:=4000000) only [go_sem,zae,zac,zad,zaq,zas,czb,cza,↓reduceIte,zaO,za6,zaz,zaA,zay,zaB,zaK,zau,zav,za5,zaa,onz,g0,hn0]
  rw [h1]; clear h1 Q1
  simp only [zaE,zam]
  simp (maxSteps:=4000000) only [go_sem,zae,zac,zad,zaq,zas,czb,cza,↓reduceIte,zaO,za6,zaz,zaA,zay,zaB,zaK,zau,zav,za5,zaa,onz,c0,hQ0,g0,hn0,decide_true,decide_false]
  obtain ⟨k,k1,k2,k3,k4⟩:=hbad _ _ _ c0 hq rfl
  exact ⟨k,k1,k2,k3,by simp [AV.bare,zal,zaN,zaS,zak,zat,zah,tokz1,lk,zab,za2],k4⟩
theorem askedf (o:List Int) (c h:Int) {b0 b1 b2 b3:Nat} (h4:y.t.heights.length ≤ 4096 ∧ y.order.length ≤ 4096) (m0:zab mem b0 = yC y) (m1:zab mem b1 = .cells [.sl (o.map EncE.cs) .no]) (m2:zab mem b2 = .cells [.int .i64 c]) (m3:zab mem b3 = .cells [.int .i64 h]) (ho:o.length ≤ 4096) (hm:∀ o ∈ mem,zb6 mem.length o) :
  zff Tryz.prog 91 [.agg (ydC y),.fn (.func 92) [] [.ptr b0 0,.ptr b1 0,.ptr b2 0,.ptr b3 0]] mem (zmy y (FnFine.free y o c h).ask mem):=by
 obtain ⟨A,hA⟩:∃ A,(FnFine.free y o c h).ask = A:=⟨_,rfl⟩
 rw [hA]
 obtain ⟨n0,hn0⟩:∃ n0,mem.length = n0:=⟨_,rfl⟩
 rw [hn0] at hm
 unfold yC at m0
 have q0:=zbg m0 (by simp)
 have e0:∀ r,zab (mem ++ r) b0 = _:=fun r => (zaX (by omega)).trans m0
 have q1:=zbg m1 (by simp)
 have e1:∀ r,zab (mem ++ r) b1 = _:=fun r => (zaX (by omega)).trans m1
 have q2:=zbg m2 (by simp)
 have e2:∀ r,zab (mem ++ r) b2 = _:=fun r => (zaX (by omega)).trans m2
 have q3:=zbg m3 (by simp)
 have e3:∀ r,zab (mem ++ r) b3 = _:=fun r => (zaX (by omega)).trans m3
 have g0:∀ r,zab (mem ++ r) n0 = zab r 0:=fun r => by rw [← hn0]; exact zaP _ _ 0
 have gk:∀ r k,zab (mem ++ r) (n0 + k) = zab r k:=fun r k => by rw [← hn0]; exact zaP _ _ k
 have s0:∀ r o,(mem ++ r).set n0 o = mem ++ r.set 0 o:=fun r o => by rw [← hn0]; exact zbW _ _ 0 _
 have sk:∀ r k o,(mem ++ r).set (n0 + k) o = mem ++ r.set k o:=fun r k o => by rw [← hn0]; exact zbW _ _ k _
 have hl1:∀ o:AObj,(mem ++ [o]).length = n0 + 1:=fun o => by simp [hn0]
 have hok1:∀ o ∈ mem ++ [yC y],zb6 (mem ++ [yC y]).length o:=by
  rw [hl1]
  exact zce hm (by omega) ⟨zb8 y _,trivial⟩
 have hbad:∀ (m:List AObj) (a:List AObj) e,e ≠ 0 → zdw y A = e → m = mem ++ a → ∃ k,n0 ≤ k ∧ k ≤ m.length ∧ zmy y A mem (.tup [.nilp,.int .i64 e]) (m.take k) ∧ (∀ o ∈ m.take k,zb6 k o):=fun m a e he hq hm' => by
  subst hm'
  refine ⟨n0,czf _,by simp [hn0],?_,?_⟩
  ·rw [List.take_left' hn0]
   unfold zmy
   rw [hq,if_neg he]
   exact ⟨rfl,rfl⟩
  ·rw [List.take_left' hn0]; exact hm
 refine zb0 (Φ:=P127) Tryz.func91 rfl (by rfl) (by rw [Tryz.ntmps91]; simp) zaD zgO ?_
 rw [Tryz.ntmps91]
 simp only [Tryz.f91,zag,zap,ydC]
 refine zlC fun Q0 hQ0 => ?_
 refine zar fun Q1 h1 => ?_
 simp (maxSteps:=4000000) only [go_sem,zae,zac,zad,zaq,zas,czb,cza,↓reduceIte,zaO,za6,zaz,zaA,zay,zaB,zaK,zau,zav,za5,zaa,onz,g0,hn0]
 all_goals (repeat' first | (with_reducible first | rfl | apply And.intro | assumption) | ((with_reducible show zaf _ _ = true); rfl)) <;> try first | omega | (simp only [InR]; omega)
 rw [h1]; clear h1 Q1; simp only [zaE,zam]
 refine zar fun Q1 h1 => ?_
 simp (maxSteps:=4000000) only [go_sem,zae,zac,zad,zaq,zas,czb,cza,↓reduceIte,zaO,za6,zaz,zaA,zay,zaB,zaK,zau,zav,za5,zaa,onz,g0,hn0]
 by_cases c0:za9 y = 0
 ·have hv:=zg9 c0
  have h5:=hv.c5
  have hcl:=zfz hv
  refine ⟨_,zeB y hv hok1,?_⟩
  rintro r m ⟨rfl,rfl⟩ _
  rw [hl1]
  simp (maxSteps:=4000000) only [go_sem,zae,zac,zad,zaq,zas,czb,cza,↓reduceIte,zaO,za6,zaz,zaA,zay,zaB,zaK,zau,zav,za5,zaa,onz,g0,hn0]
  rw [h1]; clear h1 Q1
  simp only [zaE,zam]
  unfold zcu
  simp only [czd,czs,List.nil_append,Nat.add_assoc,Nat.reduceAdd]
  have hD:=zfa (mem:=mem ++ (yC y :: zcu y (n0 + 1) (zba y))) (v:=n0 + 4) (s:=(zba y).length) (b:=n0) y ((zba y).map (zbH y.t)) (askW hv) (by rw [czz]; exact hcl) (by rw [gk]; rfl) (by rw [g0]; rfl)
  have hn5:(mem ++ (yC y :: zcu y (n0 + 1) (zba y))).length = n0 + 5:=by simp [hn0,zcu]
  have hok5:∀ o ∈ mem ++ (yC y :: zcu y (n0 + 1) (zba y)),zb6 (mem ++ (yC y :: zcu y (n0 + 1) (zba y))).length o:=by
   rw [hn5]
   refine zce hm (by omega) ⟨zb8 y _,?_⟩
   simp [AV.bare,zal,zaN,zaS,zak,zat,zah,tokz1,lk,zab,za2,zcu,-List.map_map]
   try omega
  have hD:=hD hok5
  rw [sk] at hD
  have hk:(((zba y).map (zbH y.t)).filter fun x => zcp y x []) = zep y:=rfl
  rw [hk] at hD
  obtain ⟨K,hK⟩:∃ K,zep y = K:=⟨_,rfl⟩
  rw [hK] at hD
  have htk:∀ r,(K.map EncE.cs ++ r).take K.length = K.map (EncE.cs (α:=Sea)):=fun r => List.take_left' (by simp)
  simp only [czz] at hD
  refine zar fun Q1 h1 => ?_
  simp (maxSteps:=4000000) only [go_sem,zae,zac,zad,zaq,zas,czb,cza,↓reduceIte,zaO,za6,zaz,zaA,zay,zaB,zaK,zau,zav,za5,zaa,onz,g0,gk,s0,sk,hn0,e0,e1,e2,e3,czd,czs,czc]
  all_goals (repeat' first | (with_reducible first | rfl | apply And.intro | assumption) | ((with_reducible show zaf _ _ = true); rfl)) <;> try first | omega | (simp only [InR]; omega)
  rw [h1]; clear h1 Q1; simp only [zaE,zam]
  simp (maxSteps:=4000000) only [go_sem,zae,zac,zad,zaq,zas,czb,cza,↓reduceIte,zaO,za6,zaz,zaA,zay,zaB,zaK,zau,zav,za5,zaa,onz,hA,g0,gk,s0,sk,hn0,e0,e1,e2,e3,czd,czs,czc,decide_true,decide_false]
  refine ⟨⟨by omega,ho⟩,fun q => ?_,fun q => ⟨_,hD,?_⟩⟩
  ·have hq:zdw y A = 2:=by unfold zdw; rw [if_neg (by simp [c0]),if_pos q]
   simp (maxSteps:=4000000) only [go_sem,zae,zac,zad,zaq,zas,czb,cza,↓reduceIte,zaO,za6,zaz,zaA,zay,zaB,zaK,zau,zav,za5,zaa,onz,hQ0,hn0]
   obtain ⟨k,k1,k2,k3,k4⟩:=hbad _ _ 2 (by simp) hq rfl
   exact ⟨k,k1,k2,k3,by simp [AV.bare,zal,zaN,zaS,zak,zat,zah,tokz1,lk,zab,za2],k4⟩
  rintro r m ⟨rfl,rfl⟩ _
  unfold zcu yC
  generalize hr:List.replicate ((zba y).length - K.length) zqn = RR
  clear hD
  simp (maxSteps:=4000000) only [go_sem,zae,zac,zad,zaq,zas,czb,cza,↓reduceIte,zaO,za6,zaz,zaA,zay,zaB,zaK,zau,zav,za5,zaa,onz,htk,g0,gk,s0,sk,hn0,e0,e1,e2,e3,czd,czs,czc,czz,List.set_cons_succ,List.set_cons_zero,decide_true,decide_false]
  have hv5:zb6 (n0 + 5) (.vec (K.map EncE.cs ++ RR) 2 (zba y).length):=fun e he c hc => by
   rcases czv.1 he with h | h
   ·obtain ⟨x,_,rfl⟩:=czx.1 h
    exact zcO _ _ _ (EncE.ok x c hc) (by rw [zfU]; omega)
   ·rw [← hr] at h
    rw [(czL.1 h).2] at hc
    simp only [zqn,czn,czk,or_false] at hc
    rcases hc with rfl | rfl <;> simp [bel]
  have hqa:zdw y A = if K = [] then 11 else 0:=by unfold zdw; rw [if_neg (by simp [c0]),if_neg (by simp [q]),hK]
  refine ⟨fun e => ?_,fun e => ?_⟩
  ·have hKn:K = []:=List.eq_nil_of_length_eq_zero (by simpa using e)
   rw [if_pos hKn] at hqa
   simp (maxSteps:=4000000) only [go_sem,zae,zac,zad,zaq,zas,czb,cza,↓reduceIte,zaO,za6,zaz,zaA,zay,zaB,zaK,zau,zav,za5,zaa,onz,hQ0,hn0]
   obtain ⟨k,k1,k2,k3,k4⟩:=hbad _ _ 11 (by simp) hqa rfl
   exact ⟨k,k1,k2,k3,by simp [AV.bare,zal,zaN,zaS,zak,zat,zah,tokz1,lk,zab,za2],k4⟩
  ·have hKn:K ≠ []:=fun q => by simp [q] at e
   rw [if_neg hKn] at hqa
   simp (maxSteps:=4000000) only [go_sem,zae,zac,zad,zaq,zas,czb,cza,↓reduceIte,zaO,za6,zaz,zaA,zay,zaB,zaK,zau,zav,za5,zaa,onz,hQ0,hn0]
   refine ⟨n0 + 5,by omega,by simp [hn0],?_,by simp [AV.bare,zal,zaN,zaS,zak,zat,zah,tokz1,lk,zab,za2],?_⟩
   ·rw [cze (by simp [hn0])]
    unfold zmy
    rw [if_pos hqa,hn0]
    refine ⟨rfl,?_⟩
    unfold zix yC
    rw [hK,hr]
   ·rw [cze (by simp [hn0])]
    exact zce hm (by omega) ⟨zb8 y _,zb8 y _,by simp [AV.bare,zal,zaN,zaS,zak,zat,zah,tokz1,lk,zab,za2,-List.map_map],by simp [AV.bare,zal,zaN,zaS,zak,zat,zah,tokz1,lk,zab,za2],hv5,trivial⟩
 ·have hq:zdw y A = za9 y:=by unfold zdw; rw [if_pos c0]
  refine ⟨_,zea y h4 c0 hok1,?_⟩
  rintro r m ⟨rfl,rfl⟩ _
  simp (maxSteps:=4000000) only [go_sem,zae,zac,zad,zaq,zas,czb,cza,↓reduceIte,zaO,za6,zaz,zaA,zay,zaB,zaK,zau,zav,za5,zaa,onz,g0,hn0]
  rw [h1]; clear h1 Q1
  simp only [zaE,zam]
  simp (maxSteps:=4000000) only [go_sem,zae,zac,zad,zaq,zas,czb,cza,↓reduceIte,zaO,za6,zaz,zaA,zay,zaB,zaK,zau,zav,za5,zaa,onz,c0,hQ0,g0,hn0,decide_true,decide_false]
  obtain ⟨k,k1,k2,k3,k4⟩:=hbad _ _ _ c0 hq rfl
  exact ⟨k,k1,k2,k3,by simp [AV.bare,zal,zaN,zaS,zak,zat,zah,tokz1,lk,zab,za2],k4⟩
theorem askedl (o:List Int) {b0 b1:Nat} (h4:y.t.heights.length ≤ 4096 ∧ y.order.length ≤ 4096) (m0:zab mem b0 = yC y) (m1:zab mem b1 = .cells [.sl (o.map EncE.cs) .no]) (ho:o.length ≤ 4096) (hm:∀ o ∈ mem,zb6 mem.length o) :
  zff Tryz.prog 91 [.agg (ydC y),.fn (.func 102) [] [.ptr b0 0,.ptr b1 0]] mem (zmy y (FnFine.lost y o).ask mem):=by
 obtain ⟨A,hA⟩:∃ A,(FnFine.lost y o).ask = A:=⟨_,rfl⟩
 rw [hA]
 obtain ⟨n0,hn0⟩:∃ n0,mem.length = n0:=⟨_,rfl⟩
 rw [hn0] at hm
 unfold yC at m0
 have q0:=zbg m0 (by simp)
 have e0:∀ r,zab (mem ++ r) b0 = _:=fun r => (zaX (by omega)).trans m0
 have q1:=zbg m1 (by simp)
 have e1:∀ r,zab (mem ++ r) b1 = _:=fun r => (zaX (by omega)).trans m1
 have g0:∀ r,zab (mem ++ r) n0 = zab r 0:=fun r => by rw [← hn0]; exact zaP _ _ 0
 have gk:∀ r k,zab (mem ++ r) (n0 + k) = zab r k:=fun r k => by rw [← hn0]; exact zaP _ _ k
 have s0:∀ r o,(mem ++ r).set n0 o = mem ++ r.set 0 o:=fun r o => by rw [← hn0]; exact zbW _ _ 0 _
 have sk:∀ r k o,(mem ++ r).set (n0 + k) o = mem ++ r.set k o:=fun r k o => by rw [← hn0]; exact zbW _ _ k _
 have hl1:∀ o:AObj,(mem ++ [o]).length = n0 + 1:=fun o => by simp [hn0]
 have hok1:∀ o ∈ mem ++ [yC y],zb6 (mem ++ [yC y]).length o:=by
  rw [hl1]
  exact zce hm (by omega) ⟨zb8 y _,trivial⟩
 have hbad:∀ (m:List AObj) (a:List AObj) e,e ≠ 0 → zdw y A = e → m = mem ++ a → ∃ k,n0 ≤ k ∧ k ≤ m.length ∧ zmy y A mem (.tup [.nilp,.int .i64 e]) (m.take k) ∧ (∀ o ∈ m.take k,zb6 k o):=fun m a e he hq hm' => by
  subst hm'
  refine ⟨n0,czf _,by simp [hn0],?_,?_⟩
  ·rw [List.take_left' hn0]
   unfold zmy
   rw [hq,if_neg he]
   exact ⟨rfl,rfl⟩
  ·rw [List.take_left' hn0]; exact hm
 refine zb0 (Φ:=P127) Tryz.func91 rfl (by rfl) (by rw [Tryz.ntmps91]; simp) zaD zgO ?_
 rw [Tryz.ntmps91]
 simp only [Tryz.f91,zag,zap,ydC]
 refine zlC fun Q0 hQ0 => ?_
 refine zar fun Q1 h1 => ?_
 simp (maxSteps:=4000000) only [go_sem,zae,zac,zad,zaq,zas,czb,cza,↓reduceIte,zaO,za6,zaz,zaA,zay,zaB,zaK,zau,zav,za5,zaa,onz,g0,hn0]
 all_goals (repeat' first | (with_reducible first | rfl | apply And.intro | assumption) | ((with_reducible show zaf _ _ = true); rfl)) <;> try first | omega | (simp only [InR]; omega)
 rw [h1]; clear h1 Q1; simp only [zaE,zam]
 refine zar fun Q1 h1 => ?_
 simp (maxSteps:=4000000) only [go_sem,zae,zac,zad,zaq,zas,czb,cza,↓reduceIte,zaO,za6,zaz,zaA,zay,zaB,zaK,zau,zav,za5,zaa,onz,g0,hn0]
 by_cases c0:za9 y = 0
 ·have hv:=zg9 c0
  have h5:=hv.c5
  have hcl:=zfz hv
  refine ⟨_,zeB y hv hok1,?_⟩
  rintro r m ⟨rfl,rfl⟩ _
  rw [hl1]
  simp (maxSteps:=4000000) only [go_sem,zae,zac,zad,zaq,zas,czb,cza,↓reduceIte,zaO,za6,zaz,zaA,zay,zaB,zaK,zau,zav,za5,zaa,onz,g0,hn0]
  rw [h1]; clear h1 Q1
  simp only [zaE,zam]
  unfold zcu
  simp only [czd,czs,List.nil_append,Nat.add_assoc,Nat.reduceAdd]
  have hD:=zfa (mem:=mem ++ (yC y :: zcu y (n0 + 1) (zba y))) (v:=n0 + 4) (s:=(zba y).length) (b:=n0) y ((zba y).map (zbH y.t)) (askW hv) (by rw [czz]; exact hcl) (by rw [gk]; rfl) (by rw [g0]; rfl)
  have hn5:(mem ++ (yC y :: zcu y (n0 + 1) (zba y))).length = n0 + 5:=by simp [hn0,zcu]
  have hok5:∀ o ∈ mem ++ (yC y :: zcu y (n0 + 1) (zba y)),zb6 (mem ++ (yC y :: zcu y (n0 + 1) (zba y))).length o:=by
   rw [hn5]
   refine zce hm (by omega) ⟨zb8 y _,?_⟩
   simp [AV.bare,zal,zaN,zaS,zak,zat,zah,tokz1,lk,zab,za2,zcu,-List.map_map]
   try omega
  have hD:=hD hok5
  rw [sk] at hD
  have hk:(((zba y).map (zbH y.t)).filter fun x => zcp y x []) = zep y:=rfl
  rw [hk] at hD
  obtain ⟨K,hK⟩:∃ K,zep y = K:=⟨_,rfl⟩
  rw [hK] at hD
  have htk:∀ r,(K.map EncE.cs ++ r).take K.length = K.map (EncE.cs (α:=Sea)):=fun r => List.take_left' (by simp)
  simp only [czz] at hD
  refine zar fun Q1 h1 => ?_
  simp (maxSteps:=4000000) only [go_sem,zae,zac,zad,zaq,zas,czb,cza,↓reduceIte,zaO,za6,zaz,zaA,zay,zaB,zaK,zau,zav,za5,zaa,onz,g0,gk,s0,sk,hn0,e0,e1,czd,czs,czc]
  all_goals (repeat' first | (with_reducible first | rfl | apply And.intro | assumption) | ((with_reducible show zaf _ _ = true); rfl)) <;> try first | omega | (simp only [InR]; omega)
  rw [h1]; clear h1 Q1; simp only [zaE,zam]
  simp (maxSteps:=4000000) only [go_sem,zae,zac,zad,zaq,zas,czb,cza,↓reduceIte,zaO,za6,zaz,zaA,zay,zaB,zaK,zau,zav,za5,zaa,onz,hA,g0,gk,s0,sk,hn0,e0,e1,czd,czs,czc,decide_true,decide_false]
  refine ⟨⟨by omega,ho⟩,fun q => ?_,fun q => ⟨_,hD,?_⟩⟩
  ·have hq:zdw y A = 2:=by unfold zdw; rw [if_neg (by simp [c0]),if_pos q]
   simp (maxSteps:=4000000) only [go_sem,zae,zac,zad,zaq,zas,czb,cza,↓reduceIte,zaO,za6,zaz,zaA,zay,zaB,zaK,zau,zav,za5,zaa,onz,hQ0,hn0]
   obtain ⟨k,k1,k2,k3,k4⟩:=hbad _ _ 2 (by simp) hq rfl
   exact ⟨k,k1,k2,k3,by simp [AV.bare,zal,zaN,zaS,zak,zat,zah,tokz1,lk,zab,za2],k4⟩
  rintro r m ⟨rfl,rfl⟩ _
  unfold zcu yC
  generalize hr:List.replicate ((zba y).length - K.length) zqn = RR
  clear hD
  simp (maxSteps:=4000000) only [go_sem,zae,zac,zad,zaq,zas,czb,cza,↓reduceIte,zaO,za6,zaz,zaA,zay,zaB,zaK,zau,zav,za5,zaa,onz,htk,g0,gk,s0,sk,hn0,e0,e1,czd,czs,czc,czz,List.set_cons_succ,List.set_cons_zero,decide_true,decide_false]
  have hv5:zb6 (n0 + 5) (.vec (K.map EncE.cs ++ RR) 2 (zba y).length):=fun e he c hc => by
   rcases czv.1 he with h | h
   ·obtain ⟨x,_,rfl⟩:=czx.1 h
    exact zcO _ _ _ (EncE.ok x c hc) (by rw [zfU]; omega)
   ·rw [← hr] at h
    rw [(czL.1 h).2] at hc
    simp only [zqn,czn,czk,or_false] at hc
    rcases hc with rfl | rfl <;> simp [bel]
  have hqa:zdw y A = if K = [] then 11 else 0:=by unfold zdw; rw [if_neg (by simp [c0]),if_neg (by simp [q]),hK]
  refine ⟨fun e => ?_,fun e => ?_⟩
  ·have hKn:K = []:=List.eq_nil_of_length_eq_zero (by simpa using e)
   rw [if_pos hKn] at hqa
   simp (maxSteps:=4000000) only [go_sem,zae,zac,zad,zaq,zas,czb,cza,↓reduceIte,zaO,za6,zaz,zaA,zay,zaB,zaK,zau,zav,za5,zaa,onz,hQ0,hn0]
   obtain ⟨k,k1,k2,k3,k4⟩:=hbad _ _ 11 (by simp) hqa rfl
   exact ⟨k,k1,k2,k3,by simp [AV.bare,zal,zaN,zaS,zak,zat,zah,tokz1,lk,zab,za2],k4⟩
  ·have hKn:K ≠ []:=fun q => by simp [q] at e
   rw [if_neg hKn] at hqa
   simp (maxSteps:=4000000) only [go_sem,zae,zac,zad,zaq,zas,czb,cza,↓reduceIte,zaO,za6,zaz,zaA,zay,zaB,zaK,zau,zav,za5,zaa,onz,hQ0,hn0]
   refine ⟨n0 + 5,by omega,by simp [hn0],?_,by simp [AV.bare,zal,zaN,zaS,zak,zat,zah,tokz1,lk,zab,za2],?_⟩
   ·rw [cze (by simp [hn0])]
    unfold zmy
    rw [if_pos hqa,hn0]
    refine ⟨rfl,?_⟩
    unfold zix yC
    rw [hK,hr]
   ·rw [cze (by simp [hn0])]
    exact zce hm (by omega) ⟨zb8 y _,zb8 y _,by simp [AV.bare,zal,zaN,zaS,zak,zat,zah,tokz1,lk,zab,za2,-List.map_map],by simp [AV.bare,zal,zaN,zaS,zak,zat,zah,tokz1,lk,zab,za2],hv5,trivial⟩
 ·have hq:zdw y A = za9 y:=by unfold zdw; rw [if_pos c0]
  refine ⟨_,zea y h4 c0 hok1,?_⟩
  rintro r m ⟨rfl,rfl⟩ _
  simp (maxSteps:=4000000) only [go_sem,zae,zac,zad,zaq,zas,czb,cza,↓reduceIte,zaO,za6,zaz,zaA,zay,zaB,zaK,zau,zav,za5,zaa,onz,g0,hn0]
  rw [h1]; clear h1 Q1
  simp only [zaE,zam]
  simp (maxSteps:=4000000) only [go_sem,zae,zac,zad,zaq,zas,czb,cza,↓reduceIte,zaO,za6,zaz,zaA,zay,zaB,zaK,zau,zav,za5,zaa,onz,c0,hQ0,g0,hn0,decide_true,decide_false]
  obtain ⟨k,k1,k2,k3,k4⟩:=hbad _ _ _ c0 hq rfl
  exact ⟨k,k1,k2,k3,by simp [AV.bare,zal,zaN,zaS,zak,zat,zah,tokz1,lk,zab,za2],k4⟩
theorem askedb  (h4:y.t.heights.length ≤ 4096 ∧ y.order.length ≤ 4096)  (hm:∀ o ∈ mem,zb6 mem.length o) :
  zff Tryz.prog 91 [.agg (ydC y),.fn (.func 106) [] []] mem (zmy y (FnFine.best).ask mem):=by
 obtain ⟨A,hA⟩:∃ A,(FnFine.best).ask = A:=⟨_,rfl⟩
 rw [hA]
 obtain ⟨n0,hn0⟩:∃ n0,mem.length = n0:=⟨_,rfl⟩
 rw [hn0] at hm
 have g0:∀ r,zab (mem ++ r) n0 = zab r 0:=fun r => by rw [← hn0]; exact zaP _ _ 0
 have gk:∀ r k,zab (mem ++ r) (n0 + k) = zab r k:=fun r k => by rw [← hn0]; exact zaP _ _ k
 have s0:∀ r o,(mem ++ r).set n0 o = mem ++ r.set 0 o:=fun r o => by rw [← hn0]; exact zbW _ _ 0 _
 have sk:∀ r k o,(mem ++ r).set (n0 + k) o = mem ++ r.set k o:=fun r k o => by rw [← hn0]; exact zbW _ _ k _
 have hl1:∀ o:AObj,(mem ++ [o]).length = n0 + 1:=fun o => by simp [hn0]
 have hok1:∀ o ∈ mem ++ [yC y],zb6 (mem ++ [yC y]).length o:=by
  rw [hl1]
  exact zce hm (by omega) ⟨zb8 y _,trivial⟩
 have hbad:∀ (m:List AObj) (a:List AObj) e,e ≠ 0 → zdw y A = e → m = mem ++ a → ∃ k,n0 ≤ k ∧ k ≤ m.length ∧ zmy y A mem (.tup [.nilp,.int .i64 e]) (m.take k) ∧ (∀ o ∈ m.take k,zb6 k o):=fun m a e he hq hm' => by
  subst hm'
  refine ⟨n0,czf _,by simp [hn0],?_,?_⟩
  ·rw [List.take_left' hn0]
   unfold zmy
   rw [hq,if_neg he]
   exact ⟨rfl,rfl⟩
  ·rw [List.take_left' hn0]; exact hm
 refine zb0 (Φ:=P127) Tryz.func91 rfl (by rfl) (by rw [Tryz.ntmps91]; simp) zaD zgO ?_
 rw [Tryz.ntmps91]
 simp only [Tryz.f91,zag,zap,ydC]
 refine zlC fun Q0 hQ0 => ?_
 refine zar fun Q1 h1 => ?_
 simp (maxSteps:=4000000) only [go_sem,zae,zac,zad,zaq,zas,czb,cza,↓reduceIte,zaO,za6,zaz,zaA,zay,zaB,zaK,zau,zav,za5,zaa,onz,g0,hn0]
 all_goals (repeat' first | (with_reducible first | rfl | apply And.intro | assumption) | ((with_reducible show zaf _ _ = true); rfl)) <;> try first | omega | (simp only [InR]; omega)
 rw [h1]; clear h1 Q1; simp only [zaE,zam]
 refine zar fun Q1 h1 => ?_
 simp (maxSteps:=4000000) only [go_sem,zae,zac,zad,zaq,zas,czb,cza,↓reduceIte,zaO,za6,zaz,zaA,zay,zaB,zaK,zau,zav,za5,zaa,onz,g0,hn0]
 by_cases c0:za9 y = 0
 ·have hv:=zg9 c0
  have h5:=hv.c5
  have hcl:=zfz hv
  refine ⟨_,zeB y hv hok1,?_⟩
  rintro r m ⟨rfl,rfl⟩ _
  rw [hl1]
  simp (maxSteps:=4000000) only [go_sem,zae,zac,zad,zaq,zas,czb,cza,↓reduceIte,zaO,za6,zaz,zaA,zay,zaB,zaK,zau,zav,za5,zaa,onz,g0,hn0]
  rw [h1]; clear h1 Q1
  simp only [zaE,zam]
  unfold zcu
  simp only [czd,czs,List.nil_append,Nat.add_assoc,Nat.reduceAdd]
  have hD:=zfa (mem:=mem ++ (yC y :: zcu y (n0 + 1) (zba y))) (v:=n0 + 4) (s:=(zba y).length) (b:=n0) y ((zba y).map (zbH y.t)) (askW hv) (by rw [czz]; exact hcl) (by rw [gk]; rfl) (by rw [g0]; rfl)
  have hn5:(mem ++ (yC y :: zcu y (n0 + 1) (zba y))).length = n0 + 5:=by simp [hn0,zcu]
  have hok5:∀ o ∈ mem ++ (yC y :: zcu y (n0 + 1) (zba y)),zb6 (mem ++ (yC y :: zcu y (n0 + 1) (zba y))).length o:=by
   rw [hn5]
   refine zce hm (by omega) ⟨zb8 y _,?_⟩
   simp [AV.bare,zal,zaN,zaS,zak,zat,zah,tokz1,lk,zab,za2,zcu,-List.map_map]
   try omega
  have hD:=hD hok5
  rw [sk] at hD
  have hk:(((zba y).map (zbH y.t)).filter fun x => zcp y x []) = zep y:=rfl
  rw [hk] at hD
  obtain ⟨K,hK⟩:∃ K,zep y = K:=⟨_,rfl⟩
  rw [hK] at hD
  have htk:∀ r,(K.map EncE.cs ++ r).take K.length = K.map (EncE.cs (α:=Sea)):=fun r => List.take_left' (by simp)
  simp only [czz] at hD
  refine zar fun Q1 h1 => ?_
  simp (maxSteps:=4000000) only [go_sem,zae,zac,zad,zaq,zas,czb,cza,↓reduceIte,zaO,za6,zaz,zaA,zay,zaB,zaK,zau,zav,za5,zaa,onz,g0,gk,s0,sk,hn0,czd,czs,czc]
  all_goals (repeat' first | (with_reducible first | rfl | apply And.intro | assumption) | ((with_reducible show zaf _ _ = true); rfl)) <;> try first | omega | (simp only [InR]; omega)
  rw [h1]; clear h1 Q1; simp only [zaE,zam]
  simp (maxSteps:=4000000) only [go_sem,zae,zac,zad,zaq,zas,czb,cza,↓reduceIte,zaO,za6,zaz,zaA,zay,zaB,zaK,zau,zav,za5,zaa,onz,hA,g0,gk,s0,sk,hn0,czd,czs,czc,decide_true,decide_false]
  have q:A = true:=hA.symm
  refine ⟨_,hD,?_⟩
  rintro r m ⟨rfl,rfl⟩ _
  unfold zcu yC
  generalize hr:List.replicate ((zba y).length - K.length) zqn = RR
  clear hD
  simp (maxSteps:=4000000) only [go_sem,zae,zac,zad,zaq,zas,czb,cza,↓reduceIte,zaO,za6,zaz,zaA,zay,zaB,zaK,zau,zav,za5,zaa,onz,htk,g0,gk,s0,sk,hn0,czd,czs,czc,czz,List.set_cons_succ,List.set_cons_zero,decide_true,decide_false]
  have hv5:zb6 (n0 + 5) (.vec (K.map EncE.cs ++ RR) 2 (zba y).length):=fun e he c hc => by
   rcases czv.1 he with h | h
   ·obtain ⟨x,_,rfl⟩:=czx.1 h
    exact zcO _ _ _ (EncE.ok x c hc) (by rw [zfU]; omega)
   ·rw [← hr] at h
    rw [(czL.1 h).2] at hc
    simp only [zqn,czn,czk,or_false] at hc
    rcases hc with rfl | rfl <;> simp [bel]
  have hqa:zdw y A = if K = [] then 11 else 0:=by unfold zdw; rw [if_neg (by simp [c0]),if_neg (by simp [q]),hK]
  refine ⟨fun e => ?_,fun e => ?_⟩
  ·have hKn:K = []:=List.eq_nil_of_length_eq_zero (by simpa using e)
   rw [if_pos hKn] at hqa
   simp (maxSteps:=4000000) only [go_sem,zae,zac,zad,zaq,zas,czb,cza,↓reduceIte,zaO,za6,zaz,zaA,zay,zaB,zaK,zau,zav,za5,zaa,onz,hQ0,hn0]
   obtain ⟨k,k1,k2,k3,k4⟩:=hbad _ _ 11 (by simp) hqa rfl
   exact ⟨k,k1,k2,k3,by simp [AV.bare,zal,zaN,zaS,zak,zat,zah,tokz1,lk,zab,za2],k4⟩
  ·have hKn:K ≠ []:=fun q => by simp [q] at e
   rw [if_neg hKn] at hqa
   simp (maxSteps:=4000000) only [go_sem,zae,zac,zad,zaq,zas,czb,cza,↓reduceIte,zaO,za6,zaz,zaA,zay,zaB,zaK,zau,zav,za5,zaa,onz,hQ0,hn0]
   refine ⟨n0 + 5,by omega,by simp [hn0],?_,by simp [AV.bare,zal,zaN,zaS,zak,zat,zah,tokz1,lk,zab,za2],?_⟩
   ·rw [cze (by simp [hn0])]
    unfold zmy
    rw [if_pos hqa,hn0]
    refine ⟨rfl,?_⟩
    unfold zix yC
    rw [hK,hr]
   ·rw [cze (by simp [hn0])]
    exact zce hm (by omega) ⟨zb8 y _,zb8 y _,by simp [AV.bare,zal,zaN,zaS,zak,zat,zah,tokz1,lk,zab,za2,-List.map_map],by simp [AV.bare,zal,zaN,zaS,zak,zat,zah,tokz1,lk,zab,za2],hv5,trivial⟩
 ·have hq:zdw y A = za9 y:=by unfold zdw; rw [if_pos c0]
  refine ⟨_,zea y h4 c0 hok1,?_⟩
  rintro r m ⟨rfl,rfl⟩ _
  simp (maxSteps:=4000000) only [go_sem,zae,zac,zad,zaq,zas,czb,cza,↓reduceIte,zaO,za6,zaz,zaA,zay,zaB,zaK,zau,zav,za5,zaa,onz,g0,hn0]
  rw [h1]; clear h1 Q1
  simp only [zaE,zam]
  simp (maxSteps:=4000000) only [go_sem,zae,zac,zad,zaq,zas,czb,cza,↓reduceIte,zaO,za6,zaz,zaA,zay,zaB,zaK,zau,zav,za5,zaa,onz,c0,hQ0,g0,hn0,decide_true,decide_false]
  obtain ⟨k,k1,k2,k3,k4⟩:=hbad _ _ _ c0 hq rfl
  exact ⟨k,k1,k2,k3,by simp [AV.bare,zal,zaN,zaS,zak,zat,zah,tokz1,lk,zab,za2],k4⟩
end
theorem zgg {y:Yd} (hv:VY y) {hs o:List Int} (hl:hs.length = hrs y) {c:Int} (h0:0 ≤ c) (h1:c < y.chairs.length):zfE y (zbH y.t hs) ⟨c,zb1 y o c⟩ = zdt y o hs c:=by
 unfold zfE zdt
 refine znU fun k hk => ?_
 have hh:=hv.hrs
 have hr:=(hv.at h0 h1).2.1
 unfold stayW zmz
 dsimp only
 rw [zv2 hv.h0 (by omega)]
 congr 1
 unfold zbH lvY
 dsimp only
 rw [zfY (by omega)]
 exact zqQ (by omega) (by omega)
theorem play_at {y:Yd} (hv:VY y) {hs o:List Int} (hl:hs.length = hrs y) {c:Int} (h0:0 ≤ c) (h1:c < y.chairs.length):at_ (zhZ y (zbH y.t hs) o) c.toNat = zdt y o hs c:=by
 unfold zhZ
 rw [zg6 _ (by omega),show ((c.toNat:Nat):Int) = c by omega]
 exact zgg hv hl h0 h1
theorem rightP_of {y:Yd} (hv:VY y) {hs:List Int} (hl:hs.length = hrs y) (out:List Int) {k:Nat} (hk:k < y.hires.length):zhQ y (zbH y.t hs) out k = (out.contains (k:Int) || zcX y hs k):=by
 have h:=hv.hi _ (zbh hk)
 have hh:=hv.hrs
 unfold zhQ zcX
 rw [play_at hv hl h.1.1 h.1.2,zg4 _ _ _ (by omega),show (((at_ y.hires k).hi.toNat:Nat):Int) = (at_ y.hires k).hi by omega]
theorem zoc {y:Yd} (hv:VY y) {hs:List Int} (hl:hs.length = hrs y) (out:List Int):zcp y (zbH y.t hs) out = (List.range y.hires.length).all fun k => out.contains (k:Int) || zcX y hs k:=by
 unfold zcp
 apply zdE
 intro k hk
 exact rightP_of hv hl out (by simpa using hk)
theorem zlN {y:Yd} (hv:VY y) {hs:List Int} (hl:hs.length = hrs y):zcp y (zbH y.t hs) [] = zc7 y hs:=by
 rw [zoc hv hl]
 unfold zc7
 apply zdE
 intro k _
 simp
theorem ziU {y:Yd} (hv:VY y) {p:List Int} (h:p ∈ zba y):p.length = hrs y:=zee hv (zit hv h)
theorem zrs {y:Yd} (hv:VY y):zep y = (zfi y).map (zbH y.t):=by
 unfold zep zfi
 rw [List.filter_map]
 congr 1
 apply List.filter_congr
 intro p hp
 exact zlN hv (ziU hv hp)
theorem kept_nil {y:Yd} (hv:VY y):zep y = [] ↔ zaV y = []:=by
 rw [zrs hv,List.map_eq_nil_iff,zjx hv]
def zdI (y:Yd) (a:Bool):Int:=if za9 y ≠ 0 then za9 y else if a = false then 2 else if zaV y = [] then 11 else 0
theorem zk4 (y:Yd) (a:Bool):zdw y a = zdI y a:=by
 unfold zdw zdI
 by_cases c:za9 y = 0
 ·have hv:=zg9 c
  simp only [kept_nil hv]
 ·simp [c]
theorem ziy {y:Yd} {a:Bool} (h:zdI y a = 0):VY y ∧ a = true ∧ zaV y ≠ [] ∧ zdw y a = 0 ∧ zep y = (zfi y).map (zbH y.t):=by
 have h':=h
 unfold zdI at h
 by_cases c:za9 y = 0
 ·have hv:=zg9 c
  simp only [c,ne_eq,not_true_eq_false,if_false] at h
  cases a
  ·simp at h
  ·simp only [Bool.true_eq_false,if_false] at h
   by_cases d:zaV y = []
   ·simp [d] at h
   ·exact ⟨hv,rfl,d,by rw [zk4,h'],zrs hv⟩
 ·rw [if_pos c] at h
  exact absurd h c
theorem zhF {y:Yd} (hv:VY y) {p:List Int} (h:p ∈ zfi y):p.length = hrs y:=by
 unfold zfi at h
 exact ziU hv (List.mem_filter.1 h).1
theorem work_len {y:Yd} (hv:VY y):(zfi y).length ≤ 2000:=by
 have:=zvU (y:=y) hv.fok.vok
 have:=List.length_filter_le (zc7 y) (zba y)
 unfold zfi
 omega
def hasR (s:Sy) (h:Int):Int:=if s.free.contains h = true then 1 else 0
inductive Qn8 where
 | free
 | has (h:Int)
instance:Enc Qn8 where
 enc
  | .free => .agg [.fn (.func 99) [] []]
  | .has h => .agg [.fn (.func 95) [] [.ref [.int .i64 h] 0]]
 dec
  | .agg [.fn (.func g) [] []] => if g = 99 then some .free else none
  | .agg [.fn (.func g) [] [.ref [.int .i64 h] 0]] => if g = 95 then some (.has h) else none
  | _ => none
 law v x h:=by
  split at h
  ·split at h
   ·rename_i e; cases h; rw [e]
   ·cases h
  ·split at h
   ·rename_i e; cases h; rw [e]
   ·cases h
  ·cases h
 dep:=4
 ok x:=by cases x <;> simp [zbq]
theorem enc_qn8_f:Enc.enc Qn8.free = .agg [.fn (.func 99) [] []]:=rfl
theorem enc_qn8_h (h:Int):Enc.enc (Qn8.has h) = .agg [.fn (.func 95) [] [.ref [.int .i64 h] 0]]:=rfl
theorem zbO:(Enc.dec (.agg [.fn (.func 99) [] []]):Option Qn8) = some .free:=rfl
theorem zbN (h:Int):(Enc.dec (.agg [.fn (.func 95) [] [.ref [.int .i64 h] 0]]):Option Qn8) = some (.has h):=rfl
theorem zmE (s:Sy) (h:s.free.length ≤ 4096):zaQ Tryz.prog 99 [Enc.enc s] (· = Enc.enc ((s.free.length:Nat):Int)):=by
 simp only [zbz]
 refine cpz zgO Tryz.func99 zaD ?_
 rw [Tryz.ntmps99]
 simp only [Tryz.f99,zag,zap]
 simp (maxSteps:=4000000) only [go_sem,AV.one,zae,zac,zad,zaq,zas,zab,czb,cza,↓reduceIte,zaU,zbO,zbN,zbe,zaa,onz]
theorem has8_call (s:Sy) (h:RefC Int) (hl:s.free.length ≤ 4096):zaQ Tryz.prog 95 [Enc.enc s,Enc.enc h] (· = Enc.enc (hasR s h.x)):=by
 obtain ⟨h⟩:=h
 unfold hasR
 simp only [zeu]
 cases c:s.free.contains h
 ·simp only [zbz]
  refine cpz zgO Tryz.func95 zaD ?_
  rw [Tryz.ntmps95]
  simp only [Tryz.f95,zag,zap]
  simp (maxSteps:=4000000) only [go_sem,AV.one,zae,zac,zad,zaq,zas,zab,czb,cza,↓reduceIte,zaU,zbO,zbN,zbe,zaa,onz,c]
  all_goals exact auz
 ·simp only [zbz]
  refine cpz zgO Tryz.func95 zaD ?_
  rw [Tryz.ntmps95]
  simp only [Tryz.f95,zag,zap]
  simp (maxSteps:=4000000) only [go_sem,AV.one,zae,zac,zad,zaq,zas,zab,czb,cza,↓reduceIte,zaU,zbO,zbN,zbe,zaa,onz,c]
  all_goals exact auz
def P129 (g:FuncId):=(zaw 99 (zct (fun s:Sy => s.free.length ≤ 4096) (fun s => ((s.free.length:Nat):Int))) (zaw 95 (zbC (fun (s:Sy) (_:RefC Int) => s.free.length ≤ 4096) (fun s h => hasR s h.x)) (P127)):zaL) g
theorem zsA:zaC Tryz.prog P129:=zaj (zbf zmE) (zaj (zaM has8_call) (zgO))
theorem zpU (d:Option Nat):zaI P129 d = none:=(zai (by decide) d).trans ((zai (by decide) d).trans (zpV d))
attribute [go_sem] P129 zpU
def Qn8.ask (q:Qn8) (s:Sy):Int :=
 match q with
 | .free => (s.free.length:Nat)
 | .has h => hasR s h
def bW (q:Qn8) (y:Yd) (b c:Int) (r:Rg) (s:Sea):Rg:=zdi r (q.ask (zfE y s ⟨c,b⟩))
def zdr (q:Qn8) (w:W8) (o:List Int) (c:Int):Rg:=w.ts.foldl (bW q w.y (zb1 w.y o c) c) ⟨q.ask (zfE w.y (at_ w.ts 0) ⟨c,zb1 w.y o c⟩),q.ask (zfE w.y (at_ w.ts 0) ⟨c,zb1 w.y o c⟩)⟩
structure zwN (w:W8):Prop where
 vy:VY w.y
 ys:∀ s ∈ w.ts,YS w.y s
 l1:w.ts.length ≤ 4096
theorem zpa (q:Qn8) (w:W8) (o:List Int) (c:Int) (h:(zwN w ∧ 0 < w.ts.length) ∧ o.length ≤ 4096 ∧ 0 ≤ c ∧ c < w.y.chairs.length):zaQ Tryz.prog 97 [Enc.enc q,Enc.enc w,Enc.enc o,Enc.enc c] (· = Enc.enc (zdr q w o c)):=by
 obtain ⟨⟨hw,h1⟩,ho,hc0,hc1⟩:=h
 obtain ⟨y,ts⟩:=w
 obtain ⟨hv,hys,hl⟩:=hw
 dsimp only at hv hys hl h1 hc1
 have hb1:=hv.l0
 have hb2:=hv.h0
 have hb3:=hv.h5
 have hh:=hv.hrs
 have h0:=zax (f:=EncE.cs) h1
 have h1':(0:Int) < ts.length:=by omega
 obtain ⟨b,hb⟩:∃ b,zb1 y o c = b:=⟨_,rfl⟩
 have hp0:=(hys _ (zbh h1)).pre (b:=b) hc0 hc1
 have hfl:∀ s,(zfE y s ⟨c,b⟩).free.length ≤ 4096:=fun s => by have:=zlH y s ⟨c,b⟩; omega
 have hf0:=hfl (at_ ts 0)
 unfold zdr
 simp only [zbe,w8C,hb]
 cases q with
 | free =>
  simp only [enc_qn8_f]
  simp only [zbz]
  refine cpz zsA Tryz.func97 zaD ?_
  rw [Tryz.ntmps97]
  simp only [Tryz.f97,zag,zap]
  simp (maxSteps:=4000000) only [go_sem,zae,zac,zad,zaq,zas,zab,czb,cza,↓reduceIte,zaU,zbO,zbN,zbe,zaa,onz,h0,h1',hb]
  all_goals (repeat' first | (with_reducible first | rfl | apply And.intro | assumption) | ((with_reducible show zaf _ _ = true); rfl)) <;> try first | omega | (simp only [InR]; omega)
  refine zbv (ts.length) [] [1,4,8,9,11,44,45] (fun i => [(46,.int .i64 i)]) (fun i m => m.set 3 (.cells (EncE.cs ((ts.take i).foldl (bW Qn8.free y b c) ⟨Qn8.ask Qn8.free (zfE y (at_ ts 0) ⟨c,b⟩),Qn8.ask Qn8.free (zfE y (at_ ts 0) ⟨c,b⟩)⟩)))) (fun _ => True) ?_ ?_ ?_ ?_
  ·trivial
  ·simp [AV.bare,zal,zaN,zaS,zak,zat,zah,tokz1,lk,zab,za2,Qn8.ask]
  ·intro i hi _
   have hpi:=(hys _ (zbh hi)).pre (b:=b) hc0 hc1
   have hfi:=hfl (at_ ts i)
   simp (maxSteps:=4000000) only [go_sem,zae,zac,zad,zaq,zas,zab,czb,cza,↓reduceIte,zaU,zbO,zbN,zbe,zaa,onz,zax hi,czH.2 hi,hb]
   all_goals (repeat' first | (with_reducible first | rfl | apply And.intro | assumption) | ((with_reducible show zaf _ _ = true); rfl)) <;> try first | omega | (simp only [InR]; omega)
   refine nxt hi trivial ?_
   simp [AV.bare,zal,zaN,zaS,zak,zat,zah,tokz1,lk,zab,za2,zoU hi,Qn8.ask,bW]
  ·intro _
   simp (maxSteps:=4000000) only [go_sem,zae,zac,zad,zaq,zas,zab,czb,cza,↓reduceIte,zaU,zbO,zbN,zbe,zaa,onz,czm]
 | has k =>
  simp only [enc_qn8_h]
  simp only [zbz]
  refine cpz zsA Tryz.func97 zaD ?_
  rw [Tryz.ntmps97]
  simp only [Tryz.f97,zag,zap]
  simp (maxSteps:=4000000) only [go_sem,zae,zac,zad,zaq,zas,zab,czb,cza,↓reduceIte,zaU,zbO,zbN,zbe,zaa,onz,h0,h1',hb]
  all_goals (repeat' first | (with_reducible first | rfl | apply And.intro | assumption) | ((with_reducible show zaf _ _ = true); rfl)) <;> try first | omega | (simp only [InR]; omega)
  refine zbv (ts.length) [] [1,4,8,9,11,44,45] (fun i => [(46,.int .i64 i)]) (fun i m => m.set 3 (.cells (EncE.cs ((ts.take i).foldl (bW (Qn8.has k) y b c) ⟨Qn8.ask (Qn8.has k) (zfE y (at_ ts 0) ⟨c,b⟩),Qn8.ask (Qn8.has k) (zfE y (at_ ts 0) ⟨c,b⟩)⟩)))) (fun _ => True) ?_ ?_ ?_ ?_
  ·trivial
  ·simp [AV.bare,zal,zaN,zaS,zak,zat,zah,tokz1,lk,zab,za2,Qn8.ask]
  ·intro i hi _
   have hpi:=(hys _ (zbh hi)).pre (b:=b) hc0 hc1
   have hfi:=hfl (at_ ts i)
   simp (maxSteps:=4000000) only [go_sem,zae,zac,zad,zaq,zas,zab,czb,cza,↓reduceIte,zaU,zbO,zbN,zbe,zaa,onz,zax hi,czH.2 hi,hb]
   all_goals (repeat' first | (with_reducible first | rfl | apply And.intro | assumption) | ((with_reducible show zaf _ _ = true); rfl)) <;> try first | omega | (simp only [InR]; omega)
   refine nxt hi trivial ?_
   simp [AV.bare,zal,zaN,zaS,zak,zat,zah,tokz1,lk,zab,za2,zoU hi,Qn8.ask,bW]
  ·intro _
   simp (maxSteps:=4000000) only [go_sem,zae,zac,zad,zaq,zas,zab,czb,cza,↓reduceIte,zaU,zbO,zbN,zbe,zaa,onz,czm]
def P130 (g:FuncId):=(zaw 97 (zjm (fun (q:Qn8) (w:W8) (o:List Int) (c:Int) => (zwN w ∧ 0 < w.ts.length) ∧ o.length ≤ 4096 ∧ 0 ≤ c ∧ c < w.y.chairs.length) zdr) (P129):zaL) g
theorem zsz:zaC Tryz.prog P130:=zaj (zer zpa) (zsA)
theorem zpT (d:Option Nat):zaI P130 d = none:=(zai (by decide) d).trans (zpU d)
attribute [go_sem] P130 zpT
end Go.Proofs
