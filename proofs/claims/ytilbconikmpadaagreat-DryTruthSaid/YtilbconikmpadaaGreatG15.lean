/- The texts H11, H12, H13, H14, joined. -/
import Derived.Test.YtilbconikmpadaaGreatG14
set_option linter.all false
namespace Go.Proofs
open Go.Fs
set_option maxHeartbeats 4000000
set_option maxRecDepth 8000
inductive FnFine where
 | hours (y:Yd) (o:List Int) (c:Int)
 | free (y:Yd) (o:List Int) (c h:Int)
 | lost (y:Yd) (o:List Int)
 | best
def FnFine.ask:FnFine → Bool
 | .hours y o c => za2 y.chairs.length o && inB c 0 ((y.chairs.length:Int) - 1)
 | .free y o c h => za2 y.chairs.length o && inB c 0 ((y.chairs.length:Int) - 1) && inB h 0 y.t.last
 | .lost y o => za2 y.chairs.length o
 | .best => true
def FnFine.ok (z:Yd):FnFine → Prop
 | .hours y o c => y = z ∧ o.length ≤ 4096
 | .free y o c h => y = z ∧ o.length ≤ 4096
 | .lost y o => y = z ∧ o.length ≤ 4096
 | .best => True
def FnFine.av:FnFine → AV
 | .hours y o c => .fn (.func 98) [] [.ref (ydC y) 0,.ref [.sl (o.map EncE.cs) .no] 0,.ref [.int .i64 c] 0]
 | .free y o c h => .fn (.func 92) [] [.ref (ydC y) 0,.ref [.sl (o.map EncE.cs) .no] 0,.ref [.int .i64 c] 0,.ref [.int .i64 h] 0]
 | .lost y o => .fn (.func 102) [] [.ref (ydC y) 0,.ref [.sl (o.map EncE.cs) .no] 0]
 | .best => .fn (.func 106) [] []
def zjh:AV → Option FnFine
 | .fn (.func g) [] [.ref a 0,.ref [.sl o .no] 0,.ref [.int .i64 c] 0] =>
  if g = 98 then match zjY a,(zdS o:Option (List Int)) with
   | some y,some o => some (.hours y o c)
   | _,_ => none
  else none
 | .fn (.func g) [] [.ref a 0,.ref [.sl o .no] 0,.ref [.int .i64 c] 0,.ref [.int .i64 h] 0] =>
  if g = 92 then match zjY a,(zdS o:Option (List Int)) with
   | some y,some o => some (.free y o c h)
   | _,_ => none
  else none
 | .fn (.func g) [] [.ref a 0,.ref [.sl o .no] 0] =>
  if g = 102 then match zjY a,(zdS o:Option (List Int)) with
   | some y,some o => some (.lost y o)
   | _,_ => none
  else none
 | .fn (.func g) [] [] => if g = 106 then some .best else none
 | _ => none
theorem zsy {v:AV} {f:FnFine} (h:zjh v = some f):v = f.av:=by
 unfold zjh at h
 split at h
 ·split at h
  ·rename_i e
   split at h
   ·rename_i h1 h2
    cases h
    rw [e,zfM h1,zbw _ _ h2]; rfl
   ·cases h
  ·cases h
 ·split at h
  ·rename_i e
   split at h
   ·rename_i h1 h2
    cases h
    rw [e,zfM h1,zbw _ _ h2]; rfl
   ·cases h
  ·cases h
 ·split at h
  ·rename_i e
   split at h
   ·rename_i h1 h2
    cases h
    rw [e,zfM h1,zbw _ _ h2]; rfl
   ·cases h
  ·cases h
 ·split at h
  ·rename_i e; cases h; rw [e]; rfl
  ·cases h
 ·cases h
theorem zfX:∀ (n m:Nat) (v:AV),zbt n v → n ≤ m → zbt m v:=by
 intro n
 induction n with
 | zero => intro m v h; simp [zbt] at h
 | succ n ih =>
  intro m v h hm
  obtain ⟨m,rfl⟩:∃ k,m = k + 1:=⟨m - 1,by omega⟩
  cases v <;> simp only [zbt] at h ⊢
  ·exact fun c hc => ih m c (h c hc) (by omega)
  ·exact fun c hc => ih m c (h c hc) (by omega)
  ·exact ⟨h.1,fun e he c hc => ih m c (h.2 e he c hc) (by omega)⟩
  ·exact fun c hc => ih m c (h c hc) (by omega)
  ·exact ⟨fun c hc => ih m c (h.1 c hc) (by omega),fun c hc => ih m c (h.2 c hc) (by omega)⟩
  ·exact fun c hc => ih m c (h c hc) (by omega)
theorem fine_pure (f:FnFine):zbt 5 f.av:=by
 have hy:∀ y:Yd,zbt 4 (.ref (ydC y) 0):=fun y c hc => zfX 2 3 c (zfS y c hc) (by omega)
 have ho:∀ o:List Int,zbt 4 (.ref [.sl (o.map EncE.cs) .no] 0):=fun o c hc => by
  simp only [czn,czk,or_false] at hc
  subst hc
  refine ⟨rfl,fun e he c hc => ?_⟩
  obtain ⟨x,_,rfl⟩:=czx.1 he
  exact zfX 1 2 c (EncE.ok x c hc) (by omega)
 have hi:∀ n:Int,zbt 4 (.ref [.int .i64 n] 0):=fun n c hc => by
  simp only [czn,czk,or_false] at hc
  subst hc
  trivial
 cases f with
 | hours y o c =>
  refine ⟨fun _ h => (by cases h),fun a ha => ?_⟩
  simp only [czn,czk,or_false] at ha
  rcases ha with rfl | rfl | rfl
  ·exact hy y
  ·exact ho o
  ·exact hi c
 | free y o c h =>
  refine ⟨fun _ h => (by cases h),fun a ha => ?_⟩
  simp only [czn,czk,or_false] at ha
  rcases ha with rfl | rfl | rfl | rfl
  ·exact hy y
  ·exact ho o
  ·exact hi c
  ·exact hi h
 | lost y o =>
  refine ⟨fun _ h => (by cases h),fun a ha => ?_⟩
  simp only [czn,czk,or_false] at ha
  rcases ha with rfl | rfl
  ·exact hy y
  ·exact ho o
 | best => exact ⟨fun _ h => (by cases h),fun _ h => (by cases h)⟩
instance:Enc FnFine where
 enc f:=f.av
 dec:=zjh
 law v x h:=zsy h
 dep:=5
 ok:=fine_pure
theorem zaz (y:Yd) (o:List Int) (c:Int):(Enc.dec (.fn (.func 98) [] [.ref [.int .i64 y.t.last,.sl (y.t.heights.map EncE.cs) .no,.int .i64 y.t.step,.sl (y.t.levels.map EncE.cs) .no,.sl (y.t.marks.map EncE.cs) .no,.int .i64 y.hands,.sl (y.chairs.map EncE.cs) .no,.sl (y.order.map EncE.cs) .no,.sl (y.hires.map EncE.cs) .no] 0,.ref [.sl (o.map EncE.cs) .no] 0,.ref [.int .i64 c] 0]):Option FnFine) = some (.hours y o c):=by
 have e1:=zlp y
 have e2:=zdD o
 rw [ydC] at e1
 simp only [Enc.dec,zjh,if_true,e1,e2]
theorem zaA (y:Yd) (o:List Int) (c h:Int):(Enc.dec (.fn (.func 92) [] [.ref [.int .i64 y.t.last,.sl (y.t.heights.map EncE.cs) .no,.int .i64 y.t.step,.sl (y.t.levels.map EncE.cs) .no,.sl (y.t.marks.map EncE.cs) .no,.int .i64 y.hands,.sl (y.chairs.map EncE.cs) .no,.sl (y.order.map EncE.cs) .no,.sl (y.hires.map EncE.cs) .no] 0,.ref [.sl (o.map EncE.cs) .no] 0,.ref [.int .i64 c] 0,.ref [.int .i64 h] 0]):Option FnFine) = some (.free y o c h):=by
 have e1:=zlp y
 have e2:=zdD o
 rw [ydC] at e1
 simp only [Enc.dec,zjh,if_true,e1,e2]
theorem zay (y:Yd) (o:List Int):(Enc.dec (.fn (.func 102) [] [.ref [.int .i64 y.t.last,.sl (y.t.heights.map EncE.cs) .no,.int .i64 y.t.step,.sl (y.t.levels.map EncE.cs) .no,.sl (y.t.marks.map EncE.cs) .no,.int .i64 y.hands,.sl (y.chairs.map EncE.cs) .no,.sl (y.order.map EncE.cs) .no,.sl (y.hires.map EncE.cs) .no] 0,.ref [.sl (o.map EncE.cs) .no] 0]):Option FnFine) = some (.lost y o):=by
 have e1:=zlp y
 have e2:=zdD o
 rw [ydC] at e1
 simp only [Enc.dec,zjh,if_true,e1,e2]
theorem zaB:(Enc.dec (.fn (.func 106) [] []):Option FnFine) = some .best:=rfl
theorem za7 (f:FnFine):Enc.enc f = f.av:=rfl
theorem zr9 (f:RefYd) (o:RefC (List Int)) (c:RefC Int) (h:f.y.chairs.length ≤ 4096 ∧ o.x.length ≤ 4096):zaU Tryz.prog 98 [Enc.enc f,Enc.enc o,Enc.enc c] (· = Enc.enc (FnFine.hours f.y o.x c.x).ask):=by
 obtain ⟨y⟩:=f
 obtain ⟨o⟩:=o
 obtain ⟨c⟩:=c
 simp only [zaM,ydC,zeL,FnFine.ask]
 have h1:=h.1
 have h2:=h.2
 dsimp only at h1 h2
 simp only [zbY]
 refine cpz zjo Tryz.func98 zaF ?_
 rw [Tryz.ntmps98]
 simp only [Tryz.f98,zah,zaq]
 simp (maxSteps:=4000000) only [go_sem,AV.one,zae,zac,zad,zap,zas,zab,czb,cza,↓reduceIte,zaO,zaz,zaA,zay,zaB,zaM,zaa,onz]
 all_goals (repeat' first | (with_reducible first | rfl | apply And.intro | assumption) | ((with_reducible show zaf _ _ = true); rfl)) <;> try first | omega | (simp only [InR]; omega)
 all_goals first | exact fun q => ⟨q,h1⟩ | skip
theorem zwq (f:RefYd) (o:RefC (List Int)) (c k:RefC Int) (h:f.y.chairs.length ≤ 4096 ∧ o.x.length ≤ 4096):zaU Tryz.prog 92 [Enc.enc f,Enc.enc o,Enc.enc c,Enc.enc k] (· = Enc.enc (FnFine.free f.y o.x c.x k.x).ask):=by
 obtain ⟨y⟩:=f
 obtain ⟨o⟩:=o
 obtain ⟨c⟩:=c
 obtain ⟨k⟩:=k
 simp only [zaM,ydC,zeL,FnFine.ask]
 have h1:=h.1
 have h2:=h.2
 dsimp only at h1 h2
 simp only [zbY]
 refine cpz zjo Tryz.func92 zaF ?_
 rw [Tryz.ntmps92]
 simp only [Tryz.f92,zah,zaq]
 simp (maxSteps:=4000000) only [go_sem,AV.one,zae,zac,zad,zap,zas,zab,czb,cza,↓reduceIte,zaO,zaz,zaA,zay,zaB,zaM,zaa,onz]
 all_goals (repeat' first | (with_reducible first | rfl | apply And.intro | assumption) | ((with_reducible show zaf _ _ = true); rfl)) <;> try first | omega | (simp only [InR]; omega)
 all_goals first | exact fun q => ⟨q,h1⟩ | skip
theorem zv5 (f:RefYd) (o:RefC (List Int)) (h:f.y.chairs.length ≤ 4096 ∧ o.x.length ≤ 4096):zaU Tryz.prog 102 [Enc.enc f,Enc.enc o] (· = Enc.enc (FnFine.lost f.y o.x).ask):=by
 obtain ⟨y⟩:=f
 obtain ⟨o⟩:=o
 simp only [zaM,ydC,zeL,FnFine.ask]
 have h1:=h.1
 have h2:=h.2
 dsimp only at h1 h2
 simp only [zbY]
 refine cpz zjo Tryz.func102 zaF ?_
 rw [Tryz.ntmps102]
 simp only [Tryz.f102,zah,zaq]
 simp (maxSteps:=4000000) only [go_sem,AV.one,zae,zac,zad,zap,zas,zab,czb,cza,↓reduceIte,zaO,zaz,zaA,zay,zaB,zaM,zaa,onz]
 all_goals (repeat' first | (with_reducible first | rfl | apply And.intro | assumption) | ((with_reducible show zaf _ _ = true); rfl)) <;> try first | omega | (simp only [InR]; omega)
 all_goals first | exact fun q => ⟨q,h1⟩ | skip
theorem zwO:zaU Tryz.prog 106 [] (· = Enc.enc true):=by
 simp only [zbY]
 refine cpz zjo Tryz.func106 zaF ?_
 rw [Tryz.ntmps106]
 simp only [Tryz.f106,zah,zaq]
 simp (maxSteps:=4000000) only [go_sem,AV.one,zae,zac,zad,zap,zas,zab,czb,cza,↓reduceIte,zaO,zaz,zaA,zay,zaB,zaM,zaa,onz]
def P127 (g:FuncId):=(zax 98 (zeB (fun (f:RefYd) (o:RefC (List Int)) (c:RefC Int) => f.y.chairs.length ≤ 4096 ∧ o.x.length ≤ 4096) (fun f o c => (FnFine.hours f.y o.x c.x).ask)) (zax 92 (zjT (fun (f:RefYd) (o:RefC (List Int)) (c _:RefC Int) => f.y.chairs.length ≤ 4096 ∧ o.x.length ≤ 4096) (fun f o c k => (FnFine.free f.y o.x c.x k.x).ask)) (zax 102 (zbL (fun (f:RefYd) (o:RefC (List Int)) => f.y.chairs.length ≤ 4096 ∧ o.x.length ≤ 4096) (fun f o => (FnFine.lost f.y o.x).ask)) (zax 106 (zre true) (P126)))):zaN) g
theorem zha:zaD Tryz.prog P127:=zaj (zcc zr9) (zaj (zeJ zwq) (zaj (zaR zv5) (zaj (zj6 zwO) (zjo))))
theorem zqw (d:Option Nat):zaK P127 d = none:=(zai (by decide) d).trans ((zai (by decide) d).trans ((zai (by decide) d).trans ((zai (by decide) d).trans (zqx d))))
attribute [go_sem] P127 zqw
def zeD (y:Yd):List Sea:=((zbd y).map (zbP y.t)).filter fun x => zcB y x []
def zdH (y:Yd) (a:Bool):Int:=if zbB y ≠ 0 then zbB y else if a = false then 2 else if zeD y = [] then 11 else 0
def yC (y:Yd):AObj:=.cells [.int .i64 y.t.last,.sl (y.t.heights.map EncE.cs) .no,.int .i64 y.t.step,.sl (y.t.levels.map EncE.cs) .no,.sl (y.t.marks.map EncE.cs) .no,.int .i64 y.hands,.sl (y.chairs.map EncE.cs) .no,.sl (y.order.map EncE.cs) .no,.sl (y.hires.map EncE.cs) .no]
def ziX (y:Yd) (n0:Nat):List AObj:=[yC y,yC y,
 .cells [.int .i64 y.t.last,.sl (y.t.heights.map EncE.cs) .no,.int .i64 y.t.step,.sl (y.t.levels.map EncE.cs) .no,.sl (y.t.marks.map EncE.cs) .no,.int .i64 y.hands,.sl (y.chairs.map EncE.cs) .no,.sl (y.order.map EncE.cs) .no,.sl (y.hires.map EncE.cs) .no,.vec (n0 + 4) (zbd y).length 0 (zeD y).length 2],
 .cells [.ptr (n0 + 2) 0],.vec ((zeD y).map EncE.cs ++ List.replicate ((zbd y).length - (zeD y).length) zqZ) 2 (zbd y).length]
def znc (y:Yd) (a:Bool) (mem:List AObj) (r:AV) (m:List AObj):Prop :=
 if zdH y a = 0 then r = .tup [.ptr (mem.length + 2) 0,.int .i64 0] ∧ m = mem ++ ziX y mem.length else r = .tup [.nilp,.int .i64 (zdH y a)] ∧ m = mem
theorem zcf (y:Yd) (k:Nat):zcd k (yC y):=fun c hc => zc1 _ _ _ (zfS y c hc) (by omega)
theorem askW {y:Yd} (hv:VY y):∀ x ∈ (zbd y).map (zbP y.t),YS y x:=fun x hx => by
 obtain ⟨p,_,rfl⟩:=czx.1 hx
 exact ys_of hv p
theorem zfN {y:Yd} (hv:VY y):(zbd y).length ≤ 4096:=by
 have h1:(zbd y).length ≤ (zmq y.t).length:=by
  have:=zkp y (zmq y.t) []
  simpa [zbd] using this
 have:=znq hv.fok.vok
 omega
section
variable {mem:List AObj} (y:Yd)
theorem askedh (o:List Int) (c:Int) {b0 b1 b2:Nat} (h4:y.t.heights.length ≤ 4096 ∧ y.order.length ≤ 4096) (m0:zab mem b0 = yC y) (m1:zab mem b1 = .cells [.sl (o.map EncE.cs) .no]) (m2:zab mem b2 = .cells [.int .i64 c]) (ho:o.length ≤ 4096) (hm:∀ o ∈ mem,zcd mem.length o) :
  zfs Tryz.prog 91 [.agg (ydC y),.fn (.func 98) [] [.ptr b0 0,.ptr b1 0,.ptr b2 0]] mem (znc y (FnFine.hours y o c).ask mem):=by
 obtain ⟨A,hA⟩:∃ A,(FnFine.hours y o c).ask = A:=⟨_,rfl⟩
 rw [hA]
 obtain ⟨n0,hn0⟩:∃ n0,mem.length = n0:=⟨_,rfl⟩
 rw [hn0] at hm
 unfold yC at m0
 have q0:=zbi m0 (by simp)
 have e0:∀ r,zab (mem ++ r) b0 = _:=fun r => (zaW (by omega)).trans m0
 have q1:=zbi m1 (by simp)
 have e1:∀ r,zab (mem ++ r) b1 = _:=fun r => (zaW (by omega)).trans m1
 have q2:=zbi m2 (by simp)
 have e2:∀ r,zab (mem ++ r) b2 = _:=fun r => (zaW (by omega)).trans m2
 have g0:∀ r,zab (mem ++ r) n0 = zab r 0:=fun r => by rw [← hn0]; exact zaQ _ _ 0
 have gk:∀ r k,zab (mem ++ r) (n0 + k) = zab r k:=fun r k => by rw [← hn0]; exact zaQ _ _ k
 have s0:∀ r o,(mem ++ r).set n0 o = mem ++ r.set 0 o:=fun r o => by rw [← hn0]; exact zb2 _ _ 0 _
 have sk:∀ r k o,(mem ++ r).set (n0 + k) o = mem ++ r.set k o:=fun r k o => by rw [← hn0]; exact zb2 _ _ k _
 have hl1:∀ o:AObj,(mem ++ [o]).length = n0 + 1:=fun o => by simp [hn0]
 have hok1:∀ o ∈ mem ++ [yC y],zcd (mem ++ [yC y]).length o:=by
  rw [hl1]
  exact zcl hm (by omega) ⟨zcf y _,trivial⟩
 have hbad:∀ (m:List AObj) (a:List AObj) e,e ≠ 0 → zdH y A = e → m = mem ++ a → ∃ k,n0 ≤ k ∧ k ≤ m.length ∧ znc y A mem (.tup [.nilp,.int .i64 e]) (m.take k) ∧ (∀ o ∈ m.take k,zcd k o):=fun m a e he hq hm' => by
  subst hm'
  refine ⟨n0,czf _,by simp [hn0],?_,?_⟩
  ·rw [List.take_left' hn0]
   unfold znc
   rw [hq,if_neg he]
   exact ⟨rfl,rfl⟩
  ·rw [List.take_left' hn0]; exact hm
 refine zb5 (Φ:=P127) Tryz.func91 rfl (by rfl) (by rw [Tryz.ntmps91]; simp) zaF zha ?_
 rw [Tryz.ntmps91]
 simp only [Tryz.f91,zah,zaq,ydC]
 refine zlU fun Q0 hQ0 => ?_
 refine zar fun Q1 h1 => ?_
 simp (maxSteps:=4000000) only [go_sem,zae,zac,zad,zap,zas,czb,cza,↓reduceIte,zaO,za9,zaz,zaA,zay,zaB,zaM,zav,zaw,za7,zaa,onz,g0,hn0]
 all_goals (repeat' first | (with_reducible first | rfl | apply And.intro | assumption) | ((with_reducible show zaf _ _ = true); rfl)) <;> try first | omega | (simp only [InR]; omega)
 rw [h1]; clear h1 Q1; simp only [zaG,zan]
 refine zar fun Q1 h1 => ?_
 simp (maxSteps:=4000000) only [go_sem,zae,zac,zad,zap,zas,czb,cza,↓reduceIte,zaO,za9,zaz,zaA,zay,zaB,zaM,zav,zaw,za7,zaa,onz,g0,hn0]
 by_cases c0:zbB y = 0
 ·have hv:=zhG c0
  have h5:=hv.c5
  have hcl:=zfN hv
  refine ⟨_,zeT y hv hok1,?_⟩
  rintro r m ⟨rfl,rfl⟩ _
  rw [hl1]
  simp (maxSteps:=4000000) only [go_sem,zae,zac,zad,zap,zas,czb,cza,↓reduceIte,zaO,za9,zaz,zaA,zay,zaB,zaM,zav,zaw,za7,zaa,onz,g0,hn0]
  rw [h1]; clear h1 Q1
  simp only [zaG,zan]
  unfold zcH
  simp only [czd,czs,List.nil_append,Nat.add_assoc,Nat.reduceAdd]
  have hD:=zfn (mem:=mem ++ (yC y :: zcH y (n0 + 1) (zbd y))) (v:=n0 + 4) (s:=(zbd y).length) (b:=n0) y ((zbd y).map (zbP y.t)) (askW hv) (by rw [czz]; exact hcl) (by rw [gk]; rfl) (by rw [g0]; rfl)
  have hn5:(mem ++ (yC y :: zcH y (n0 + 1) (zbd y))).length = n0 + 5:=by simp [hn0,zcH]
  have hok5:∀ o ∈ mem ++ (yC y :: zcH y (n0 + 1) (zbd y)),zcd (mem ++ (yC y :: zcH y (n0 + 1) (zbd y))).length o:=by
   rw [hn5]
   refine zcl hm (by omega) ⟨zcf y _,?_⟩
   simp [AV.bare,zal,zaP,zaS,zak,zau,zag,tokz1,lk,zab,za4,zcH,-List.map_map]
   try omega
  have hD:=hD hok5
  rw [sk] at hD
  have hk:(((zbd y).map (zbP y.t)).filter fun x => zcB y x []) = zeD y:=rfl
  rw [hk] at hD
  obtain ⟨K,hK⟩:∃ K,zeD y = K:=⟨_,rfl⟩
  rw [hK] at hD
  have htk:∀ r,(K.map EncE.cs ++ r).take K.length = K.map (EncE.cs (α:=Sea)):=fun r => List.take_left' (by simp)
  simp only [czz] at hD
  refine zar fun Q1 h1 => ?_
  simp (maxSteps:=4000000) only [go_sem,zae,zac,zad,zap,zas,czb,cza,↓reduceIte,zaO,za9,zaz,zaA,zay,zaB,zaM,zav,zaw,za7,zaa,onz,g0,gk,s0,sk,hn0,e0,e1,e2,czd,czs,czc]
  all_goals (repeat' first | (with_reducible first | rfl | apply And.intro | assumption) | ((with_reducible show zaf _ _ = true); rfl)) <;> try first | omega | (simp only [InR]; omega)
  rw [h1]; clear h1 Q1; simp only [zaG,zan]
  simp (maxSteps:=4000000) only [go_sem,zae,zac,zad,zap,zas,czb,cza,↓reduceIte,zaO,za9,zaz,zaA,zay,zaB,zaM,zav,zaw,za7,zaa,onz,hA,g0,gk,s0,sk,hn0,e0,e1,e2,czd,czs,czc,decide_true,decide_false]
  refine ⟨⟨by omega,ho⟩,fun q => ?_,fun q => ⟨_,hD,?_⟩⟩
  ·have hq:zdH y A = 2:=by unfold zdH; rw [if_neg (by simp [c0]),if_pos q]
   simp (maxSteps:=4000000) only [go_sem,zae,zac,zad,zap,zas,czb,cza,↓reduceIte,zaO,za9,zaz,zaA,zay,zaB,zaM,zav,zaw,za7,zaa,onz,hQ0,hn0]
   obtain ⟨k,k1,k2,k3,k4⟩:=hbad _ _ 2 (by simp) hq rfl
   exact ⟨k,k1,k2,k3,by simp [AV.bare,zal,zaP,zaS,zak,zau,zag,tokz1,lk,zab,za4],k4⟩
  rintro r m ⟨rfl,rfl⟩ _
  unfold zcH yC
  generalize hr:List.replicate ((zbd y).length - K.length) zqZ = RR
  clear hD
  simp (maxSteps:=4000000) only [go_sem,zae,zac,zad,zap,zas,czb,cza,↓reduceIte,zaO,za9,zaz,zaA,zay,zaB,zaM,zav,zaw,za7,zaa,onz,htk,g0,gk,s0,sk,hn0,e0,e1,e2,czd,czs,czc,czz,List.set_cons_succ,List.set_cons_zero,decide_true,decide_false]
  have hv5:zcd (n0 + 5) (.vec (K.map EncE.cs ++ RR) 2 (zbd y).length):=fun e he c hc => by
   rcases czv.1 he with h | h
   ·obtain ⟨x,_,rfl⟩:=czx.1 h
    exact zc1 _ _ _ (EncE.ok x c hc) (by rw [zf7]; omega)
   ·rw [← hr] at h
    rw [(czL.1 h).2] at hc
    simp only [zqZ,czn,czk,or_false] at hc
    rcases hc with rfl | rfl <;> simp [bel]
  have hqa:zdH y A = if K = [] then 11 else 0:=by unfold zdH; rw [if_neg (by simp [c0]),if_neg (by simp [q]),hK]
  refine ⟨fun e => ?_,fun e => ?_⟩
  ·have hKn:K = []:=List.eq_nil_of_length_eq_zero (by simpa using e)
   rw [if_pos hKn] at hqa
   simp (maxSteps:=4000000) only [go_sem,zae,zac,zad,zap,zas,czb,cza,↓reduceIte,zaO,za9,zaz,zaA,zay,zaB,zaM,zav,zaw,za7,zaa,onz,hQ0,hn0]
   obtain ⟨k,k1,k2,k3,k4⟩:=hbad _ _ 11 (by simp) hqa rfl
   exact ⟨k,k1,k2,k3,by simp [AV.bare,zal,zaP,zaS,zak,zau,zag,tokz1,lk,zab,za4],k4⟩
  ·have hKn:K ≠ []:=fun q => by simp [q] at e
   rw [if_neg hKn] at hqa
   simp (maxSteps:=4000000) only [go_sem,zae,zac,zad,zap,zas,czb,cza,↓reduceIte,zaO,za9,zaz,zaA,zay,zaB,zaM,zav,zaw,za7,zaa,onz,hQ0,hn0]
   refine ⟨n0 + 5,by omega,by simp [hn0],?_,by simp [AV.bare,zal,zaP,zaS,zak,zau,zag,tokz1,lk,zab,za4],?_⟩
   ·rw [cze (by simp [hn0])]
    unfold znc
    rw [if_pos hqa,hn0]
    refine ⟨rfl,?_⟩
    unfold ziX yC
    rw [hK,hr]
   ·rw [cze (by simp [hn0])]
    exact zcl hm (by omega) ⟨zcf y _,zcf y _,by simp [AV.bare,zal,zaP,zaS,zak,zau,zag,tokz1,lk,zab,za4,-List.map_map],by simp [AV.bare,zal,zaP,zaS,zak,zau,zag,tokz1,lk,zab,za4],hv5,trivial⟩
 ·have hq:zdH y A = zbB y:=by unfold zdH; rw [if_pos c0]
  refine ⟨_,zem y h4 c0 hok1,?_⟩
  rintro r m ⟨rfl,rfl⟩ _
  simp (maxSteps:=4000000) only [go_sem,zae,zac,zad,zap,zas,czb,cza,↓reduceIte,zaO,za9,zaz,zaA,zay,zaB,zaM,zav,zaw,za7,zaa,onz,g0,hn0]
  rw [h1]; clear h1 Q1
  simp only [zaG,zan]
  simp (maxSteps:=4000000) only [go_sem,zae,zac,zad,zap,zas,czb,cza,↓reduceIte,zaO,za9,zaz,zaA,zay,zaB,zaM,zav,zaw,za7,zaa,onz,c0,hQ0,g0,hn0,decide_true,decide_false]
  obtain ⟨k,k1,k2,k3,k4⟩:=hbad _ _ _ c0 hq rfl
  exact ⟨k,k1,k2,k3,by simp [AV.bare,zal,zaP,zaS,zak,zau,zag,tokz1,lk,zab,za4],k4⟩
theorem askedf (o:List Int) (c h:Int) {b0 b1 b2 b3:Nat} (h4:y.t.heights.length ≤ 4096 ∧ y.order.length ≤ 4096) (m0:zab mem b0 = yC y) (m1:zab mem b1 = .cells [.sl (o.map EncE.cs) .no]) (m2:zab mem b2 = .cells [.int .i64 c]) (m3:zab mem b3 = .cells [.int .i64 h]) (ho:o.length ≤ 4096) (hm:∀ o ∈ mem,zcd mem.length o) :
  zfs Tryz.prog 91 [.agg (ydC y),.fn (.func 92) [] [.ptr b0 0,.ptr b1 0,.ptr b2 0,.ptr b3 0]] mem (znc y (FnFine.free y o c h).ask mem):=by
 obtain ⟨A,hA⟩:∃ A,(FnFine.free y o c h).ask = A:=⟨_,rfl⟩
 rw [hA]
 obtain ⟨n0,hn0⟩:∃ n0,mem.length = n0:=⟨_,rfl⟩
 rw [hn0] at hm
 unfold yC at m0
 have q0:=zbi m0 (by simp)
 have e0:∀ r,zab (mem ++ r) b0 = _:=fun r => (zaW (by omega)).trans m0
 have q1:=zbi m1 (by simp)
 have e1:∀ r,zab (mem ++ r) b1 = _:=fun r => (zaW (by omega)).trans m1
 have q2:=zbi m2 (by simp)
 have e2:∀ r,zab (mem ++ r) b2 = _:=fun r => (zaW (by omega)).trans m2
 have q3:=zbi m3 (by simp)
 have e3:∀ r,zab (mem ++ r) b3 = _:=fun r => (zaW (by omega)).trans m3
 have g0:∀ r,zab (mem ++ r) n0 = zab r 0:=fun r => by rw [← hn0]; exact zaQ _ _ 0
 have gk:∀ r k,zab (mem ++ r) (n0 + k) = zab r k:=fun r k => by rw [← hn0]; exact zaQ _ _ k
 have s0:∀ r o,(mem ++ r).set n0 o = mem ++ r.set 0 o:=fun r o => by rw [← hn0]; exact zb2 _ _ 0 _
 have sk:∀ r k o,(mem ++ r).set (n0 + k) o = mem ++ r.set k o:=fun r k o => by rw [← hn0]; exact zb2 _ _ k _
 have hl1:∀ o:AObj,(mem ++ [o]).length = n0 + 1:=fun o => by simp [hn0]
 have hok1:∀ o ∈ mem ++ [yC y],zcd (mem ++ [yC y]).length o:=by
  rw [hl1]
  exact zcl hm (by omega) ⟨zcf y _,trivial⟩
 have hbad:∀ (m:List AObj) (a:List AObj) e,e ≠ 0 → zdH y A = e → m = mem ++ a → ∃ k,n0 ≤ k ∧ k ≤ m.length ∧ znc y A mem (.tup [.nilp,.int .i64 e]) (m.take k) ∧ (∀ o ∈ m.take k,zcd k o):=fun m a e he hq hm' => by
  subst hm'
  refine ⟨n0,czf _,by simp [hn0],?_,?_⟩
  ·rw [List.take_left' hn0]
   unfold znc
   rw [hq,if_neg he]
   exact ⟨rfl,rfl⟩
  ·rw [List.take_left' hn0]; exact hm
 refine zb5 (Φ:=P127) Tryz.func91 rfl (by rfl) (by rw [Tryz.ntmps91]; simp) zaF zha ?_
 rw [Tryz.ntmps91]
 simp only [Tryz.f91,zah,zaq,ydC]
 refine zlU fun Q0 hQ0 => ?_
 refine zar fun Q1 h1 => ?_
 simp (maxSteps:=4000000) only [go_sem,zae,zac,zad,zap,zas,czb,cza,↓reduceIte,zaO,za9,zaz,zaA,zay,zaB,zaM,zav,zaw,za7,zaa,onz,g0,hn0]
 all_goals (repeat' first | (with_reducible first | rfl | apply And.intro | assumption) | ((with_reducible show zaf _ _ = true); rfl)) <;> try first | omega | (simp only [InR]; omega)
 rw [h1]; clear h1 Q1; simp only [zaG,zan]
 refine zar fun Q1 h1 => ?_
 simp (maxSteps:=4000000) only [go_sem,zae,zac,zad,zap,zas,czb,cza,↓reduceIte,zaO,za9,zaz,zaA,zay,zaB,zaM,zav,zaw,za7,zaa,onz,g0,hn0]
 by_cases c0:zbB y = 0
 ·have hv:=zhG c0
  have h5:=hv.c5
  have hcl:=zfN hv
  refine ⟨_,zeT y hv hok1,?_⟩
  rintro r m ⟨rfl,rfl⟩ _
  rw [hl1]
  simp (maxSteps:=4000000) only [go_sem,zae,zac,zad,zap,zas,czb,cza,↓reduceIte,zaO,za9,zaz,zaA,zay,zaB,zaM,zav,zaw,za7,zaa,onz,g0,hn0]
  rw [h1]; clear h1 Q1
  simp only [zaG,zan]
  unfold zcH
  simp only [czd,czs,List.nil_append,Nat.add_assoc,Nat.reduceAdd]
  have hD:=zfn (mem:=mem ++ (yC y :: zcH y (n0 + 1) (zbd y))) (v:=n0 + 4) (s:=(zbd y).length) (b:=n0) y ((zbd y).map (zbP y.t)) (askW hv) (by rw [czz]; exact hcl) (by rw [gk]; rfl) (by rw [g0]; rfl)
  have hn5:(mem ++ (yC y :: zcH y (n0 + 1) (zbd y))).length = n0 + 5:=by simp [hn0,zcH]
  have hok5:∀ o ∈ mem ++ (yC y :: zcH y (n0 + 1) (zbd y)),zcd (mem ++ (yC y :: zcH y (n0 + 1) (zbd y))).length o:=by
   rw [hn5]
   refine zcl hm (by omega) ⟨zcf y _,?_⟩
   simp [AV.bare,zal,zaP,zaS,zak,zau,zag,tokz1,lk,zab,za4,zcH,-List.map_map]
   try omega
  have hD:=hD hok5
  rw [sk] at hD
  have hk:(((zbd y).map (zbP y.t)).filter fun x => zcB y x []) = zeD y:=rfl
  rw [hk] at hD
  obtain ⟨K,hK⟩:∃ K,zeD y = K:=⟨_,rfl⟩
  rw [hK] at hD
  have htk:∀ r,(K.map EncE.cs ++ r).take K.length = K.map (EncE.cs (α:=Sea)):=fun r => List.take_left' (by simp)
  simp only [czz] at hD
  refine zar fun Q1 h1 => ?_
  simp (maxSteps:=4000000) only [go_sem,zae,zac,zad,zap,zas,czb,cza,↓reduceIte,zaO,za9,zaz,zaA,zay,zaB,zaM,zav,zaw,za7,zaa,onz,g0,gk,s0,sk,hn0,e0,e1,e2,e3,czd,czs,czc]
  all_goals (repeat' first | (with_reducible first | rfl | apply And.intro | assumption) | ((with_reducible show zaf _ _ = true); rfl)) <;> try first | omega | (simp only [InR]; omega)
  rw [h1]; clear h1 Q1; simp only [zaG,zan]
  simp (maxSteps:=4000000) only [go_sem,zae,zac,zad,zap,zas,czb,cza,↓reduceIte,zaO,za9,zaz,zaA,zay,zaB,zaM,zav,zaw,za7,zaa,onz,hA,g0,gk,s0,sk,hn0,e0,e1,e2,e3,czd,czs,czc,decide_true,decide_false]
  refine ⟨⟨by omega,ho⟩,fun q => ?_,fun q => ⟨_,hD,?_⟩⟩
  ·have hq:zdH y A = 2:=by unfold zdH; rw [if_neg (by simp [c0]),if_pos q]
   simp (maxSteps:=4000000) only [go_sem,zae,zac,zad,zap,zas,czb,cza,↓reduceIte,zaO,za9,zaz,zaA,zay,zaB,zaM,zav,zaw,za7,zaa,onz,hQ0,hn0]
   obtain ⟨k,k1,k2,k3,k4⟩:=hbad _ _ 2 (by simp) hq rfl
   exact ⟨k,k1,k2,k3,by simp [AV.bare,zal,zaP,zaS,zak,zau,zag,tokz1,lk,zab,za4],k4⟩
  rintro r m ⟨rfl,rfl⟩ _
  unfold zcH yC
  generalize hr:List.replicate ((zbd y).length - K.length) zqZ = RR
  clear hD
  simp (maxSteps:=4000000) only [go_sem,zae,zac,zad,zap,zas,czb,cza,↓reduceIte,zaO,za9,zaz,zaA,zay,zaB,zaM,zav,zaw,za7,zaa,onz,htk,g0,gk,s0,sk,hn0,e0,e1,e2,e3,czd,czs,czc,czz,List.set_cons_succ,List.set_cons_zero,decide_true,decide_false]
  have hv5:zcd (n0 + 5) (.vec (K.map EncE.cs ++ RR) 2 (zbd y).length):=fun e he c hc => by
   rcases czv.1 he with h | h
   ·obtain ⟨x,_,rfl⟩:=czx.1 h
    exact zc1 _ _ _ (EncE.ok x c hc) (by rw [zf7]; omega)
   ·rw [← hr] at h
    rw [(czL.1 h).2] at hc
    simp only [zqZ,czn,czk,or_false] at hc
    rcases hc with rfl | rfl <;> simp [bel]
  have hqa:zdH y A = if K = [] then 11 else 0:=by unfold zdH; rw [if_neg (by simp [c0]),if_neg (by simp [q]),hK]
  refine ⟨fun e => ?_,fun e => ?_⟩
  ·have hKn:K = []:=List.eq_nil_of_length_eq_zero (by simpa using e)
   rw [if_pos hKn] at hqa
   simp (maxSteps:=4000000) only [go_sem,zae,zac,zad,zap,zas,czb,cza,↓reduceIte,zaO,za9,zaz,zaA,zay,zaB,zaM,zav,zaw,za7,zaa,onz,hQ0,hn0]
   obtain ⟨k,k1,k2,k3,k4⟩:=hbad _ _ 11 (by simp) hqa rfl
   exact ⟨k,k1,k2,k3,by simp [AV.bare,zal,zaP,zaS,zak,zau,zag,tokz1,lk,zab,za4],k4⟩
  ·have hKn:K ≠ []:=fun q => by simp [q] at e
   rw [if_neg hKn] at hqa
   simp (maxSteps:=4000000) only [go_sem,zae,zac,zad,zap,zas,czb,cza,↓reduceIte,zaO,za9,zaz,zaA,zay,zaB,zaM,zav,zaw,za7,zaa,onz,hQ0,hn0]
   refine ⟨n0 + 5,by omega,by simp [hn0],?_,by simp [AV.bare,zal,zaP,zaS,zak,zau,zag,tokz1,lk,zab,za4],?_⟩
   ·rw [cze (by simp [hn0])]
    unfold znc
    rw [if_pos hqa,hn0]
    refine ⟨rfl,?_⟩
    unfold ziX yC
    rw [hK,hr]
   ·rw [cze (by simp [hn0])]
    exact zcl hm (by omega) ⟨zcf y _,zcf y _,by simp [AV.bare,zal,zaP,zaS,zak,zau,zag,tokz1,lk,zab,za4,-List.map_map],by simp [AV.bare,zal,zaP,zaS,zak,zau,zag,tokz1,lk,zab,za4],hv5,trivial⟩
 ·have hq:zdH y A = zbB y:=by unfold zdH; rw [if_pos c0]
  refine ⟨_,zem y h4 c0 hok1,?_⟩
  rintro r m ⟨rfl,rfl⟩ _
  simp (maxSteps:=4000000) only [go_sem,zae,zac,zad,zap,zas,czb,cza,↓reduceIte,zaO,za9,zaz,zaA,zay,zaB,zaM,zav,zaw,za7,zaa,onz,g0,hn0]
  rw [h1]; clear h1 Q1
  simp only [zaG,zan]
  simp (maxSteps:=4000000) only [go_sem,zae,zac,zad,zap,zas,czb,cza,↓reduceIte,zaO,za9,zaz,zaA,zay,zaB,zaM,zav,zaw,za7,zaa,onz,c0,hQ0,g0,hn0,decide_true,decide_false]
  obtain ⟨k,k1,k2,k3,k4⟩:=hbad _ _ _ c0 hq rfl
  exact ⟨k,k1,k2,k3,by simp [AV.bare,zal,zaP,zaS,zak,zau,zag,tokz1,lk,zab,za4],k4⟩
theorem askedl (o:List Int) {b0 b1:Nat} (h4:y.t.heights.length ≤ 4096 ∧ y.order.length ≤ 4096) (m0:zab mem b0 = yC y) (m1:zab mem b1 = .cells [.sl (o.map EncE.cs) .no]) (ho:o.length ≤ 4096) (hm:∀ o ∈ mem,zcd mem.length o) :
  zfs Tryz.prog 91 [.agg (ydC y),.fn (.func 102) [] [.ptr b0 0,.ptr b1 0]] mem (znc y (FnFine.lost y o).ask mem):=by
 obtain ⟨A,hA⟩:∃ A,(FnFine.lost y o).ask = A:=⟨_,rfl⟩
 rw [hA]
 obtain ⟨n0,hn0⟩:∃ n0,mem.length = n0:=⟨_,rfl⟩
 rw [hn0] at hm
 unfold yC at m0
 have q0:=zbi m0 (by simp)
 have e0:∀ r,zab (mem ++ r) b0 = _:=fun r => (zaW (by omega)).trans m0
 have q1:=zbi m1 (by simp)
 have e1:∀ r,zab (mem ++ r) b1 = _:=fun r => (zaW (by omega)).trans m1
 have g0:∀ r,zab (mem ++ r) n0 = zab r 0:=fun r => by rw [← hn0]; exact zaQ _ _ 0
 have gk:∀ r k,zab (mem ++ r) (n0 + k) = zab r k:=fun r k => by rw [← hn0]; exact zaQ _ _ k
 have s0:∀ r o,(mem ++ r).set n0 o = mem ++ r.set 0 o:=fun r o => by rw [← hn0]; exact zb2 _ _ 0 _
 have sk:∀ r k o,(mem ++ r).set (n0 + k) o = mem ++ r.set k o:=fun r k o => by rw [← hn0]; exact zb2 _ _ k _
 have hl1:∀ o:AObj,(mem ++ [o]).length = n0 + 1:=fun o => by simp [hn0]
 have hok1:∀ o ∈ mem ++ [yC y],zcd (mem ++ [yC y]).length o:=by
  rw [hl1]
  exact zcl hm (by omega) ⟨zcf y _,trivial⟩
 have hbad:∀ (m:List AObj) (a:List AObj) e,e ≠ 0 → zdH y A = e → m = mem ++ a → ∃ k,n0 ≤ k ∧ k ≤ m.length ∧ znc y A mem (.tup [.nilp,.int .i64 e]) (m.take k) ∧ (∀ o ∈ m.take k,zcd k o):=fun m a e he hq hm' => by
  subst hm'
  refine ⟨n0,czf _,by simp [hn0],?_,?_⟩
  ·rw [List.take_left' hn0]
   unfold znc
   rw [hq,if_neg he]
   exact ⟨rfl,rfl⟩
  ·rw [List.take_left' hn0]; exact hm
 refine zb5 (Φ:=P127) Tryz.func91 rfl (by rfl) (by rw [Tryz.ntmps91]; simp) zaF zha ?_
 rw [Tryz.ntmps91]
 simp only [Tryz.f91,zah,zaq,ydC]
 refine zlU fun Q0 hQ0 => ?_
 refine zar fun Q1 h1 => ?_
 simp (maxSteps:=4000000) only [go_sem,zae,zac,zad,zap,zas,czb,cza,↓reduceIte,zaO,za9,zaz,zaA,zay,zaB,zaM,zav,zaw,za7,zaa,onz,g0,hn0]
 all_goals (repeat' first | (with_reducible first | rfl | apply And.intro | assumption) | ((with_reducible show zaf _ _ = true); rfl)) <;> try first | omega | (simp only [InR]; omega)
 rw [h1]; clear h1 Q1; simp only [zaG,zan]
 refine zar fun Q1 h1 => ?_
 simp (maxSteps:=4000000) only [go_sem,zae,zac,zad,zap,zas,czb,cza,↓reduceIte,zaO,za9,zaz,zaA,zay,zaB,zaM,zav,zaw,za7,zaa,onz,g0,hn0]
 by_cases c0:zbB y = 0
 ·have hv:=zhG c0
  have h5:=hv.c5
  have hcl:=zfN hv
  refine ⟨_,zeT y hv hok1,?_⟩
  rintro r m ⟨rfl,rfl⟩ _
  rw [hl1]
  simp (maxSteps:=4000000) only [go_sem,zae,zac,zad,zap,zas,czb,cza,↓reduceIte,zaO,za9,zaz,zaA,zay,zaB,zaM,zav,zaw,za7,zaa,onz,g0,hn0]
  rw [h1]; clear h1 Q1
  simp only [zaG,zan]
  unfold zcH
  simp only [czd,czs,List.nil_append,Nat.add_assoc,Nat.reduceAdd]
  have hD:=zfn (mem:=mem ++ (yC y :: zcH y (n0 + 1) (zbd y))) (v:=n0 + 4) (s:=(zbd y).length) (b:=n0) y ((zbd y).map (zbP y.t)) (askW hv) (by rw [czz]; exact hcl) (by rw [gk]; rfl) (by rw [g0]; rfl)
  have hn5:(mem ++ (yC y :: zcH y (n0 + 1) (zbd y))).length = n0 + 5:=by simp [hn0,zcH]
  have hok5:∀ o ∈ mem ++ (yC y :: zcH y (n0 + 1) (zbd y)),zcd (mem ++ (yC y :: zcH y (n0 + 1) (zbd y))).length o:=by
   rw [hn5]
   refine zcl hm (by omega) ⟨zcf y _,?_⟩
   simp [AV.bare,zal,zaP,zaS,zak,zau,zag,tokz1,lk,zab,za4,zcH,-List.map_map]
   try omega
  have hD:=hD hok5
  rw [sk] at hD
  have hk:(((zbd y).map (zbP y.t)).filter fun x => zcB y x []) = zeD y:=rfl
  rw [hk] at hD
  obtain ⟨K,hK⟩:∃ K,zeD y = K:=⟨_,rfl⟩
  rw [hK] at hD
  have htk:∀ r,(K.map EncE.cs ++ r).take K.length = K.map (EncE.cs (α:=Sea)):=fun r => List.take_left' (by simp)
  simp only [czz] at hD
  refine zar fun Q1 h1 => ?_
  simp (maxSteps:=4000000) only [go_sem,zae,zac,zad,zap,zas,czb,cza,↓reduceIte,zaO,za9,zaz,zaA,zay,zaB,zaM,zav,zaw,za7,zaa,onz,g0,gk,s0,sk,hn0,e0,e1,czd,czs,czc]
  all_goals (repeat' first | (with_reducible first | rfl | apply And.intro | assumption) | ((with_reducible show zaf _ _ = true); rfl)) <;> try first | omega | (simp only [InR]; omega)
  rw [h1]; clear h1 Q1; simp only [zaG,zan]
  simp (maxSteps:=4000000) only [go_sem,zae,zac,zad,zap,zas,czb,cza,↓reduceIte,zaO,za9,zaz,zaA,zay,zaB,zaM,zav,zaw,za7,zaa,onz,hA,g0,gk,s0,sk,hn0,e0,e1,czd,czs,czc,decide_true,decide_false]
  refine ⟨⟨by omega,ho⟩,fun q => ?_,fun q => ⟨_,hD,?_⟩⟩
  ·have hq:zdH y A = 2:=by unfold zdH; rw [if_neg (by simp [c0]),if_pos q]
   simp (maxSteps:=4000000) only [go_sem,zae,zac,zad,zap,zas,czb,cza,↓reduceIte,zaO,za9,zaz,zaA,zay,zaB,zaM,zav,zaw,za7,zaa,onz,hQ0,hn0]
   obtain ⟨k,k1,k2,k3,k4⟩:=hbad _ _ 2 (by simp) hq rfl
   exact ⟨k,k1,k2,k3,by simp [AV.bare,zal,zaP,zaS,zak,zau,zag,tokz1,lk,zab,za4],k4⟩
  rintro r m ⟨rfl,rfl⟩ _
  unfold zcH yC
  generalize hr:List.replicate ((zbd y).length - K.length) zqZ = RR
  clear hD
  simp (maxSteps:=4000000) only [go_sem,zae,zac,zad,zap,zas,czb,cza,↓reduceIte,zaO,za9,zaz,zaA,zay,zaB,zaM,zav,zaw,za7,zaa,onz,htk,g0,gk,s0,sk,hn0,e0,e1,czd,czs,czc,czz,List.set_cons_succ,List.set_cons_zero,decide_true,decide_false]
  have hv5:zcd (n0 + 5) (.vec (K.map EncE.cs ++ RR) 2 (zbd y).length):=fun e he c hc => by
   rcases czv.1 he with h | h
   ·obtain ⟨x,_,rfl⟩:=czx.1 h
    exact zc1 _ _ _ (EncE.ok x c hc) (by rw [zf7]; omega)
   ·rw [← hr] at h
    rw [(czL.1 h).2] at hc
    simp only [zqZ,czn,czk,or_false] at hc
    rcases hc with rfl | rfl <;> simp [bel]
  have hqa:zdH y A = if K = [] then 11 else 0:=by unfold zdH; rw [if_neg (by simp [c0]),if_neg (by simp [q]),hK]
  refine ⟨fun e => ?_,fun e => ?_⟩
  ·have hKn:K = []:=List.eq_nil_of_length_eq_zero (by simpa using e)
   rw [if_pos hKn] at hqa
   simp (maxSteps:=4000000) only [go_sem,zae,zac,zad,zap,zas,czb,cza,↓reduceIte,zaO,za9,zaz,zaA,zay,zaB,zaM,zav,zaw,za7,zaa,onz,hQ0,hn0]
   obtain ⟨k,k1,k2,k3,k4⟩:=hbad _ _ 11 (by simp) hqa rfl
   exact ⟨k,k1,k2,k3,by simp [AV.bare,zal,zaP,zaS,zak,zau,zag,tokz1,lk,zab,za4],k4⟩
  ·have hKn:K ≠ []:=fun q => by simp [q] at e
   rw [if_neg hKn] at hqa
   simp (maxSteps:=4000000) only [go_sem,zae,zac,zad,zap,zas,czb,cza,↓reduceIte,zaO,za9,zaz,zaA,zay,zaB,zaM,zav,zaw,za7,zaa,onz,hQ0,hn0]
   refine ⟨n0 + 5,by omega,by simp [hn0],?_,by simp [AV.bare,zal,zaP,zaS,zak,zau,zag,tokz1,lk,zab,za4],?_⟩
   ·rw [cze (by simp [hn0])]
    unfold znc
    rw [if_pos hqa,hn0]
    refine ⟨rfl,?_⟩
    unfold ziX yC
    rw [hK,hr]
   ·rw [cze (by simp [hn0])]
    exact zcl hm (by omega) ⟨zcf y _,zcf y _,by simp [AV.bare,zal,zaP,zaS,zak,zau,zag,tokz1,lk,zab,za4,-List.map_map],by simp [AV.bare,zal,zaP,zaS,zak,zau,zag,tokz1,lk,zab,za4],hv5,trivial⟩
 ·have hq:zdH y A = zbB y:=by unfold zdH; rw [if_pos c0]
  refine ⟨_,zem y h4 c0 hok1,?_⟩
  rintro r m ⟨rfl,rfl⟩ _
  simp (maxSteps:=4000000) only [go_sem,zae,zac,zad,zap,zas,czb,cza,↓reduceIte,zaO,za9,zaz,zaA,zay,zaB,zaM,zav,zaw,za7,zaa,onz,g0,hn0]
  rw [h1]; clear h1 Q1
  simp only [zaG,zan]
  simp (maxSteps:=4000000) only [go_sem,zae,zac,zad,zap,zas,czb,cza,↓reduceIte,zaO,za9,zaz,zaA,zay,zaB,zaM,zav,zaw,za7,zaa,onz,c0,hQ0,g0,hn0,decide_true,decide_false]
  obtain ⟨k,k1,k2,k3,k4⟩:=hbad _ _ _ c0 hq rfl
  exact ⟨k,k1,k2,k3,by simp [AV.bare,zal,zaP,zaS,zak,zau,zag,tokz1,lk,zab,za4],k4⟩
theorem askedb  (h4:y.t.heights.length ≤ 4096 ∧ y.order.length ≤ 4096)  (hm:∀ o ∈ mem,zcd mem.length o) :
  zfs Tryz.prog 91 [.agg (ydC y),.fn (.func 106) [] []] mem (znc y (FnFine.best).ask mem):=by
 obtain ⟨A,hA⟩:∃ A,(FnFine.best).ask = A:=⟨_,rfl⟩
 rw [hA]
 obtain ⟨n0,hn0⟩:∃ n0,mem.length = n0:=⟨_,rfl⟩
 rw [hn0] at hm
 have g0:∀ r,zab (mem ++ r) n0 = zab r 0:=fun r => by rw [← hn0]; exact zaQ _ _ 0
 have gk:∀ r k,zab (mem ++ r) (n0 + k) = zab r k:=fun r k => by rw [← hn0]; exact zaQ _ _ k
 have s0:∀ r o,(mem ++ r).set n0 o = mem ++ r.set 0 o:=fun r o => by rw [← hn0]; exact zb2 _ _ 0 _
 have sk:∀ r k o,(mem ++ r).set (n0 + k) o = mem ++ r.set k o:=fun r k o => by rw [← hn0]; exact zb2 _ _ k _
 have hl1:∀ o:AObj,(mem ++ [o]).length = n0 + 1:=fun o => by simp [hn0]
 have hok1:∀ o ∈ mem ++ [yC y],zcd (mem ++ [yC y]).length o:=by
  rw [hl1]
  exact zcl hm (by omega) ⟨zcf y _,trivial⟩
 have hbad:∀ (m:List AObj) (a:List AObj) e,e ≠ 0 → zdH y A = e → m = mem ++ a → ∃ k,n0 ≤ k ∧ k ≤ m.length ∧ znc y A mem (.tup [.nilp,.int .i64 e]) (m.take k) ∧ (∀ o ∈ m.take k,zcd k o):=fun m a e he hq hm' => by
  subst hm'
  refine ⟨n0,czf _,by simp [hn0],?_,?_⟩
  ·rw [List.take_left' hn0]
   unfold znc
   rw [hq,if_neg he]
   exact ⟨rfl,rfl⟩
  ·rw [List.take_left' hn0]; exact hm
 refine zb5 (Φ:=P127) Tryz.func91 rfl (by rfl) (by rw [Tryz.ntmps91]; simp) zaF zha ?_
 rw [Tryz.ntmps91]
 simp only [Tryz.f91,zah,zaq,ydC]
 refine zlU fun Q0 hQ0 => ?_
 refine zar fun Q1 h1 => ?_
 simp (maxSteps:=4000000) only [go_sem,zae,zac,zad,zap,zas,czb,cza,↓reduceIte,zaO,za9,zaz,zaA,zay,zaB,zaM,zav,zaw,za7,zaa,onz,g0,hn0]
 all_goals (repeat' first | (with_reducible first | rfl | apply And.intro | assumption) | ((with_reducible show zaf _ _ = true); rfl)) <;> try first | omega | (simp only [InR]; omega)
 rw [h1]; clear h1 Q1; simp only [zaG,zan]
 refine zar fun Q1 h1 => ?_
 simp (maxSteps:=4000000) only [go_sem,zae,zac,zad,zap,zas,czb,cza,↓reduceIte,zaO,za9,zaz,zaA,zay,zaB,zaM,zav,zaw,za7,zaa,onz,g0,hn0]
 by_cases c0:zbB y = 0
 ·have hv:=zhG c0
  have h5:=hv.c5
  have hcl:=zfN hv
  refine ⟨_,zeT y hv hok1,?_⟩
  rintro r m ⟨rfl,rfl⟩ _
  rw [hl1]
  simp (maxSteps:=4000000) only [go_sem,zae,zac,zad,zap,zas,czb,cza,↓reduceIte,zaO,za9,zaz,zaA,zay,zaB,zaM,zav,zaw,za7,zaa,onz,g0,hn0]
  rw [h1]; clear h1 Q1
  simp only [zaG,zan]
  unfold zcH
  simp only [czd,czs,List.nil_append,Nat.add_assoc,Nat.reduceAdd]
  have hD:=zfn (mem:=mem ++ (yC y :: zcH y (n0 + 1) (zbd y))) (v:=n0 + 4) (s:=(zbd y).length) (b:=n0) y ((zbd y).map (zbP y.t)) (askW hv) (by rw [czz]; exact hcl) (by rw [gk]; rfl) (by rw [g0]; rfl)
  have hn5:(mem ++ (yC y :: zcH y (n0 + 1) (zbd y))).length = n0 + 5:=by simp [hn0,zcH]
  have hok5:∀ o ∈ mem ++ (yC y :: zcH y (n0 + 1) (zbd y)),zcd (mem ++ (yC y :: zcH y (n0 + 1) (zbd y))).length o:=by
   rw [hn5]
   refine zcl hm (by omega) ⟨zcf y _,?_⟩
   simp [AV.bare,zal,zaP,zaS,zak,zau,zag,tokz1,lk,zab,za4,zcH,-List.map_map]
   try omega
  have hD:=hD hok5
  rw [sk] at hD
  have hk:(((zbd y).map (zbP y.t)).filter fun x => zcB y x []) = zeD y:=rfl
  rw [hk] at hD
  obtain ⟨K,hK⟩:∃ K,zeD y = K:=⟨_,rfl⟩
  rw [hK] at hD
  have htk:∀ r,(K.map EncE.cs ++ r).take K.length = K.map (EncE.cs (α:=Sea)):=fun r => List.take_left' (by simp)
  simp only [czz] at hD
  refine zar fun Q1 h1 => ?_
  simp (maxSteps:=4000000) only [go_sem,zae,zac,zad,zap,zas,czb,cza,↓reduceIte,zaO,za9,zaz,zaA,zay,zaB,zaM,zav,zaw,za7,zaa,onz,g0,gk,s0,sk,hn0,czd,czs,czc]
  all_goals (repeat' first | (with_reducible first | rfl | apply And.intro | assumption) | ((with_reducible show zaf _ _ = true); rfl)) <;> try first | omega | (simp only [InR]; omega)
  rw [h1]; clear h1 Q1; simp only [zaG,zan]
  simp (maxSteps:=4000000) only [go_sem,zae,zac,zad,zap,zas,czb,cza,↓reduceIte,zaO,za9,zaz,zaA,zay,zaB,zaM,zav,zaw,za7,zaa,onz,hA,g0,gk,s0,sk,hn0,czd,czs,czc,decide_true,decide_false]
  have q:A = true:=hA.symm
  refine ⟨_,hD,?_⟩
  rintro r m ⟨rfl,rfl⟩ _
  unfold zcH yC
  generalize hr:List.replicate ((zbd y).length - K.length) zqZ = RR
  clear hD
  simp (maxSteps:=4000000) only [go_sem,zae,zac,zad,zap,zas,czb,cza,↓reduceIte,zaO,za9,zaz,zaA,zay,zaB,zaM,zav,zaw,za7,zaa,onz,htk,g0,gk,s0,sk,hn0,czd,czs,czc,czz,List.set_cons_succ,List.set_cons_zero,decide_true,decide_false]
  have hv5:zcd (n0 + 5) (.vec (K.map EncE.cs ++ RR) 2 (zbd y).length):=fun e he c hc => by
   rcases czv.1 he with h | h
   ·obtain ⟨x,_,rfl⟩:=czx.1 h
    exact zc1 _ _ _ (EncE.ok x c hc) (by rw [zf7]; omega)
   ·rw [← hr] at h
    rw [(czL.1 h).2] at hc
    simp only [zqZ,czn,czk,or_false] at hc
    rcases hc with rfl | rfl <;> simp [bel]
  have hqa:zdH y A = if K = [] then 11 else 0:=by unfold zdH; rw [if_neg (by simp [c0]),if_neg (by simp [q]),hK]
  refine ⟨fun e => ?_,fun e => ?_⟩
  ·have hKn:K = []:=List.eq_nil_of_length_eq_zero (by simpa using e)
   rw [if_pos hKn] at hqa
   simp (maxSteps:=4000000) only [go_sem,zae,zac,zad,zap,zas,czb,cza,↓reduceIte,zaO,za9,zaz,zaA,zay,zaB,zaM,zav,zaw,za7,zaa,onz,hQ0,hn0]
   obtain ⟨k,k1,k2,k3,k4⟩:=hbad _ _ 11 (by simp) hqa rfl
   exact ⟨k,k1,k2,k3,by simp [AV.bare,zal,zaP,zaS,zak,zau,zag,tokz1,lk,zab,za4],k4⟩
  ·have hKn:K ≠ []:=fun q => by simp [q] at e
   rw [if_neg hKn] at hqa
   simp (maxSteps:=4000000) only [go_sem,zae,zac,zad,zap,zas,czb,cza,↓reduceIte,zaO,za9,zaz,zaA,zay,zaB,zaM,zav,zaw,za7,zaa,onz,hQ0,hn0]
   refine ⟨n0 + 5,by omega,by simp [hn0],?_,by simp [AV.bare,zal,zaP,zaS,zak,zau,zag,tokz1,lk,zab,za4],?_⟩
   ·rw [cze (by simp [hn0])]
    unfold znc
    rw [if_pos hqa,hn0]
    refine ⟨rfl,?_⟩
    unfold ziX yC
    rw [hK,hr]
   ·rw [cze (by simp [hn0])]
    exact zcl hm (by omega) ⟨zcf y _,zcf y _,by simp [AV.bare,zal,zaP,zaS,zak,zau,zag,tokz1,lk,zab,za4,-List.map_map],by simp [AV.bare,zal,zaP,zaS,zak,zau,zag,tokz1,lk,zab,za4],hv5,trivial⟩
 ·have hq:zdH y A = zbB y:=by unfold zdH; rw [if_pos c0]
  refine ⟨_,zem y h4 c0 hok1,?_⟩
  rintro r m ⟨rfl,rfl⟩ _
  simp (maxSteps:=4000000) only [go_sem,zae,zac,zad,zap,zas,czb,cza,↓reduceIte,zaO,za9,zaz,zaA,zay,zaB,zaM,zav,zaw,za7,zaa,onz,g0,hn0]
  rw [h1]; clear h1 Q1
  simp only [zaG,zan]
  simp (maxSteps:=4000000) only [go_sem,zae,zac,zad,zap,zas,czb,cza,↓reduceIte,zaO,za9,zaz,zaA,zay,zaB,zaM,zav,zaw,za7,zaa,onz,c0,hQ0,g0,hn0,decide_true,decide_false]
  obtain ⟨k,k1,k2,k3,k4⟩:=hbad _ _ _ c0 hq rfl
  exact ⟨k,k1,k2,k3,by simp [AV.bare,zal,zaP,zaS,zak,zau,zag,tokz1,lk,zab,za4],k4⟩
end
theorem zgx {y:Yd} (hv:VY y) {hs o:List Int} (hl:hs.length = hrs y) {c:Int} (h0:0 ≤ c) (h1:c < y.chairs.length):zfT y (zbP y.t hs) ⟨c,zb6 y o c⟩ = zbG y o hs c:=by
 unfold zfT zbG
 refine zoq fun k hk => ?_
 have hh:=hv.hrs
 have hr:=(hv.at h0 h1).2.1
 unfold stayW ziZ
 dsimp only
 rw [zwJ hv.h0 (by omega)]
 congr 1
 unfold zbP lvY
 dsimp only
 rw [zgd (by omega)]
 exact zru (by omega) (by omega)
theorem play_at {y:Yd} (hv:VY y) {hs o:List Int} (hl:hs.length = hrs y) {c:Int} (h0:0 ≤ c) (h1:c < y.chairs.length):at_ (zin y (zbP y.t hs) o) c.toNat = zbG y o hs c:=by
 unfold zin
 rw [zhu _ (by omega),show ((c.toNat:Nat):Int) = c by omega]
 exact zgx hv hl h0 h1
theorem rightP_of {y:Yd} (hv:VY y) {hs:List Int} (hl:hs.length = hrs y) (out:List Int) {k:Nat} (hk:k < y.hires.length):zic y (zbP y.t hs) out k = (out.contains (k:Int) || zcx y hs k):=by
 have h:=hv.hi _ (zbb hk)
 have hh:=hv.hrs
 unfold zic zcx
 rw [play_at hv hl h.1.1 h.1.2,zga _ _ _ (by omega),show (((at_ y.hires k).hi.toNat:Nat):Int) = (at_ y.hires k).hi by omega]
theorem zoL {y:Yd} (hv:VY y) {hs:List Int} (hl:hs.length = hrs y) (out:List Int):zcB y (zbP y.t hs) out = (List.range y.hires.length).all fun k => out.contains (k:Int) || zcx y hs k:=by
 unfold zcB
 apply zdP
 intro k hk
 exact rightP_of hv hl out (by simpa using hk)
theorem zmv {y:Yd} (hv:VY y) {hs:List Int} (hl:hs.length = hrs y):zcB y (zbP y.t hs) [] = zcG y hs:=by
 rw [zoL hv hl]
 unfold zcG
 apply zdP
 intro k _
 simp
theorem zji {y:Yd} (hv:VY y) {p:List Int} (h:p ∈ zbd y):p.length = hrs y:=zfy hv (ziT hv h)
theorem zr4 {y:Yd} (hv:VY y):zeD y = (zfv y).map (zbP y.t):=by
 unfold zeD zfv
 rw [List.filter_map]
 congr 1
 apply List.filter_congr
 intro p hp
 exact zmv hv (zji hv hp)
theorem kept_nil {y:Yd} (hv:VY y):zeD y = [] ↔ zaJ y = []:=by
 rw [zr4 hv,List.map_eq_nil_iff,zj1 hv]
def zfq (y:Yd) (a:Bool):Int:=if zbB y ≠ 0 then zbB y else if a = false then 2 else if zaJ y = [] then 11 else 0
theorem zlI (y:Yd) (a:Bool):zdH y a = zfq y a:=by
 unfold zdH zfq
 by_cases c:zbB y = 0
 ·have hv:=zhG c
  simp only [kept_nil hv]
 ·simp [c]
theorem zko {y:Yd} {a:Bool} (h:zfq y a = 0):VY y ∧ a = true ∧ zaJ y ≠ [] ∧ zdH y a = 0 ∧ zeD y = (zfv y).map (zbP y.t):=by
 have h':=h
 unfold zfq at h
 by_cases c:zbB y = 0
 ·have hv:=zhG c
  simp only [c,ne_eq,not_true_eq_false,if_false] at h
  cases a
  ·simp at h
  ·simp only [Bool.true_eq_false,if_false] at h
   by_cases d:zaJ y = []
   ·simp [d] at h
   ·exact ⟨hv,rfl,d,by rw [zlI,h'],zr4 hv⟩
 ·rw [if_pos c] at h
  exact absurd h c
theorem zh0 {y:Yd} (hv:VY y) {p:List Int} (h:p ∈ zfv y):p.length = hrs y:=by
 unfold zfv at h
 exact zji hv (List.mem_filter.1 h).1
theorem work_len {y:Yd} (hv:VY y):(zfv y).length ≤ 2000:=by
 have:=zwC (y:=y) hv.fok.vok
 have:=List.length_filter_le (zcG y) (zbd y)
 unfold zfv
 omega
def hasR (s:Sy) (h:Int):Int:=if s.free.contains h = true then 1 else 0
inductive Qn8 where
 | free
 | has (h:Int)
instance:Enc Qn8 where
 enc
  | .free => .agg [.fn (.func 99) [] []]
  | .has h => .agg [.fn (.func 95) [] [.ref [.int .i64 h] 0]]
 dec
  | .agg [.fn (.func g) [] []] => if g = 99 then some .free else none
  | .agg [.fn (.func g) [] [.ref [.int .i64 h] 0]] => if g = 95 then some (.has h) else none
  | _ => none
 law v x h:=by
  split at h
  ·split at h
   ·rename_i e; cases h; rw [e]
   ·cases h
  ·split at h
   ·rename_i e; cases h; rw [e]
   ·cases h
  ·cases h
 dep:=4
 ok x:=by cases x <;> simp [zbt]
theorem enc_qn8_f:Enc.enc Qn8.free = .agg [.fn (.func 99) [] []]:=rfl
theorem enc_qn8_h (h:Int):Enc.enc (Qn8.has h) = .agg [.fn (.func 95) [] [.ref [.int .i64 h] 0]]:=rfl
theorem zbW:(Enc.dec (.agg [.fn (.func 99) [] []]):Option Qn8) = some .free:=rfl
theorem zbV (h:Int):(Enc.dec (.agg [.fn (.func 95) [] [.ref [.int .i64 h] 0]]):Option Qn8) = some (.has h):=rfl
theorem znj (s:Sy) (h:s.free.length ≤ 4096):zaU Tryz.prog 99 [Enc.enc s] (· = Enc.enc ((s.free.length:Nat):Int)):=by
 simp only [zbY]
 refine cpz zha Tryz.func99 zaF ?_
 rw [Tryz.ntmps99]
 simp only [Tryz.f99,zah,zaq]
 simp (maxSteps:=4000000) only [go_sem,AV.one,zae,zac,zad,zap,zas,zab,czb,cza,↓reduceIte,zaV,zbW,zbV,zbh,zaa,onz]
theorem has8_call (s:Sy) (h:RefC Int) (hl:s.free.length ≤ 4096):zaU Tryz.prog 95 [Enc.enc s,Enc.enc h] (· = Enc.enc (hasR s h.x)):=by
 obtain ⟨h⟩:=h
 unfold hasR
 simp only [zeL]
 cases c:s.free.contains h
 ·simp only [zbY]
  refine cpz zha Tryz.func95 zaF ?_
  rw [Tryz.ntmps95]
  simp only [Tryz.f95,zah,zaq]
  simp (maxSteps:=4000000) only [go_sem,AV.one,zae,zac,zad,zap,zas,zab,czb,cza,↓reduceIte,zaV,zbW,zbV,zbh,zaa,onz,c]
  all_goals exact auz
 ·simp only [zbY]
  refine cpz zha Tryz.func95 zaF ?_
  rw [Tryz.ntmps95]
  simp only [Tryz.f95,zah,zaq]
  simp (maxSteps:=4000000) only [go_sem,AV.one,zae,zac,zad,zap,zas,zab,czb,cza,↓reduceIte,zaV,zbW,zbV,zbh,zaa,onz,c]
  all_goals exact auz
def P129 (g:FuncId):=(zax 99 (zcU (fun s:Sy => s.free.length ≤ 4096) (fun s => ((s.free.length:Nat):Int))) (zax 95 (zbL (fun (s:Sy) (_:RefC Int) => s.free.length ≤ 4096) (fun s h => hasR s h.x)) (P127)):zaN) g
theorem zti:zaD Tryz.prog P129:=zaj (zbm znj) (zaj (zaR has8_call) (zha))
theorem zqv (d:Option Nat):zaK P129 d = none:=(zai (by decide) d).trans ((zai (by decide) d).trans (zqw d))
attribute [go_sem] P129 zqv
def Qn8.ask (q:Qn8) (s:Sy):Int :=
 match q with
 | .free => (s.free.length:Nat)
 | .has h => hasR s h
def bW (q:Qn8) (y:Yd) (b c:Int) (r:Rg) (s:Sea):Rg:=zdu r (q.ask (zfT y s ⟨c,b⟩))
def zdE (q:Qn8) (w:W8) (o:List Int) (c:Int):Rg:=w.ts.foldl (bW q w.y (zb6 w.y o c) c) ⟨q.ask (zfT w.y (at_ w.ts 0) ⟨c,zb6 w.y o c⟩),q.ask (zfT w.y (at_ w.ts 0) ⟨c,zb6 w.y o c⟩)⟩
structure zxx (w:W8):Prop where
 vy:VY w.y
 ys:∀ s ∈ w.ts,YS w.y s
 l1:w.ts.length ≤ 4096
theorem zpL (q:Qn8) (w:W8) (o:List Int) (c:Int) (h:(zxx w ∧ 0 < w.ts.length) ∧ o.length ≤ 4096 ∧ 0 ≤ c ∧ c < w.y.chairs.length):zaU Tryz.prog 97 [Enc.enc q,Enc.enc w,Enc.enc o,Enc.enc c] (· = Enc.enc (zdE q w o c)):=by
 obtain ⟨⟨hw,h1⟩,ho,hc0,hc1⟩:=h
 obtain ⟨y,ts⟩:=w
 obtain ⟨hv,hys,hl⟩:=hw
 dsimp only at hv hys hl h1 hc1
 have hb1:=hv.l0
 have hb2:=hv.h0
 have hb3:=hv.h5
 have hh:=hv.hrs
 have h0:=zat (f:=EncE.cs) h1
 have h1':(0:Int) < ts.length:=by omega
 obtain ⟨b,hb⟩:∃ b,zb6 y o c = b:=⟨_,rfl⟩
 have hp0:=(hys _ (zbb h1)).pre (b:=b) hc0 hc1
 have hfl:∀ s,(zfT y s ⟨c,b⟩).free.length ≤ 4096:=fun s => by have:=zmn y s ⟨c,b⟩; omega
 have hf0:=hfl (at_ ts 0)
 unfold zdE
 simp only [zbh,w8C,hb]
 cases q with
 | free =>
  simp only [enc_qn8_f]
  simp only [zbY]
  refine cpz zti Tryz.func97 zaF ?_
  rw [Tryz.ntmps97]
  simp only [Tryz.f97,zah,zaq]
  simp (maxSteps:=4000000) only [go_sem,zae,zac,zad,zap,zas,zab,czb,cza,↓reduceIte,zaV,zbW,zbV,zbh,zaa,onz,h0,h1',hb]
  all_goals (repeat' first | (with_reducible first | rfl | apply And.intro | assumption) | ((with_reducible show zaf _ _ = true); rfl)) <;> try first | omega | (simp only [InR]; omega)
  refine zbA (ts.length) [] [1,4,8,9,11,44,45] (fun i => [(46,.int .i64 i)]) (fun i m => m.set 3 (.cells (EncE.cs ((ts.take i).foldl (bW Qn8.free y b c) ⟨Qn8.ask Qn8.free (zfT y (at_ ts 0) ⟨c,b⟩),Qn8.ask Qn8.free (zfT y (at_ ts 0) ⟨c,b⟩)⟩)))) (fun _ => True) ?_ ?_ ?_ ?_
  ·trivial
  ·simp [AV.bare,zal,zaP,zaS,zak,zau,zag,tokz1,lk,zab,za4,Qn8.ask]
  ·intro i hi _
   have hpi:=(hys _ (zbb hi)).pre (b:=b) hc0 hc1
   have hfi:=hfl (at_ ts i)
   simp (maxSteps:=4000000) only [go_sem,zae,zac,zad,zap,zas,zab,czb,cza,↓reduceIte,zaV,zbW,zbV,zbh,zaa,onz,zat hi,czH.2 hi,hb]
   all_goals (repeat' first | (with_reducible first | rfl | apply And.intro | assumption) | ((with_reducible show zaf _ _ = true); rfl)) <;> try first | omega | (simp only [InR]; omega)
   refine nxt hi trivial ?_
   simp [AV.bare,zal,zaP,zaS,zak,zau,zag,tokz1,lk,zab,za4,zlh hi,Qn8.ask,bW]
  ·intro _
   simp (maxSteps:=4000000) only [go_sem,zae,zac,zad,zap,zas,zab,czb,cza,↓reduceIte,zaV,zbW,zbV,zbh,zaa,onz,czm]
 | has k =>
  simp only [enc_qn8_h]
  simp only [zbY]
  refine cpz zti Tryz.func97 zaF ?_
  rw [Tryz.ntmps97]
  simp only [Tryz.f97,zah,zaq]
  simp (maxSteps:=4000000) only [go_sem,zae,zac,zad,zap,zas,zab,czb,cza,↓reduceIte,zaV,zbW,zbV,zbh,zaa,onz,h0,h1',hb]
  all_goals (repeat' first | (with_reducible first | rfl | apply And.intro | assumption) | ((with_reducible show zaf _ _ = true); rfl)) <;> try first | omega | (simp only [InR]; omega)
  refine zbA (ts.length) [] [1,4,8,9,11,44,45] (fun i => [(46,.int .i64 i)]) (fun i m => m.set 3 (.cells (EncE.cs ((ts.take i).foldl (bW (Qn8.has k) y b c) ⟨Qn8.ask (Qn8.has k) (zfT y (at_ ts 0) ⟨c,b⟩),Qn8.ask (Qn8.has k) (zfT y (at_ ts 0) ⟨c,b⟩)⟩)))) (fun _ => True) ?_ ?_ ?_ ?_
  ·trivial
  ·simp [AV.bare,zal,zaP,zaS,zak,zau,zag,tokz1,lk,zab,za4,Qn8.ask]
  ·intro i hi _
   have hpi:=(hys _ (zbb hi)).pre (b:=b) hc0 hc1
   have hfi:=hfl (at_ ts i)
   simp (maxSteps:=4000000) only [go_sem,zae,zac,zad,zap,zas,zab,czb,cza,↓reduceIte,zaV,zbW,zbV,zbh,zaa,onz,zat hi,czH.2 hi,hb]
   all_goals (repeat' first | (with_reducible first | rfl | apply And.intro | assumption) | ((with_reducible show zaf _ _ = true); rfl)) <;> try first | omega | (simp only [InR]; omega)
   refine nxt hi trivial ?_
   simp [AV.bare,zal,zaP,zaS,zak,zau,zag,tokz1,lk,zab,za4,zlh hi,Qn8.ask,bW]
  ·intro _
   simp (maxSteps:=4000000) only [go_sem,zae,zac,zad,zap,zas,zab,czb,cza,↓reduceIte,zaV,zbW,zbV,zbh,zaa,onz,czm]
def P130 (g:FuncId):=(zax 97 (zjT (fun (q:Qn8) (w:W8) (o:List Int) (c:Int) => (zxx w ∧ 0 < w.ts.length) ∧ o.length ≤ 4096 ∧ 0 ≤ c ∧ c < w.y.chairs.length) zdE) (P129):zaN) g
theorem zth:zaD Tryz.prog P130:=zaj (zeJ zpL) (zti)
theorem zqu (d:Option Nat):zaK P130 d = none:=(zai (by decide) d).trans (zqv d)
attribute [go_sem] P130 zqu
end Go.Proofs
