/- The texts YM8, Y20, Y21, Y25, joined. -/
import Derived.Test.YtgfkmkkoligobaaGreatG14
set_option linter.all false
namespace Go.Proofs
open Go.Fs
set_option maxHeartbeats 8000000
set_option maxRecDepth 8000
def prN (p:Nat → Nat → Bool):Nat → Nat → Nat → List (Nat × Nat) → List (List (Nat × Nat))
 | 0,_,_,l => [l]
 | k + 1,c,w,l => prN p k (c + 1) w l ++ (List.range k).flatMap fun j => if ((!w.testBit c && !w.testBit (c + 1 + j)) && p c (c + 1 + j)) = true then prN p k (c + 1) (w ||| 2 ^ (c + 1 + j)) (l ++ [(c,c + 1 + j)]) else []
def zmo (p:Nat → Nat → Bool) (k c w:Nat) (l:List (Nat × Nat)) (n:Nat):List (List (Nat × Nat)) :=
 prN p k (c + 1) w l ++ (List.range n).flatMap fun j => if ((!w.testBit c && !w.testBit (c + 1 + j)) && p c (c + 1 + j)) = true then prN p k (c + 1) (w ||| 2 ^ (c + 1 + j)) (l ++ [(c,c + 1 + j)]) else []
theorem prN_succ (p:Nat → Nat → Bool) (k c w:Nat) (l:List (Nat × Nat)):prN p (k + 1) c w l = zmo p k c w l k:=rfl
theorem zkJ (p:Nat → Nat → Bool) (k c w:Nat) (l:List (Nat × Nat)):zmo p k c w l 0 = prN p k (c + 1) w l:=by simp [zmo]
theorem zkK (p:Nat → Nat → Bool) (k c w:Nat) (l:List (Nat × Nat)) (n:Nat):zmo p k c w l (n + 1) = zmo p k c w l n ++ if ((!w.testBit c && !w.testBit (c + 1 + n)) && p c (c + 1 + n)) = true then prN p k (c + 1) (w ||| 2 ^ (c + 1 + n)) (l ++ [(c,c + 1 + n)]) else []:=by
 simp only [zmo,List.range_succ,List.flatMap_append,List.flatMap_cons,List.flatMap_nil,List.append_nil,czd]
theorem zf9 {p:Nat → Nat → Bool} {k c w:Nat} {l:List (Nat × Nat)} (h:w.testBit c = true):∀ n,zmo p k c w l n = prN p k (c + 1) w l
 | 0 => zkJ p k c w l
 | n + 1 => by rw [zkK,zf9 h n,if_neg (by simp [h]),List.append_nil]
theorem zqO (f:Nat → Nat → Bool) (l:List (Nat × Nat)) (q:Nat × Nat):zis f (l ++ [q]) = zis f l + if f q.1 q.2 = true then 1 else 0:=by
 unfold zis
 rw [List.countP_append,List.countP_singleton]
theorem prN_le {p f:Nat → Nat → Bool}:∀ (k c w:Nat) (l:List (Nat × Nat)),∀ x ∈ prN p k c w l,zis f x ≤ zis f l + mx f k (zcu k c w)
 | 0,c,w,l,x,hx => by
  simp [prN] at hx
  subst hx; omega
 | k + 1,c,w,l,x,hx => by
  have hfl:=zfX k (c + 1) w
  unfold prN at hx
  have h0:mx f k (zcu k (c + 1) w) ≤ mx f (k + 1) (zcu (k + 1) c w):=by
   cases h:w.testBit c
   ·rw [zhL h]; exact (zdn (f:=f) k c _).1
   ·rw [zoD h,zd9 (k + 1) k _ (by omega) hfl]; exact czf _
  rcases czv.1 hx with q | q
  ·have:=prN_le (f:=f) k (c + 1) w l x q
   omega
  ·obtain ⟨j,hj,q⟩:=List.mem_flatMap.1 q
   have hjk:=List.mem_range.1 hj
   split at q
   ·rename_i hc
    simp only [czl,Bool.not_eq_true'] at hc
    obtain ⟨⟨hc1,hc2⟩,_⟩:=hc
    have hi:=prN_le (f:=f) k (c + 1) _ _ x q
    rw [zqO,ziW] at hi
    dsimp only at hi
    have hm:c + 1 + j ∈ zcu k (c + 1) w:=zjH.2 ⟨⟨by omega,by omega⟩,hc2⟩
    by_cases hf:f c (c + 1 + j) = true
    ·rw [if_pos hf] at hi
     have:=(zdn (f:=f) k c (zcu k (c + 1) w)).2.1 _ hm hf
     rw [zhL hc1]
     omega
    ·rw [if_neg hf] at hi
     have:=zgV (f:=f) k (zcu k (c + 1) w) (c + 1 + j) hfl
     omega
   ·cases q
theorem zkI (p:Nat → Nat → Bool):∀ (k c w:Nat) (l:List (Nat × Nat)),∃ r,prN p k c w l = l :: r
 | 0,c,w,l => ⟨[],rfl⟩
 | k + 1,c,w,l => by
  obtain ⟨r,hr⟩:=zkI p k (c + 1) w l
  unfold prN
  rw [hr]
  exact ⟨_,rfl⟩
def zkp (scs:List Sc) (l:List Rg):Int:=scs.foldl (fun n s => min n (zbx s l)) (zbx (at_ scs 0) l)
theorem zhM {α:Type} {g:α → Int}:∀ (l:List α) (m:Int),l.foldl (fun n s => min n (g s)) m ≤ m ∧ (∀ s ∈ l,l.foldl (fun n s => min n (g s)) m ≤ g s) ∧ (l.foldl (fun n s => min n (g s)) m = m ∨ ∃ s ∈ l,l.foldl (fun n s => min n (g s)) m = g s)
 | [],m => ⟨Int.le_refl _,fun s hs => (by cases hs),.inl rfl⟩
 | a :: l,m => by
  rw [List.foldl_cons]
  obtain ⟨h1,h2,h3⟩:=zhM (g:=g) l (min m (g a))
  refine ⟨by omega,fun x hx => ?_,?_⟩
  ·rcases czn.1 hx with rfl | hx
   ·omega
   ·exact h2 x hx
  ·rcases h3 with h3 | ⟨x,hx,h3⟩
   ·rw [h3]
    by_cases q:m ≤ g a
    ·exact .inl (by omega)
    ·exact .inr ⟨a,by simp,by omega⟩
   ·exact .inr ⟨x,by simp [hx],h3⟩
theorem surM_take (scs:List Sc) (l:List Rg) {i:Nat} (hi:i < scs.length) :
  (scs.take (i + 1)).foldl (fun n s => min n (zbx s l)) (zbx (at_ scs 0) l) = min ((scs.take i).foldl (fun n s => min n (zbx s l)) (zbx (at_ scs 0) l)) (zbx (at_ scs i) l):=by
 rw [zaM hi,List.foldl_append]; rfl
def bstM (scs:List Sc) (b:List Rg × Int) (l:List (Nat × Nat)):List Rg × Int:=if b.2 < zkp scs (l.map rgQ) then (l.map rgQ,zkp scs (l.map rgQ)) else b
def zhV (scs:List Sc) (b:List Rg × Int) (L:List (List (Nat × Nat))):List Rg × Int:=L.foldl (bstM scs) b
theorem bstN_app (scs:List Sc) (b:List Rg × Int) (L K:List (List (Nat × Nat))):zhV scs b (L ++ K) = zhV scs (zhV scs b L) K:=by unfold zhV; rw [List.foldl_append]
theorem zln (scs:List Sc):∀ (L:List (List (Nat × Nat))) (b:List Rg × Int),b.2 ≤ (zhV scs b L).2 ∧ (∀ l ∈ L,zkp scs (l.map rgQ) ≤ (zhV scs b L).2) ∧ ((zhV scs b L).2 = b.2 ∨ ∃ l ∈ L,(zhV scs b L).2 = zkp scs (l.map rgQ))
 | [],b => ⟨Int.le_refl _,fun s hs => (by cases hs),.inl rfl⟩
 | a :: L,b => by
  have e:zhV scs b (a :: L) = zhV scs (bstM scs b a) L:=rfl
  obtain ⟨h1,h2,h3⟩:=zln scs L (bstM scs b a)
  have h4:b.2 ≤ (bstM scs b a).2 ∧ zkp scs (a.map rgQ) ≤ (bstM scs b a).2 ∧ ((bstM scs b a).2 = b.2 ∨ (bstM scs b a).2 = zkp scs (a.map rgQ)):=by
   unfold bstM
   split
   ·exact ⟨by dsimp only; omega,Int.le_refl _,.inr rfl⟩
   ·exact ⟨Int.le_refl _,by omega,.inl rfl⟩
  rw [e]
  refine ⟨by omega,fun x hx => ?_,?_⟩
  ·rcases czn.1 hx with rfl | hx
   ·omega
   ·exact h2 x hx
  ·rcases h3 with h3 | ⟨x,hx,h3⟩
   ·rcases h4.2.2 with q | q
    ·exact .inl (by omega)
    ·exact .inr ⟨a,by simp,by omega⟩
   ·exact .inr ⟨x,by simp [hx],h3⟩
theorem sc_ok7 {y:My} {s:Sc} (h:ScY y s):zro s:=⟨h.w0,h.w7,h.ft⟩
theorem makes_cnt {s:Sc} (h:zro s):∀ l:List (Nat × Nat),(∀ q ∈ l,q.1 < 7 ∧ q.2 < 7) → zbx s (l.map rgQ) = s.whole + ((zis (fG s.fits) l:Nat):Int):=by
 have key:∀ (l:List (Nat × Nat)) (n:Int),(∀ q ∈ l,q.1 < 7 ∧ q.2 < 7) → (l.map rgQ).foldl (fun n q => n + zqS s q) n = n + ((zis (fG s.fits) l:Nat):Int):=by
  intro l
  induction l with
  | nil => intro n _; simp [zis]
  | cons q l ih =>
   intro n hq
   rw [czb,List.foldl_cons,ih _ (fun x hx => hq x (by simp [hx]))]
   have hq1:=(hq q (by simp)).1
   have hx:=h.ft _ (zaS (l:=s.fits.l) (i:=q.1) (by have:=s.fits.h; omega))
   have e:zqS s (rgQ q) = ((if fG s.fits q.1 q.2 = true then 1 else 0:Nat):Int):=by
    unfold zqS fG rgQ
    dsimp only
    rw [czF,czF]
    obtain ⟨x,hx2⟩:∃ x:Nat,at_ s.fits.l q.1 = (x:Int):=⟨(at_ s.fits.l q.1).toNat,by omega⟩
    rw [hx2,czF]
    have b1:=bit_1 x q.2
    have:=bit_z x q.2
    have h01:(x:Int) / 2 ^ q.2 % 2 = 0 ∨ (x:Int) / 2 ^ q.2 % 2 = 1:=by omega
    by_cases c:x.testBit q.2 = true
    ·rw [if_pos c]
     rw [c] at b1
     exact of_decide_eq_true b1
    ·rw [if_neg c]
     rw [Bool.not_eq_true] at c
     rw [c] at b1
     have:=of_decide_eq_false b1
     omega
   rw [e]
   unfold zis
   rw [List.countP_cons]
   push_cast
   omega
 intro l hl
 unfold zbx
 exact key l _ hl
theorem fG_scene {y:My} {t:List Pt} (h7:t.length ≤ 7) {a b:Nat} (h:fG (za7 y t).fits a b = true):(!zbe (at_ t a)) = true ∧ (!zbe (at_ t b)) = true:=by
 have h:(at_ (zc3 y t t.length) a).toNat.testBit b = true:=h
 rcases Nat.lt_or_ge a 7 with q | q
 ·rw [zdC _ _ _ q] at h
  split at h
  ·rw [czF,zeZ,czl] at h
   have h2:=h.2
   unfold zkh zfU at h2
   simp only [czl] at h2
   exact h2.2.1
  ·simp at h
 ·rw [show at_ (zc3 y t t.length) a = 0 from by simp [at_,List.getD,czB (show (zc3 y t t.length).length ≤ a by rw [zbP]; exact q)]] at h
  simp at h
theorem leaf_le {y:My} {t:List Pt} (hy:MOk y) (hl:t.length = y.chairs.length) {p:Nat → Nat → Bool} {l:List (Nat × Nat)} (hm:l ∈ prN p y.chairs.length 0 0 []) (hq:∀ q ∈ l,q.1 < 7 ∧ q.2 < 7):zbx (za7 y t) (l.map rgQ) ≤ zb3 (za7 y t):=by
 have h7:=hy.len
 have hso:=zez hy hl
 rw [makes_cnt (sc_ok7 hso) l hq]
 have h1:=prN_le (f:=fG (za7 y t).fits) _ _ _ _ _ hm
 have h0:zis (fG (za7 y t).fits) [] = 0:=rfl
 have hr:zcu y.chairs.length 0 0 = List.range y.chairs.length:=by
  unfold zcu
  rw [List.filter_eq_self.2 (fun i _ => by simp),List.range_eq_range']
 have hlen:(List.range y.chairs.length).length = y.chairs.length:=List.length_range
 have e2:zbX (za7 y t).broken.toNat = (List.range y.chairs.length).filter (fun i => !zbe (at_ t i)):=by
  show zbX (((zb4 (fun j => !zbe (at_ t j)) t.length:Nat):Int).toNat) = _
  rw [czF,hl,bits_eq h7]
 rw [h0,hr,zd9 y.chairs.length 7 _ (by omega) (by omega),zfR (p:=fun i => !zbe (at_ t i)) (fun a b h => fG_scene (by omega) h) 7 _ (by omega),← e2] at h1
 have h2:zis (fG (za7 y t).fits) l ≤ zbw (za7 y t).fits (za7 y t).broken.toNat:=by unfold zbw; exact Nat.le_trans h1 (by rw [Nat.zero_add]; exact czf _)
 show (za7 y t).whole + _ ≤ (za7 y t).whole + ((zbw (za7 y t).fits (za7 y t).broken.toNat:Nat):Int)
 omega
theorem prN_lt {p:Nat → Nat → Bool}:∀ (k c w:Nat) (l:List (Nat × Nat)),∀ x ∈ prN p k c w l,(∀ q ∈ l,q.1 < c + k ∧ q.2 < c + k) → ∀ q ∈ x,q.1 < c + k ∧ q.2 < c + k
 | 0,c,w,l,x,hx,h => by
  simp [prN] at hx
  subst hx; exact h
 | k + 1,c,w,l,x,hx,h => by
  have e:c + (k + 1) = c + 1 + k:=by omega
  rw [e] at h ⊢
  unfold prN at hx
  rcases czv.1 hx with q | q
  ·exact prN_lt k (c + 1) w l x q h
  ·obtain ⟨j,hj,q⟩:=List.mem_flatMap.1 q
   have hjk:=List.mem_range.1 hj
   split at q
   ·refine prN_lt k (c + 1) _ _ x q fun z hz => ?_
    rcases czv.1 hz with r | r
    ·exact h z r
    ·rw [czC.1 r]; exact ⟨by dsimp only; omega,by dsimp only; omega⟩
   ·cases q
def zep (y:My) (a b:Nat):Bool:=zil y (a:Int) (b:Int)
def zf5 (y:My) (scs:List Sc):List Rg × Int:=zhV scs ([],-1) (prN (zep y) y.chairs.length 0 0 [])
theorem zpO {y:My} (hy:MOk y) {scs:List Sc} (h0:scs ≠ []) (hs:∀ s ∈ scs,∃ t:List Pt,t.length = y.chairs.length ∧ s = za7 y t):0 ≤ (zf5 y scs).2 ∧ ∀ s ∈ scs,(zf5 y scs).2 ≤ zb3 s:=by
 have h7:=hy.len
 obtain ⟨b1,b2,b3⟩:=zln scs (prN (zep y) y.chairs.length 0 0 []) ([],-1)
 have hat:at_ scs 0 ∈ scs:=zaS (List.length_pos_iff.2 h0)
 have hsok:∀ s ∈ scs,zro s:=fun s hm => by
  obtain ⟨t,ht,rfl⟩:=hs s hm
  exact sc_ok7 (zez hy ht)
 have hle:∀ l:List Rg,∀ s ∈ scs,zkp scs l ≤ zbx s l:=fun l s hm => (zhM (g:=fun s => zbx s l) scs _).2.1 s hm
 have hnn:∀ l:List Rg,0 ≤ zkp scs l:=fun l => by
  rcases (zhM (g:=fun s => zbx s l) scs (zbx (at_ scs 0) l)).2.2 with e | ⟨s,hm,e⟩
  ·unfold zkp; rw [e]; exact (zhD (hsok _ hat) l).1
  ·unfold zkp; rw [e]; exact (zhD (hsok _ hm) l).1
 obtain ⟨r,hr⟩:=zkI (zep y) y.chairs.length 0 0 []
 have hge:=b2 [] (by rw [hr]; simp)
 have:=hnn (List.map rgQ [])
 unfold zf5
 refine ⟨by omega,fun s hm => ?_⟩
 rcases b3 with e | ⟨l,hl,e⟩
 ·rw [e] at hge
  dsimp only at hge
  omega
 ·rw [e]
  obtain ⟨t,ht,rfl⟩:=hs s hm
  refine Int.le_trans (hle _ _ hm) (leaf_le hy ht hl ?_)
  have:=prN_lt _ _ _ _ l hl (fun q hq => by cases hq)
  exact fun q hq => by have:=this q hq; omega
/-! The bounds of some numbers. -/
def zmm (ms:List Int):Rg:=ms.foldl zb6 ⟨at_ ms 0,at_ ms 0⟩
theorem ziy:∀ (ms:List Int) (r:Rg),(ms.foldl zb6 r).lo ≤ r.lo ∧ r.hi ≤ (ms.foldl zb6 r).hi ∧ (∀ m ∈ ms,(ms.foldl zb6 r).lo ≤ m ∧ m ≤ (ms.foldl zb6 r).hi) ∧
  ((ms.foldl zb6 r).lo = r.lo ∨ (ms.foldl zb6 r).lo ∈ ms) ∧ ((ms.foldl zb6 r).hi = r.hi ∨ (ms.foldl zb6 r).hi ∈ ms)
 | [],r => ⟨Int.le_refl _,Int.le_refl _,fun s hs => (by cases hs),.inl rfl,.inl rfl⟩
 | a :: ms,r => by
  rw [List.foldl_cons]
  obtain ⟨h1,h2,h3,h4,h5⟩:=ziy ms (zb6 r a)
  have e1:(zb6 r a).lo = min r.lo a:=rfl
  have e2:(zb6 r a).hi = max r.hi a:=rfl
  refine ⟨by omega,by omega,fun x hx => ?_,?_,?_⟩
  ·rcases czn.1 hx with rfl | hx
   ·omega
   ·exact h3 x hx
  ·rcases h4 with h4 | h4
   ·by_cases q:r.lo ≤ a
    ·exact .inl (by omega)
    ·exact .inr (czn.2 (.inl (by omega)))
   ·exact .inr (by simp [h4])
  ·rcases h5 with h5 | h5
   ·by_cases q:a ≤ r.hi
    ·exact .inl (by omega)
    ·exact .inr (czn.2 (.inl (by omega)))
   ·exact .inr (by simp [h5])
theorem rng_spec {ms:List Int} (h:ms ≠ []):(∀ m ∈ ms,(zmm ms).lo ≤ m ∧ m ≤ (zmm ms).hi) ∧ (zmm ms).lo ∈ ms ∧ (zmm ms).hi ∈ ms:=by
 have hat:at_ ms 0 ∈ ms:=zaS (List.length_pos_iff.2 h)
 obtain ⟨_,_,h3,h4,h5⟩:=ziy ms ⟨at_ ms 0,at_ ms 0⟩
 refine ⟨h3,?_,?_⟩
 ·rcases h4 with e | e
  ·unfold zmm; rw [e]; exact hat
  ·exact e
 ·rcases h5 with e | e
  ·unfold zmm; rw [e]; exact hat
  ·exact e
def zeo (y:My):List Sc:=(zf7 y (zcR (flY y))).1
def zdB (y:My):List Int:=(zf7 y (zcR (flY y))).2
def znS (y:My):Rg × Int:=if (zeo y).length = 0 then (⟨0,0⟩,11) else (zmm (zdB y),0)
def surV (y:My):Tri (List Rg) Int Int:=if (zeo y).length = 0 then ⟨[],0,11⟩ else ⟨(zf5 y (zeo y)).1,(zf5 y (zeo y)).2,0⟩
def P236:zay:=zif [1000007] P235
theorem P236_app (g:FuncId) (h:¬ (g = 4000000000)):P236 g = P235 g:=by unfold P236 zif; rw [if_neg h]
theorem P236_ok:zam Tryz.prog P236:=zfo zn3
theorem P236_flag (d:Nat):zaw P236 (some d) = if d ∈ ([1000007]:List Nat) then some d else none:=zbK _ _ d
attribute [go_sem] P236_app P236_flag
theorem zpN (scs:List Sc) (l:List Rg) (h:((0 < scs.length ∧ scs.length ≤ 4096) ∧ ∀ s ∈ scs,zro s) ∧ zlM l):zaH Tryz.prog 37 [Enc.enc scs,Enc.enc l] (· = Enc.enc (zkp scs l)):=by
 obtain ⟨⟨⟨h0,hn⟩,hs⟩,hl⟩:=h
 have hg0:=zar (f:=(EncE.cs:Sc → List AV)) h0
 rw [zqL] at hg0
 have hs0:=hs _ (zaS h0)
 have h0':(0:Int) < scs.length:=by omega
 have hd7:List.drop 7 [AV.int .i64 0,.int .i64 0,.int .i64 0,.int .i64 0,.int .i64 0,.int .i64 0,.int .i64 0] = []:=rfl
 obtain ⟨S0,hS0⟩:∃ S0,at_ scs 0 = S0:=⟨_,rfl⟩
 rw [hS0] at hg0 hs0
 have htk0:List.take 7 (S0.fits.l.map (AV.int .i64)) = S0.fits.l.map (AV.int .i64):=zdA S0.fits
 have hGl0:=S0.fits.h
 unfold zkp
 rw [hS0]
 simp only [zbT]
 refine cpz zkd Tryz.func37 zaA ?_
 rw [Tryz.ntmps37]
 simp only [Tryz.f37,zaj,zao]
 simp (maxSteps:=4000000) only [go_sem,zae,zab,zac,zan,zaq,zaa,czb,cza,↓reduceIte,zaf,onz,hg0,htk0,h0',hd7,hGl0,List.append_nil]
 all_goals (repeat' first | (with_reducible first | rfl | apply And.intro | assumption) | ((with_reducible show zad _ _ = true); rfl)) <;> try first | omega | (simp only [InR]; omega)
 refine zbg (scs.length) [] [1,4,13,14] (fun i => [(15,.int .i64 i),(5,.int .i64 ((scs.take i).foldl (fun n s => min n (zbx s l)) (zbx S0 l)))]) (fun _ m => m) (fun _ => True) ?_ ?_ ?_ ?_
 ·trivial
 ·simp [AV.bare,zal,zaF,zaI,zak,zas,zai,tokz1,lk,zaa,zaZ,zfl]
 ·intro i hi _
  have hi':=czH.2 hi
  have hg:=zar (f:=(EncE.cs:Sc → List AV)) hi
  rw [zqL] at hg
  have hsi:=hs _ (zaS hi)
  have hst:=surM_take scs l hi
  rw [hS0] at hst
  obtain ⟨S,hS⟩:∃ S,at_ scs i = S:=⟨_,rfl⟩
  rw [hS] at hg hsi hst
  have hGl:=S.fits.h
  have htk7:List.take 7 (S.fits.l.map (AV.int .i64)) = S.fits.l.map (AV.int .i64):=zdA S.fits
  have hmn:∀ a b:Int,zqj [a,b] = min a b:=fun _ _ => rfl
  simp (maxSteps:=4000000) only [go_sem,zae,zab,zac,zan,zaq,zaa,czb,cza,↓reduceIte,zaf,onz,hi',hg,hi,hGl,htk7,hd7,hmn,List.append_nil]
  all_goals (repeat' first | (with_reducible first | rfl | apply And.intro | assumption) | ((with_reducible show zad _ _ = true); rfl)) <;> try first | omega | (simp only [InR]; omega)
  ·simp
  refine nxt hi trivial ?_
  simp [AV.bare,zal,zaF,zaI,zak,zas,zai,tokz1,lk,zaa,zaZ,zfl,hst]
 ·intro _
  simp (maxSteps:=4000000) only [go_sem,AV.one,zae,zab,zac,zan,zaq,zaa,czb,cza,↓reduceIte,zaf,onz,czA,czm]
  all_goals exact auz
theorem zob (y:My) (h:MOk y ∧ zbY y.chairs ≤ 8):zaH Tryz.prog 11 [Enc.enc y] (· = Enc.enc (znS y)):=by
 obtain ⟨hy,h8⟩:=h
 have hsp:=zd5 y (zcR (flY y))
 have hcnt:=zg9 h8
 unfold znS
 obtain ⟨scs,hscs⟩:∃ scs,zeo y = scs:=⟨_,rfl⟩
 obtain ⟨ms,hms⟩:∃ ms,zdB y = ms:=⟨_,rfl⟩
 have hmm:ms = scs.map zb3:=by rw [← hms,← hscs]; exact hsp.2.1
 have hle:scs.length ≤ 256:=by rw [← hscs]; exact Nat.le_trans hsp.1 hcnt
 have hml:ms.length = scs.length:=by rw [hmm,czz]
 rw [hscs,hms]
 simp only [zbT]
 refine cpz P236_ok Tryz.func11 zaA ?_
 rw [Tryz.ntmps11]
 simp only [Tryz.f11,zaj,zao]
 refine vc_Q fun Q0 hQ0 => ?_
 iterate 4 (
  refine zaz fun Q1 h1 => ?_
  simp (maxSteps:=4000000) only [go_sem,zae,zab,zac,zan,zaq,zaa,czb,cza,↓reduceIte,zaf,onz]
  all_goals (repeat' first | (with_reducible first | rfl | apply And.intro | assumption) | ((with_reducible show zad _ _ = true); rfl)) <;> try first | omega | (simp only [InR]; omega)
  rw [h1]; clear h1 Q1; simp only [zaO,zav])
 refine zaz fun Q1 h1 => ?_
 simp (maxSteps:=4000000) only [go_sem,zae,zab,zac,zan,zaq,zaa,czb,cza,↓reduceIte,zaf,onz]
 all_goals (repeat' first | (with_reducible first | rfl | apply And.intro | assumption) | ((with_reducible show zad _ _ = true); rfl)) <;> try first | omega | (simp only [InR]; omega)
 have hm:∀ o ∈ [AObj.cells (yC y),AObj.cells [AV.int .i64 0,.int .i64 0]],zcK [AObj.cells (yC y),AObj.cells [AV.int .i64 0,.int .i64 0]].length o:=by
  refine zc7 (k:=2) ⟨?_,?_,trivial⟩ <;> simp [AV.bare,zal,zaF,zaI,zak,zas,zai,tokz1,lk,zaa,zaZ,yC]
 have hwc:=zgc y hm
 have hkn:=zms (y:=y) hm
 unfold zlJ yC at hwc
 refine ⟨_,hwc,?_⟩
 rintro r m' ⟨rfl,rfl⟩ _
 simp (maxSteps:=4000000) only [go_sem,zae,zab,zac,zan,zaq,czb,cza,↓reduceIte,zaf,onz]
 all_goals (repeat' first | (with_reducible first | rfl | apply And.intro | assumption) | ((with_reducible show zad _ _ = true); rfl)) <;> try first | omega | (simp only [InR]; omega)
 have hsc:=zhd hy h8 hkn
 refine ⟨_,hsc,?_⟩
 rintro r m' ⟨rfl,⟨hl6,hmo⟩,hmf⟩ _
 have hl6:m'.length = 11:=hl6
 have e0:zaa m' 0 = .cells (yC y):=hmf 0 (by simp) (by simp)
 have e1:zaa m' 1 = .cells [.int .i64 0,.int .i64 0]:=hmf 1 (by simp) (by simp)
 rw [show (zf7 y (zcR (flY y))).1 = scs from hscs,show (zf7 y (zcR (flY y))).2 = ms from hms]
 clear hsc hkn hwc hm hmf hsp
 simp (maxSteps:=4000000) only [go_sem,zae,zab,zac,zan,zaq,czb,cza,↓reduceIte,zaf,onz]
 all_goals (repeat' first | (with_reducible first | rfl | apply And.intro | assumption) | ((with_reducible show zad _ _ = true); rfl)) <;> try first | omega | (simp only [InR]; omega)
 rw [h1]; clear h1 Q1; simp only [zaO,zav]
 have f0:∀ r,zaa (m' ++ r) 11 = zaa r 0:=fun r => by rw [← hl6]; exact zaE _ _ 0
 have f1:∀ r,zaa (m' ++ r) 12 = zaa r 1:=fun r => by rw [show 12 = m'.length + 1 by omega]; exact zaE _ _ 1
 have s0:∀ r o,(m' ++ r).set 11 o = m' ++ r.set 0 o:=fun r o => by rw [← hl6]; exact zb8 _ _ 0 _
 have s1:∀ r o,(m' ++ r).set 12 o = m' ++ r.set 1 o:=fun r o => by rw [show 12 = m'.length + 1 by omega]; exact zb8 _ _ 1 _
 have u1:∀ o,zaa (m'.set 1 o) 1 = o:=fun o => zbm (by omega) o
 have v1:∀ r,zaa (m' ++ r) 1 = .cells [.int .i64 0,.int .i64 0]:=fun r => (zaB (by omega)).trans e1
 have w1:∀ r o,(m' ++ r).set 1 o = m'.set 1 o ++ r:=fun r o => List.set_append_left _ _ (by omega)
 have x1:∀ r o,zaa (m'.set 1 o ++ r) 1 = o:=fun r o => (zaB (by rw [czt]; omega)).trans (u1 o)
 by_cases hz:scs.length = 0
 ·rw [if_pos hz] at hQ0
  have hz':decide ((ms.length:Int) = 0) = true:=by rw [decide_eq_true_eq]; omega
  refine zaz fun Q1 h1 => ?_
  simp (maxSteps:=4000000) only [go_sem,zae,zab,zac,zan,zaq,czb,cza,↓reduceIte,zaf,onz,hz']
  all_goals (repeat' first | (with_reducible first | rfl | apply And.intro | assumption) | ((with_reducible show zad _ _ = true); rfl)) <;> try first | omega | (simp only [InR]; omega)
  rw [h1]; clear h1 Q1; simp only [zaO,zav]
  simp (maxSteps:=4000000) only [go_sem,zae,zab,zac,zan,zaq,czb,cza,↓reduceIte,zaf,onz,hQ0,e1,u1]
  all_goals exact auz
 rw [if_neg hz] at hQ0
 have hz':decide ((ms.length:Int) = 0) = false:=by rw [decide_eq_false_iff_not]; omega
 have hm0:0 < ms.length:=by omega
 have hm0':(0:Int) < ms.length:=by omega
 have hg0:=zar (f:=EncE.cs) hm0
 iterate 2 (
  refine zaz fun Q1 h1 => ?_
  simp (maxSteps:=4000000) only [go_sem,zae,zab,zac,zan,zaq,czb,cza,↓reduceIte,zaf,onz,hz']
  all_goals (repeat' first | (with_reducible first | rfl | apply And.intro | assumption) | ((with_reducible show zad _ _ = true); rfl)) <;> try first | omega | (simp only [InR]; omega)
  rw [h1]; clear h1 Q1; simp only [zaO,zav])
 refine zaz fun Q1 h1 => ?_
 simp (maxSteps:=4000000) only [go_sem,zae,zab,zac,zan,zaq,czb,cza,↓reduceIte,zaf,onz]
 all_goals (repeat' first | (with_reducible first | rfl | apply And.intro | assumption) | ((with_reducible show zad _ _ = true); rfl)) <;> try first | omega | (simp only [InR]; omega)
 refine ⟨36,by rfl,?_⟩
 simp (maxSteps:=4000000) only [go_sem,zae,zab,zac,zan,zaq,czb,cza,↓reduceIte,zaf,onz,(show Nat.testBit 36 399 = false from rfl),Bool.false_and,Bool.true_and,czp,(show Nat.testBit 36 200 = false from rfl),(show ∀ m,zdU false m = m from fun _ => rfl),zda,zce,znk,zjW,vcFr,Go.Fs.freeR,effL,zlF,zgH,List.all_cons,List.all_nil,List.contains_cons,List.contains_nil,Nat.reduceBEq,Bool.or_self,(show Nat.testBit 36 0 = false from rfl),(show Nat.testBit 36 1 = false from rfl),(show Nat.testBit 36 2 = true from rfl),(show Nat.testBit 36 3 = false from rfl),(show Nat.testBit 36 4 = false from rfl),(show Nat.testBit 36 5 = true from rfl),(show Nat.testBit 36 6 = false from rfl),(show Nat.testBit 36 7 = false from rfl),(show Nat.testBit 36 8 = false from rfl),(show Nat.testBit 36 9 = false from rfl),(show Nat.testBit 36 10 = false from rfl),(show Nat.testBit 36 11 = false from rfl),hg0,hm0,hm0',hl6,f0,f1,s0,s1,czd,czc]
 all_goals (repeat' first | (with_reducible first | rfl | apply And.intro | assumption) | ((with_reducible show zad _ _ = true); rfl)) <;> try first | omega | (simp only [InR]; omega)
 rw [h1]; clear h1 Q1; simp only [zaO,zav]
 refine zaz fun Q1 h1 => ?_
 simp (maxSteps:=4000000) only [go_sem,zae,zab,zac,zan,zaq,czb,cza,↓reduceIte,zaf,onz]
 all_goals (repeat' first | (with_reducible first | rfl | apply And.intro | assumption) | ((with_reducible show zad _ _ = true); rfl)) <;> try first | omega | (simp only [InR]; omega)
 rw [h1]; clear h1 Q1; simp only [zaO,zav]
 simp (maxSteps:=4000000) only [go_sem,zae,zab,zac,zan,zaq,czb,cza,↓reduceIte,zaf,onz]
 have hlk:∀ a b:AObj,(m' ++ [a,b]).length = 13:=fun a b => by rw [czc,hl6]; rfl
 have hok:∀ R:Rg,∀ o ∈ m' ++ [AObj.cells [.int .i64 R.lo,.int .i64 R.hi],AObj.cells [.fn (.func 31) [] []]],zcK (m' ++ [AObj.cells [.int .i64 R.lo,.int .i64 R.hi],AObj.cells [.fn (.func 31) [] []]]).length o:=fun R => by
  rw [hlk]
  exact zfk hmo (by omega) ⟨by simp [AV.bare,zal,zaF,zaI,zak,zas,zai,tokz1,lk,zaa,zaZ],by simp [AV.bare,zal,zaF,zaI,zak,zas,zai,tokz1,lk,zaa,zaZ],trivial⟩
 refine zbg (ms.length) [] [2,3,7,8,35,36] (fun i => [(37,.int .i64 i)]) (fun i m => m.set 11 (.cells (EncE.cs ((ms.take i).foldl zb6 ⟨at_ ms 0,at_ ms 0⟩)))) (fun _ => True) ?_ ?_ ?_ ?_
 ·trivial
 ·simp only [zai,s0,List.set_cons_zero,zcX,List.take_zero,List.foldl_nil,cs_rg]
  refine ⟨rfl,rfl,rfl,?_,zbd _,?_,zb5 (hok ⟨at_ ms 0,at_ ms 0⟩),trivial⟩
  ·rw [hlk]; exact Nat.zero_le _
  ·show zaF _ (m' ++ [_,_]).length _
   rw [hlk]
   simp [AV.bare,zal,zaF,zaI,zak,zas,zai,tokz1,lk,zaa,zaZ,zfl]
 ·intro i hi _
  have hi':=czH.2 hi
  have hg:=zar (f:=EncE.cs) hi
  have hfo:(ms.take (i + 1)).foldl zb6 ⟨at_ ms 0,at_ ms 0⟩ = zb6 ((ms.take i).foldl zb6 ⟨at_ ms 0,at_ ms 0⟩) (at_ ms i):=by rw [zaM hi,List.foldl_append]; rfl
  rw [zai]
  simp only [s0,List.set_cons_zero,zcX]
  generalize (ms.take i).foldl zb6 ⟨at_ ms 0,at_ ms 0⟩ = R at hfo ⊢
  simp (maxSteps:=4000000) only [go_sem,zae,zab,zac,zan,zaq,czb,cza,↓reduceIte,zaf,onz,hi',hg,hi,hl6,f0,f1,s0,s1]
  all_goals (repeat' first | (with_reducible first | rfl | apply And.intro | assumption) | ((with_reducible show zad _ _ = true); rfl)) <;> try first | omega | (simp only [InR]; omega)
  refine nxt hi trivial ?_
  simp only [zai,s0,List.set_cons_zero,zcX,hfo]
  refine ⟨rfl,rfl,rfl,?_,zbd _,?_,zb5 (hok (zb6 R (at_ ms i))),trivial⟩
  ·rw [hlk]; exact Nat.zero_le _
  ·show zaF _ (m' ++ [_,_]).length _
   rw [hlk]
   simp [AV.bare,zal,zaF,zaI,zak,zas,zai,tokz1,lk,zaa,zaZ,zfl]
 ·intro _
  rw [zai]
  simp only [s0,List.set_cons_zero,zcX,czm]
  have hrl:ms.foldl zb6 ⟨at_ ms 0,at_ ms 0⟩ = zmm ms:=rfl
  rw [hrl]
  generalize zmm ms = R at hQ0 ⊢
  simp (maxSteps:=4000000) only [go_sem,zae,zab,zac,zan,zaq,czb,cza,↓reduceIte,zaf,onz,czA,hl6,f0,f1,v1,w1,x1,hQ0]
  all_goals exact auz
theorem zll {P:Program} {g:FuncId} {args:List AV} {mem:List AObj} {R:AV → List AObj → Prop} (h:zet P g (args.map AV.strip) mem R):zet P g args mem R :=
 ⟨h.1,fun X κ ρ τ w vs h1 h2 h3 h4 => h.2 X κ ρ τ w vs h1 h2 (by simpa using h3) (fun i hi => by
  rw [zbz]
  exact (h4 i (by simpa using hi)).strip)⟩
theorem zgD (l:List Rg) (h:l.length ≤ 4096):zfD Tryz.prog 38 [Enc.enc l] 2 (l.map EncE.cs):=by
 simp only [zbT]
 refine zhU (Φ:=P234) Tryz.func38 rfl (by rfl) (by rw [Tryz.ntmps38]; simp) zaA zkd (by simp [AV.strip,AV.strip1,Tk.strip]) (by decide) ?_
 rw [Tryz.ntmps38]
 simp only [Tryz.f38,zaj,zao]
 simp (maxSteps:=4000000) only [go_sem,AV.one,zae,zab,zac,zan,zaq,zaa,czb,cza,↓reduceIte,zaf,onz,frR]
 intro b hb
 cases b
 ·simp (maxSteps:=4000000) only [go_sem,AV.one,zae,zab,zac,zan,zaq,zaa,czb,cza,↓reduceIte,zaf,onz,frR]
  all_goals (repeat' first | (with_reducible first | rfl | apply And.intro | assumption) | ((with_reducible show zad _ _ = true); rfl)) <;> try first | omega | (simp only [InR]; omega)
  all_goals (simp [cs_rg,AV.one])
 ·have:l = []:=by simpa using hb
  subst this
  simp (maxSteps:=4000000) only [go_sem,AV.one,zae,zab,zac,zan,zaq,zaa,czb,cza,↓reduceIte,zaf,onz,frR]
def P237 (g:FuncId):=(zat 11 (zbN (fun y:My => MOk y ∧ zbY y.chairs ≤ 8) znS) (zat 37 (zbD (fun (scs:List Sc) (l:List Rg) => ((0 < scs.length ∧ scs.length ≤ 4096) ∧ ∀ s ∈ scs,zro s) ∧ zlM l) zkp) (zat 38 (zku (fun l:List Rg => l.length ≤ 4096) (fun l => l)) (P234))):zay) g
theorem zkc:zam Tryz.prog P237:=zah (zaN zob) (zah (zaK zpN) (zah (zkt zgD) (zkd)))
theorem zh9 (d:Option Nat):zaw P237 d = none:=(zag (by decide) d).trans ((zag (by decide) d).trans ((zag (by decide) d).trans (zlP d)))
attribute [go_sem] P237 zh9
theorem callF_P0 {P:Program} {g:FuncId} {args:List AV} {sz:Nat} {es:List (List AV)} (h:zfD P g args sz es):zaH P g args (· = .sl es .no) :=
 ⟨h.1,fun κ w vs hk hs hr => (h.2 κ w vs hk hs hr).mono (by
  rintro e w' ⟨x,κ',rfl,h1,h2,_⟩
  exact ⟨x,κ',_,rfl,rfl,h1,h2⟩)⟩
def P2371 (g:FuncId):=(zat 38 (zbN (fun l:List Rg => l.length ≤ 4096) (fun l => l)) (P237):zay) g
theorem P2371_ok:zam Tryz.prog P2371:=zah (zaN fun l h => callF_P0 (zgD l h)) (zkc)
theorem zrb (d:Option Nat):zaw P2371 d = none:=(zag (by decide) d).trans (zh9 d)
attribute [go_sem] P2371 zrb
structure SuM (y:My) (scs:List Sc) (b:List Rg × Int) (mem:List AObj):Prop where
 len:14 ≤ mem.length
 m0:zaa mem 0 = .cells (yC y)
 m1:∃ tk,(tk = Tk.no ∨ tk = Tk.full) ∧ zaa mem 1 = .cells [.sl (b.1.map EncE.cs) tk]
 m2:zaa mem 2 = .cells [.int .i64 b.2]
 m12:zaa mem 12 = .cells [.sl (scs.map EncE.cs) .no]
 m13:zaa mem 13 = .cells [.fn (.func 36) [] [.ptr 0 0,.ptr 12 0,.ptr 2 0,.ptr 1 0,.ptr 13 0]]
 ok:∀ o ∈ mem,zcK mem.length o
def FrS (M M':List AObj):Prop:=M'.length = M.length ∧ ∀ l,l ≠ 1 → l ≠ 2 → zaa M' l = zaa M l
theorem FrS.trans {A B C:List AObj} (h1:FrS A B) (h2:FrS B C):FrS A C:=⟨h2.1.trans h1.1,fun l a b => (h2.2 l a b).trans (h1.2 l a b)⟩
theorem FrS.refl (A:List AObj):FrS A A:=⟨rfl,fun _ _ _ => rfl⟩
section
variable {y:My} {scs:List Sc} {b:List Rg × Int} {M:List AObj}
theorem SuM.push (h:SuM y scs b M) {rs:List AObj} (ho:zaI (M.length + rs.length) rs):SuM y scs b (M ++ rs):=by
 have hl:=h.len
 have key:∀ i,i < 14 → zaa (M ++ rs) i = zaa M i:=fun i hi => zaB (by omega)
 obtain ⟨tk,h1,h2⟩:=h.m1
 refine ⟨by rw [czc]; omega,(key 0 (by omega)).trans h.m0,⟨tk,h1,(key 1 (by omega)).trans h2⟩,(key 2 (by omega)).trans h.m2,(key 12 (by omega)).trans h.m12,(key 13 (by omega)).trans h.m13,fun x hx => ?_⟩
 rw [czc]
 rcases czv.1 hx with q | q
 ·exact zcQ (by omega) _ (h.ok x q)
 ·exact zc7 ho x q
theorem SuM.pop {b':List Rg × Int} (h:SuM y scs b M) {rs M':List AObj} (h':SuM y scs b' M') (hf:FrS (M ++ rs) M'):∃ M2,M' = M2 ++ rs ∧ SuM y scs b' M2 ∧ FrS M M2:=by
 have hl:=h.len
 have hl':=hf.1
 rw [czc] at hl'
 have e:M' = M'.take M.length ++ rs:=by
  conv => lhs; rw [← List.take_append_drop M.length M']
  congr 1
  refine List.ext_getElem (by rw [List.length_drop]; omega) fun i h1 h2 => ?_
  rw [List.getElem_drop,← zbV (by omega),hf.2 (M.length + i) (by omega) (by omega),zaE]
  exact zbV h2
 have hget:∀ l,l < M.length → zaa (M'.take M.length) l = zaa M' l:=fun l hl2 => by
  conv => rhs; rw [e]
  rw [zaB (by rw [czO]; omega)]
 have htl:(M'.take M.length).length = M.length:=by rw [czO]; omega
 obtain ⟨tk,k1,k2⟩:=h'.m1
 have hm1:zaa (M'.take M.length) 1 = .cells [.sl (b'.1.map EncE.cs) tk]:=(hget 1 (by omega)).trans k2
 have hm2:zaa (M'.take M.length) 2 = .cells [.int .i64 b'.2]:=(hget 2 (by omega)).trans h'.m2
 refine ⟨M'.take M.length,e,⟨by omega,(hget 0 (by omega)).trans h'.m0,⟨tk,k1,hm1⟩,hm2,(hget 12 (by omega)).trans h'.m12,(hget 13 (by omega)).trans h'.m13,fun x hx => ?_⟩,htl,fun l hl1 hl2 => ?_⟩
 ·obtain ⟨l,hl2,rfl⟩:=List.mem_iff_getElem.1 hx
  rw [← zbV hl2,htl]
  by_cases c1:l = 1
  ·subst c1
   rw [hm1]
   rcases k1 with rfl | rfl <;> simp [AV.bare,zal,zaF,zaI,zak,zas,zai,tokz1,lk,zaa,zaZ]
  ·by_cases c2:l = 2
   ·subst c2
    rw [hm2]
    simp [AV.bare,zal,zaF,zaI,zak,zas,zai,tokz1,lk,zaa,zaZ]
   ·rw [hget l (by omega),hf.2 l c1 c2,zaB (by omega),zbV (by omega)]
    exact h.ok _ (List.getElem_mem _)
 ·by_cases q:l < M.length
  ·rw [hget l q,hf.2 l hl1 hl2,zaB (by omega)]
  ·unfold zaa
   simp [List.getD,czB (show (M'.take M.length).length ≤ l by omega),czB (show M.length ≤ l by omega)]
theorem SuM.set (h:SuM y scs b M) (b':List Rg × Int):SuM y scs b' ((M.set 1 (.cells [.sl (b'.1.map EncE.cs) .no])).set 2 (.cells [.int .i64 b'.2])) ∧ FrS M ((M.set 1 (.cells [.sl (b'.1.map EncE.cs) .no])).set 2 (.cells [.int .i64 b'.2])):=by
 have hl:=h.len
 have key:∀ i,i ≠ 1 → i ≠ 2 → ∀ o o',zaa ((M.set 1 o).set 2 o') i = zaa M i:=fun i h1 h2 o o' => by
  unfold zaa
  simp [List.getD,List.getElem?_set,show ¬ 2 = i from fun q => h2 q.symm,show ¬ 1 = i from fun q => h1 q.symm]
 refine ⟨⟨by simp; omega,(key 0 (by omega) (by omega) _ _).trans h.m0,⟨.no,.inl rfl,?_⟩,?_,(key 12 (by omega) (by omega) _ _).trans h.m12,(key 13 (by omega) (by omega) _ _).trans h.m13,fun o ho => ?_⟩,by simp,fun l h1 h2 => key l h1 h2 _ _⟩
 ·unfold zaa
  simp [List.getD,List.getElem?_set,show 1 < M.length by omega]
 ·unfold zaa
  simp [List.getD,List.getElem?_set,show 2 < M.length by omega]
 ·rw [czt,czt]
  rcases List.mem_or_eq_of_mem_set ho with q | q
  ·rcases List.mem_or_eq_of_mem_set q with q | q
   ·exact h.ok o q
   ·subst q; simp [AV.bare,zal,zaF,zaI,zak,zas,zai,tokz1,lk,zaa,zaZ]
  ·subst q; simp [AV.bare,zal,zaF,zaI,zak,zas,zai,tokz1,lk,zaa,zaZ]
end
theorem pairOk7 {l:List (Nat × Nat)} (h:(∀ q ∈ l,q.1 < 7 ∧ q.2 < 7) ∧ l.length ≤ 7):zlM (l.map rgQ):=by
 refine ⟨by rw [czz]; omega,fun q hq => ?_⟩
 obtain ⟨x,hx,rfl⟩:=czx.1 hq
 have:=h.1 x hx
 unfold rgQ
 dsimp only
 omega
section
variable {y:My} {scs:List Sc} {M:List AObj}
theorem zq2 (hy:MOk y) (h0:0 < scs.length ∧ scs.length ≤ 4096) (hs:∀ s ∈ scs,zro s) {b:List Rg × Int} {l:List (Nat × Nat)} (w:Nat) (hM:SuM y scs b M) (hl:(∀ q ∈ l,q.1 < 7 ∧ q.2 < 7) ∧ l.length ≤ 7) :
  zet Tryz.prog 36 [.sl ((l.map rgQ).map EncE.cs) .no,.int .i64 (y.chairs.length:Int),.int .i64 (w:Int),.ptr 0 0,.ptr 12 0,.ptr 2 0,.ptr 1 0,.ptr 13 0] M
   (fun r M' => r = .tup [] ∧ SuM y scs (zhV scs b [l]) M' ∧ FrS M M'):=by
 have hlen:=hM.len
 have g0:=hM.m0
 unfold yC at g0
 obtain ⟨tk,htk,g1⟩:=hM.m1
 have g2:=hM.m2
 have g12:=hM.m12
 have hpo:=pairOk7 hl
 have hpl:=hpo.1
 obtain ⟨hS,hF⟩:=hM.set (l.map rgQ,zkp scs (l.map rgQ))
 have hok:=hM.ok
 have hok2:=hS.ok
 dsimp only at hS hF hok2
 rw [czt,czt] at hok2
 obtain ⟨L,hL⟩:∃ L,l.map rgQ = L:=⟨_,rfl⟩
 have e:zhV scs b [l] = if b.2 < zkp scs L then (L,zkp scs L) else b:=by show bstM scs b l = _; unfold bstM; rw [hL]
 rw [e]
 rw [hL] at hpo hpl hS hF hok2 ⊢
 have gu:∀ o,zaa (M.set 1 o) 2 = .cells [.int .i64 b.2]:=fun o => by
  rw [zap _ _ _ _ (by omega),if_neg (by omega)]; exact g2
 refine zbW (Φ:=P2371) Tryz.func36 rfl (by rfl) (by rw [Tryz.ntmps36]; simp) zaA P2371_ok (by simp [AV.strip,AV.strip1,Tk.strip]) ?_
 rw [Tryz.ntmps36]
 simp only [Tryz.f36,zaj,zao]
 cases c:decide (b.2 < zkp scs L)
 ·rw [if_neg (by simpa using c)]
  simp (maxSteps:=4000000) only [go_sem,zae,zab,zac,zan,zaq,czb,cza,↓reduceIte,zaf,onz,g0,g1,g2,g12,c]
  all_goals (repeat' first | (with_reducible first | rfl | apply And.intro | assumption) | ((with_reducible show zad _ _ = true); rfl)) <;> try first | omega | (simp only [InR]; omega)
  all_goals (try rw [czm])
  ·exact hM
  ·exact FrS.refl _
  ·simp [AV.bare,zal,zaF,zaI,zak,zas,zai,tokz1,lk,zaa,zaZ]
  ·exact hok
 ·rw [if_pos (by simpa using c)]
  simp (maxSteps:=4000000) only [go_sem,zae,zab,zac,zan,zaq,czb,cza,↓reduceIte,zaf,onz,g0,g1,g2,g12,gu,c]
  all_goals (repeat' first | (with_reducible first | rfl | apply And.intro | assumption) | ((with_reducible show zad _ _ = true); rfl)) <;> try first | omega | (simp only [InR]; omega)
  all_goals (try rw [cze (by rw [czt,czt]; exact czf _)])
  ·exact hS
  ·exact hF
  ·simp [AV.bare,zal,zaF,zaI,zak,zas,zai,tokz1,lk,zaa,zaZ]
  ·exact hok2
theorem zh4:∀ (l r:List AObj),zak l (l ++ r)
 | [],r => trivial
 | a :: l,r => ⟨rfl,zh4 l r⟩
theorem zq3 (hy:MOk y) (h0:0 < scs.length ∧ scs.length ≤ 4096) (hs:∀ s ∈ scs,zro s) {f:Nat}
  (ih:∀ (b:List Rg × Int) (l:List (Nat × Nat)) (c w:Nat) (M:List AObj),c + f = y.chairs.length → w < 128 → SuM y scs b M → (∀ q ∈ l,q.1 < 7 ∧ q.2 < 7) ∧ l.length ≤ c →
   zet Tryz.prog 36 [.sl ((l.map rgQ).map EncE.cs) .no,.int .i64 (c:Int),.int .i64 (w:Int),.ptr 0 0,.ptr 12 0,.ptr 2 0,.ptr 1 0,.ptr 13 0] M
    (fun r M' => r = .tup [] ∧ SuM y scs (zhV scs b (prN (zep y) f c w l)) M' ∧ FrS M M'))
  {b:List Rg × Int} {l:List (Nat × Nat)} {c w:Nat} (hc:c + (f + 1) = y.chairs.length) (hw:w < 128) (hM:SuM y scs b M) (hl:(∀ q ∈ l,q.1 < 7 ∧ q.2 < 7) ∧ l.length ≤ c) :
  zet Tryz.prog 36 [.sl ((l.map rgQ).map EncE.cs) .no,.int .i64 (c:Int),.int .i64 (w:Int),.ptr 0 0,.ptr 12 0,.ptr 2 0,.ptr 1 0,.ptr 13 0] M
   (fun r M' => r = .tup [] ∧ SuM y scs (zhV scs b (prN (zep y) (f + 1) c w l)) M' ∧ FrS M M'):=by
 have h7:=hy.len
 have hlen:=hM.len
 have g0:=hM.m0
 unfold yC at g0
 have g13:=hM.m13
 have hok:=hM.ok
 have hcl:decide ((c:Int) = (y.chairs.length:Int)) = false:=by rw [decide_eq_false_iff_not]; omega
 have hih:=ih b l (c + 1) w M (by omega) hw hM ⟨hl.1,by omega⟩
 rw [show ((c + 1:Nat):Int) = (c:Int) + 1 by omega] at hih
 rw [prN_succ]
 refine zbW (Φ:=P237) Tryz.func36 rfl (by rfl) (by rw [Tryz.ntmps36]; simp) zaA zkc (by simp [AV.strip,AV.strip1,Tk.strip]) ?_
 rw [Tryz.ntmps36]
 simp only [Tryz.f36,zaj,zao]
 refine vc_Q fun Q0 hQ0 => ?_
 refine zaz fun Q1 h1 => ?_
 simp (maxSteps:=4000000) only [go_sem,zae,zab,zac,zan,zaq,czb,cza,↓reduceIte,zaf,onz,g0,hcl]
 all_goals (repeat' first | (with_reducible first | rfl | apply And.intro | assumption) | ((with_reducible show zad _ _ = true); rfl)) <;> try first | omega | (simp only [InR]; omega)
 rw [h1]; clear h1 Q1; simp only [zaO,zav]
 refine zaz fun Q1 h1 => ?_
 simp (maxSteps:=4000000) only [go_sem,zae,zab,zac,zan,zaq,czb,cza,↓reduceIte,zaf,onz,g13]
 all_goals (repeat' first | (with_reducible first | rfl | apply And.intro | assumption) | ((with_reducible show zad _ _ = true); rfl)) <;> try first | omega | (simp only [InR]; omega)
 refine ⟨_,za6 hih,?_⟩
 rintro r M1 ⟨r0,rfl,⟨rfl,hM1,hF1⟩,hlen1⟩ _
 rw [h1]; clear h1 Q1; simp only [zaO,zav]
 rw [← zkJ] at hM1
 clear hih g0 g13 hcl
 refine zaz fun Q1 h1 => ?_
 simp (maxSteps:=4000000) only [go_sem,zae,zab,zac,zan,zaq,zaa,czb,cza,↓reduceIte,zaf,onz]
 all_goals (repeat' first | (with_reducible first | rfl | apply And.intro | assumption) | ((with_reducible show zad _ _ = true); rfl)) <;> try first | omega | (simp only [InR]; omega)
 rw [h1]; clear h1 Q1; simp only [zaO,zav]
 refine zqn [] [0,1,2,3,7] (fun z:Nat × List AObj => [(12,.int .i64 ((c + 1 + z.1:Nat):Int))]) (fun z _ => z.2) (fun z => z.1 ≤ f ∧ SuM y scs (zhV scs b (zmo (zep y) f c w l z.1)) z.2 ∧ FrS M z.2) (fun z => f - z.1) (((0,M1):Nat × List AObj)) ?_ ?_ ?_
 ·exact ⟨Nat.zero_le _,hM1,hF1⟩
 ·refine ⟨rfl,rfl,rfl,?_,zbd _,?_,zb5 hM1.ok,trivial⟩
  ·show M.length ≤ M1.length
   omega
  ·show zaF _ M1.length _
   simp [AV.bare,zal,zaF,zaI,zak,zas,zai,tokz1,lk,zaa,zaZ,show 0 < M1.length by omega,show 1 < M1.length by omega,show 2 < M1.length by omega,show 12 < M1.length by omega,show 13 < M1.length by omega,-List.map_map]
 ·rintro ⟨j,M2⟩ ⟨hj,hM2,hF2⟩
  simp only at hj hM2 hF2
  have g0:=hM2.m0
  unfold yC at g0
  have g13:=hM2.m13
  have hlen2:=hM2.len
  have hok2:=hM2.ok
  have hMl:=hF2.1
  have hbc:=bit_0 w c
  have hnn:=zgt w c
  have hfin:List.take M.length M2 = M2:=cze (by omega)
  have hok3:∀ o ∈ M2,zcK M.length o:=by rw [← hMl]; exact hok2
  by_cases hjf:j < f
  case neg =>
   have hje:j = f:=by omega
   subst hje
   have hlt:decide (((c + 1 + j:Nat):Int) < (y.chairs.length:Int)) = false:=by rw [decide_eq_false_iff_not]; omega
   cases hwc:w.testBit c <;> rw [hwc] at hbc <;> simp (maxSteps:=4000000) only [go_sem,zae,zab,zac,zan,zaq,czb,cza,↓reduceIte,zaf,onz,g0,hlt,hbc,hQ0]
   all_goals (rw [hfin]; exact ⟨⟨hM2,hF2⟩,by simp [AV.bare,zal,zaF,zaI,zak,zas,zai,tokz1,lk,zaa,zaZ],hok3⟩)
  case pos =>
   have hlt:decide (((c + 1 + j:Nat):Int) < (y.chairs.length:Int)) = true:=by rw [decide_eq_true_eq]; omega
   cases hwc:w.testBit c
   case true =>
    rw [hwc] at hbc
    simp (maxSteps:=4000000) only [go_sem,zae,zab,zac,zan,zaq,czb,cza,↓reduceIte,zaf,onz,g0,hlt,hbc,hQ0]
    rw [hfin,zf9 hwc]
    rw [zf9 hwc] at hM2
    all_goals (repeat' first | (with_reducible first | rfl | apply And.intro | assumption) | ((with_reducible show zad _ _ = true); rfl)) <;> try first | omega | (simp only [InR]; omega)
    all_goals (simp [AV.bare,zal,zaF,zaI,zak,zas,zai,tokz1,lk,zaa,zaZ])
   case false =>
    rw [hwc] at hbc
    have hbj:=bit_0 w (c + 1 + j)
    have hnj:=zgt w (c + 1 + j)
    have hsn:=zkK (zep y) f c w l j
    rw [hwc] at hsn
    have hnr:zep y c (c + 1 + j) = zil y (c:Int) ((c + 1 + j:Nat):Int):=rfl
    obtain ⟨B,hB⟩:∃ B,c + 1 + j = B:=⟨_,rfl⟩
    rw [hB] at hbj hnj hsn hnr hlt ⊢
    have hnext:∀ (M3 rs:List AObj) (X:List (List (Nat × Nat))) (tm:List (Nat × AV)) (n pr:Nat),zmo (zep y) f c w l (j + 1) = zmo (zep y) f c w l j ++ X → SuM y scs (zhV scs (zhV scs b (zmo (zep y) f c w l j)) X) M3 → FrS M2 M3 → pr ≤ M.length →
      zaF tm M.length [(12,.int .i64 ((c + 1 + (j + 1):Nat):Int)),(0,AV.sl (List.map EncE.cs (List.map rgQ l)) Tk.no),(1,.int .i64 (c:Int)),(2,.int .i64 (w:Int)),(3,.ptr 0 0),(7,.ptr 13 0)] →
      ∃ b':Nat × List AObj,(b'.1 ≤ f ∧ SuM y scs (zhV scs b (zmo (zep y) f c w l b'.1)) b'.2 ∧ FrS M b'.2) ∧ f - b'.1 < f - j ∧
       zrn ⟨tm,M3 ++ rs,n,[],pr⟩ ⟨[(12,.int .i64 ((c + 1 + b'.1:Nat):Int)),(0,AV.sl (List.map EncE.cs (List.map rgQ l)) Tk.no),(1,.int .i64 (c:Int)),(2,.int .i64 (w:Int)),(3,.ptr 0 0),(7,.ptr 13 0)],b'.2,n,[],pr⟩:=fun M3 rs X tm n pr e hS hF hpr hsm => by
     have hl3:M3.length = M.length:=by rw [hF.1]; exact hMl
     refine ⟨(j + 1,M3),⟨by dsimp only; omega,by dsimp only; rw [e,bstN_app]; exact hS,hF2.trans hF⟩,by dsimp only; omega,zbj ⟨rfl,rfl,rfl,by dsimp only; omega,zh4 _ _,?_,zb5 hS.ok,trivial⟩⟩
     dsimp only
     rw [hl3]; exact hsm
    have hnext0:∀ (tm:List (Nat × AV)) (n pr:Nat),zmo (zep y) f c w l (j + 1) = zmo (zep y) f c w l j ++ [] → pr ≤ M.length →
      zaF tm M.length [(12,.int .i64 ((c + 1 + (j + 1):Nat):Int)),(0,AV.sl (List.map EncE.cs (List.map rgQ l)) Tk.no),(1,.int .i64 (c:Int)),(2,.int .i64 (w:Int)),(3,.ptr 0 0),(7,.ptr 13 0)] →
      ∃ b':Nat × List AObj,(b'.1 ≤ f ∧ SuM y scs (zhV scs b (zmo (zep y) f c w l b'.1)) b'.2 ∧ FrS M b'.2) ∧ f - b'.1 < f - j ∧
       zrn ⟨tm,M2,n,[],pr⟩ ⟨[(12,.int .i64 ((c + 1 + b'.1:Nat):Int)),(0,AV.sl (List.map EncE.cs (List.map rgQ l)) Tk.no),(1,.int .i64 (c:Int)),(2,.int .i64 (w:Int)),(3,.ptr 0 0),(7,.ptr 13 0)],b'.2,n,[],pr⟩:=fun tm n pr e hpr hsm => by
     have:=hnext M2 [] [] tm n pr e hM2 (FrS.refl _) hpr hsm
     rwa [List.append_nil] at this
    have h13:13 < M.length:=by omega
    have h0M:0 < M.length:=by omega
    cases hwb:w.testBit B
    case true =>
     rw [hwb] at hbj hsn
     simp (maxSteps:=4000000) only [go_sem,zae,zab,zac,zan,zaq,czb,cza,↓reduceIte,zaf,onz,g0,hlt,hbc,hbj]
     all_goals (repeat' first | (with_reducible first | rfl | apply And.intro | assumption) | ((with_reducible show zad _ _ = true); rfl)) <;> try first | omega | (simp only [InR]; omega)
     refine hnext0 _ _ _ hsn (czf _) ?_
     simp [AV.bare,zal,zaF,zaI,zak,zas,zai,tokz1,lk,zaa,zaZ,h13,h0M,-List.map_map]
     omega
    case false =>
     rw [hwb] at hbj hsn
     cases hne:zil y (c:Int) (B:Int)
     case false =>
      rw [hnr,hne] at hsn
      simp (maxSteps:=4000000) only [go_sem,zae,zab,zac,zan,zaq,czb,cza,↓reduceIte,zaf,onz,g0,hlt,hbc,hbj,hne]
      all_goals (repeat' first | (with_reducible first | rfl | apply And.intro | assumption) | ((with_reducible show zad _ _ = true); rfl)) <;> try first | omega | (simp only [InR]; omega)
      refine hnext0 _ _ _ hsn (czf _) ?_
      simp [AV.bare,zal,zaF,zaI,zak,zas,zai,tokz1,lk,zaa,zaZ,h13,h0M,-List.map_map]
      omega
     case true =>
      rw [hnr,hne] at hsn
      have q13:∀ r,zaa (M2 ++ r) 13 = _:=fun r => (zaB (by omega)).trans g13
      have q1:∀ x y:AObj,zaa (M2 ++ [x,y]) M2.length = x:=fun x y => by have:=zaE M2 [x,y] 0; rw [Nat.add_zero] at this; exact this
      have q2:∀ x y z:AObj,(M2 ++ [x,y]).set M2.length z = M2 ++ [z,y]:=fun x y z => by have:=zb8 M2 [x,y] 0 z; rw [Nat.add_zero] at this; exact this
      have q3:∀ x y:AObj,M2.length < (M2 ++ [x,y]).length:=fun x y => by simp
      have hp8:=pow8 B (by omega)
      have hpn:=zfs B
      have hor:=or_lt7 (w:=w) (b:=B) hw (by omega)
      have hl4:l.length ≤ 7:=by omega
      have hcall:=ih (zhV scs b (zmo (zep y) f c w l j)) (l ++ [(c,B)]) (c + 1) (w ||| 2 ^ B) (M2 ++ [.tok (l.length + 1) 2,.dead]) (by omega) hor (hM2.push ⟨by simp [AV.bare,zal,zaF,zaI,zak,zas,zai,tokz1,lk,zaa,zaZ],by simp [AV.bare,zal,zaF,zaI,zak,zas,zai,tokz1,lk,zaa,zaZ],trivial⟩) (by
       refine ⟨fun q hq => ?_,by rw [czc]; simp; omega⟩
       rcases czv.1 hq with r | r
       ·exact hl.1 q r
       ·rw [czC.1 r]; exact ⟨by dsimp only; omega,by dsimp only; omega⟩)
      have e1:((l ++ [(c,B)]).map rgQ).map EncE.cs = (l.map rgQ).map EncE.cs ++ [[AV.int .i64 (c:Int),.int .i64 (B:Int)]]:=by rw [List.map_append,List.map_append]; rfl
      rw [e1,show ((c + 1:Nat):Int) = (c:Int) + 1 by omega] at hcall
      simp (maxSteps:=4000000) only [go_sem,zae,zab,zac,zan,zaq,czb,cza,↓reduceIte,zaf,onz,g0,q13,q1,q2,q3,hlt,hbc,hbj,hne,hpn]
      all_goals (repeat' first | (with_reducible first | rfl | apply And.intro | assumption) | ((with_reducible show zad _ _ = true); rfl)) <;> try first | omega | (simp only [InR]; omega)
      refine ⟨[],by rfl,_,za6 (zll hcall),?_⟩
      rintro r mem' ⟨r0,rfl,⟨rfl,hS3,hF3⟩,hlen3⟩ _
      obtain ⟨M3,rfl,hS4,hF4⟩:=hM2.pop hS3 hF3
      have hl4':=hF4.1
      simp (maxSteps:=4000000) only [go_sem,zae,zab,zac,zan,zaq,czb,cza,↓reduceIte,zaf,onz,zj8]
      all_goals (repeat' first | (with_reducible first | rfl | apply And.intro | assumption) | ((with_reducible show zad _ _ = true); rfl)) <;> try first | omega | (simp only [InR]; omega)
      refine hnext M3 _ _ _ _ _ hsn hS4 hF4 (czf _) ?_
      simp [AV.bare,zal,zaF,zaI,zak,zas,zai,tokz1,lk,zaa,zaZ,h13,h0M,-List.map_map]
      all_goals (try omega)
theorem zq4 (hy:MOk y) (h0:0 < scs.length ∧ scs.length ≤ 4096) (hs:∀ s ∈ scs,zro s):∀ (f:Nat) (b:List Rg × Int) (l:List (Nat × Nat)) (c w:Nat) (M:List AObj),c + f = y.chairs.length → w < 128 → SuM y scs b M → (∀ q ∈ l,q.1 < 7 ∧ q.2 < 7) ∧ l.length ≤ c →
  zet Tryz.prog 36 [.sl ((l.map rgQ).map EncE.cs) .no,.int .i64 (c:Int),.int .i64 (w:Int),.ptr 0 0,.ptr 12 0,.ptr 2 0,.ptr 1 0,.ptr 13 0] M
   (fun r M' => r = .tup [] ∧ SuM y scs (zhV scs b (prN (zep y) f c w l)) M' ∧ FrS M M'):=by
 intro f
 induction f with
 | zero =>
  intro b l c w M hc hw hM hl
  obtain rfl:c = y.chairs.length:=by omega
  have:=hy.len
  exact zq2 hy h0 hs w hM ⟨hl.1,by omega⟩
 | succ f ih =>
  intro b l c w M hc hw hM hl
  exact zq3 hy h0 hs ih hc hw hM hl
end
theorem znN {P:Program} {g:FuncId} {es:List (List AV)} {tk:Tk} {args:List AV} {mem:List AObj} {R:AV → List AObj → Prop} (h:zet P g (.sl es .no :: args) mem R):zet P g (.sl es tk :: args) mem R :=
 ⟨h.1,fun X κ ρ τ w vs h1 h2 h3 h4 => h.2 X κ ρ τ w vs h1 h2 (by simpa using h3) (fun i hi => by
  have:=h4 i (by simpa using hi)
  cases i with
  | zero => exact this.bare
  | succ i => exact this)⟩
def P2372:zay:=zif [1000012] P237
theorem P2372_app (g:FuncId) (h:¬ (g = 4000000000)):P2372 g = P237 g:=by unfold P2372 zif; rw [if_neg h]
theorem P2372_ok:zam Tryz.prog P2372:=zfo zkc
theorem zra (d:Nat):zaw P2372 (some d) = if d ∈ ([1000012]:List Nat) then some d else none:=zbK _ _ d
attribute [go_sem] P2372_app zra
theorem Sure_call (y:My) (h:MOk y ∧ zbY y.chairs ≤ 8):zaH Tryz.prog 16 [Enc.enc y] (· = Enc.enc (surV y)):=by
 obtain ⟨hy,h8⟩:=h
 have hsp:=zd5 y (zcR (flY y))
 have hcnt:=zg9 h8
 unfold surV
 obtain ⟨scs,hscs⟩:∃ scs,zeo y = scs:=⟨_,rfl⟩
 obtain ⟨ms,hms⟩:∃ ms,zdB y = ms:=⟨_,rfl⟩
 have hle:scs.length ≤ 256:=by rw [← hscs]; exact Nat.le_trans hsp.1 hcnt
 have hsok:∀ s ∈ scs,zro s:=fun s hs => by
  rw [← hscs] at hs
  obtain ⟨t,ht,e,_⟩:=hsp.2.2.1 s hs
  have:=zg7 hy ht (by rw [zok ht,zef])
  rw [e]
  exact sc_ok7 (zez hy this.1)
 rw [hscs]
 simp only [enc_tri]
 simp only [zbT]
 refine cpz P2372_ok Tryz.func16 zaA ?_
 rw [Tryz.ntmps16]
 simp only [Tryz.f16,zaj,zao]
 refine vc_Q fun Q0 hQ0 => ?_
 iterate 4 (
  refine zaz fun Q1 h1 => ?_
  simp (maxSteps:=4000000) only [go_sem,zae,zab,zac,zan,zaq,zaa,czb,cza,↓reduceIte,zaf,onz]
  all_goals (repeat' first | (with_reducible first | rfl | apply And.intro | assumption) | ((with_reducible show zad _ _ = true); rfl)) <;> try first | omega | (simp only [InR]; omega)
  rw [h1]; clear h1 Q1; simp only [zaO,zav])
 refine zaz fun Q1 h1 => ?_
 simp (maxSteps:=4000000) only [go_sem,zae,zab,zac,zan,zaq,zaa,czb,cza,↓reduceIte,zaf,onz]
 all_goals (repeat' first | (with_reducible first | rfl | apply And.intro | assumption) | ((with_reducible show zad _ _ = true); rfl)) <;> try first | omega | (simp only [InR]; omega)
 have hm:∀ o ∈ [AObj.cells (yC y),AObj.cells [AV.sl [] .full],AObj.cells [AV.int .i64 0]],zcK [AObj.cells (yC y),AObj.cells [AV.sl [] .full],AObj.cells [AV.int .i64 0]].length o:=by
  refine zc7 (k:=3) ⟨?_,?_,?_,trivial⟩ <;> simp [AV.bare,zal,zaF,zaI,zak,zas,zai,tokz1,lk,zaa,zaZ,yC]
 have hwc:=zgc y hm
 have hkn:=zms (y:=y) hm
 unfold zlJ yC at hwc
 refine ⟨_,hwc,?_⟩
 rintro r m' ⟨rfl,rfl⟩ _
 simp only [AV.strip,AV.un,AV.av,true_and]
 rw [h1]; clear h1 Q1; simp only [zaO,zav]
 refine zaz fun Q1 h1 => ?_
 simp (maxSteps:=4000000) only [go_sem,zae,zab,zac,zan,zaq,czb,cza,↓reduceIte,zaf,onz]
 all_goals (repeat' first | (with_reducible first | rfl | apply And.intro | assumption) | ((with_reducible show zad _ _ = true); rfl)) <;> try first | omega | (simp only [InR]; omega)
 have hsc:=zhd hy h8 hkn
 refine ⟨_,hsc,?_⟩
 rintro r m' ⟨rfl,⟨hl6,hmo⟩,hmf⟩ _
 have hl6:m'.length = 12:=hl6
 have e0:zaa m' 0 = .cells (yC y):=hmf 0 (by simp) (by simp)
 have e1:zaa m' 1 = .cells [.sl [] .full]:=hmf 1 (by simp) (by simp)
 have e2:zaa m' 2 = .cells [.int .i64 0]:=hmf 2 (by simp) (by simp)
 rw [show (zf7 y (zcR (flY y))).1 = scs from hscs,show (zf7 y (zcR (flY y))).2 = ms from hms]
 clear hsc hkn hwc hm hmf hsp
 have f0:∀ r,zaa (m' ++ r) 12 = zaa r 0:=fun r => by rw [← hl6]; exact zaE _ _ 0
 have s0:∀ r o,(m' ++ r).set 12 o = m' ++ r.set 0 o:=fun r o => by rw [← hl6]; exact zb8 _ _ 0 _
 have v1:∀ r,zaa (m' ++ r) 1 = .cells [.sl [] .full]:=fun r => (zaB (by omega)).trans e1
 have v2:∀ r,zaa (m' ++ r) 2 = .cells [.int .i64 0]:=fun r => (zaB (by omega)).trans e2
 have w1:∀ r o,(m' ++ r).set 1 o = m'.set 1 o ++ r:=fun r o => List.set_append_left _ _ (by omega)
 have w2:∀ r o,(m' ++ r).set 2 o = m'.set 2 o ++ r:=fun r o => List.set_append_left _ _ (by omega)
 simp (maxSteps:=4000000) only [go_sem,zae,zab,zac,zan,zaq,czb,cza,↓reduceIte,zaf,onz,hl6,f0,s0]
 all_goals (repeat' first | (with_reducible first | rfl | apply And.intro | assumption) | ((with_reducible show zad _ _ = true); rfl)) <;> try first | omega | (simp only [InR]; omega)
 rw [h1]; clear h1 Q1; simp only [zaO,zav]
 by_cases hz:scs.length = 0
 ·rw [if_pos hz] at hQ0
  have hz':decide ((scs.length:Int) = 0) = true:=by rw [decide_eq_true_eq]; omega
  have x1:∀ r o,zaa (m'.set 1 o ++ r) 1 = o:=fun r o => (zaB (by rw [czt]; omega)).trans (zbm (by omega) _)
  have x2:∀ r o,zaa (m'.set 1 o ++ r) 2 = .cells [.int .i64 0]:=fun r o => by rw [zaB (by rw [czt]; omega),zap _ _ _ _ (by omega),if_neg (by omega)]; exact e2
  have x3:∀ r o o',(m'.set 1 o ++ r).set 2 o' = (m'.set 1 o).set 2 o' ++ r:=fun r o o' => List.set_append_left _ _ (by rw [czt]; omega)
  have x4:∀ r o o',zaa ((m'.set 1 o).set 2 o' ++ r) 1 = o:=fun r o o' => by rw [zaB (by rw [czt,czt]; omega),zap _ _ _ _ (by rw [czt]; omega),if_neg (by omega)]; exact zbm (by omega) _
  have x5:∀ r o o',zaa ((m'.set 1 o).set 2 o' ++ r) 2 = o':=fun r o o' => by rw [zaB (by rw [czt,czt]; omega)]; exact zbm (by rw [czt]; omega) _
  refine zaz fun Q1 h1 => ?_
  simp (maxSteps:=4000000) only [go_sem,zae,zab,zac,zan,zaq,czb,cza,↓reduceIte,zaf,onz,hz',f0]
  all_goals (repeat' first | (with_reducible first | rfl | apply And.intro | assumption) | ((with_reducible show zad _ _ = true); rfl)) <;> try first | omega | (simp only [InR]; omega)
  rw [h1]; clear h1 Q1; simp only [zaO,zav]
  simp (maxSteps:=4000000) only [go_sem,zae,zab,zac,zan,zaq,czb,cza,↓reduceIte,zaf,onz,hQ0,v1,v2,w1,w2,x1,x2,x3,x4,x5]
  all_goals exact auz
 rw [if_neg hz] at hQ0
 have hz':decide ((scs.length:Int) = 0) = false:=by rw [decide_eq_false_iff_not]; omega
 have g1:∀ r o,zaa (m'.set 2 o ++ r) 1 = .cells [.sl [] .full]:=fun r o => by rw [zaB (by rw [czt]; omega),zap _ _ _ _ (by omega),if_neg (by omega)]; exact e1
 have gl:∀ o (r:List AObj),(m'.set 2 o ++ r).length = 12 + r.length:=fun o r => by rw [czc,czt,hl6]
 have gk:∀ r o,zaa (m'.set 2 o ++ r) 12 = zaa r 0:=fun r o => by rw [show 12 = (m'.set 2 o).length by rw [czt,hl6]]; exact zaE _ _ 0
 have gk1:∀ r o,zaa (m'.set 2 o ++ r) 13 = zaa r 1:=fun r o => by rw [show 13 = (m'.set 2 o).length + 1 by rw [czt,hl6]]; exact zaE _ _ 1
 have gs1:∀ r o x,(m'.set 2 o ++ r).set 13 x = m'.set 2 o ++ r.set 1 x:=fun r o x => by rw [show 13 = (m'.set 2 o).length + 1 by rw [czt,hl6]]; exact zb8 _ _ 1 _
 refine zaz fun Q1 h1 => ?_
 simp (maxSteps:=4000000) only [go_sem,zae,zab,zac,zan,zaq,czb,cza,↓reduceIte,zaf,onz,hz',f0]
 all_goals (repeat' first | (with_reducible first | rfl | apply And.intro | assumption) | ((with_reducible show zad _ _ = true); rfl)) <;> try first | omega | (simp only [InR]; omega)
 rw [h1]; clear h1 Q1; simp only [zaO,zav]
 refine zaz fun Q1 h1 => ?_
 simp (maxSteps:=4000000) only [go_sem,zae,zab,zac,zan,zaq,czb,cza,↓reduceIte,zaf,onz,hz',f0]
 all_goals (repeat' first | (with_reducible first | rfl | apply And.intro | assumption) | ((with_reducible show zad _ _ = true); rfl)) <;> try first | omega | (simp only [InR]; omega)
 rw [h1]; clear h1 Q1; simp only [zaO,zav]
 refine zaz fun Q1 h1 => ?_
 simp (maxSteps:=4000000) only [go_sem,zae,zab,zac,zan,zaq,czb,cza,↓reduceIte,zaf,onz,v2,w2]
 all_goals (repeat' first | (with_reducible first | rfl | apply And.intro | assumption) | ((with_reducible show zad _ _ = true); rfl)) <;> try first | omega | (simp only [InR]; omega)
 rw [h1]; clear h1 Q1; simp only [zaO,zav]
 refine zaz fun Q1 h1 => ?_
 simp (maxSteps:=4000000) only [go_sem,zae,zab,zac,zan,zaq,czb,cza,↓reduceIte,zaf,onz,gl,gk,gk1,gs1,czd]
 all_goals (repeat' first | (with_reducible first | rfl | apply And.intro | assumption) | ((with_reducible show zad _ _ = true); rfl)) <;> try first | omega | (simp only [InR]; omega)
 rw [h1]; clear h1 Q1; simp only [zaO,zav]
 refine zaz fun Q1 h1 => ?_
 simp (maxSteps:=4000000) only [go_sem,zae,zab,zac,zan,zaq,czb,cza,↓reduceIte,zaf,onz,gl,gk,gk1,gs1,czd]
 all_goals (repeat' first | (with_reducible first | rfl | apply And.intro | assumption) | ((with_reducible show zad _ _ = true); rfl)) <;> try first | omega | (simp only [InR]; omega)
 rw [h1]; clear h1 Q1; simp only [zaO,zav]
 refine zaz fun Q1 h1 => ?_
 simp (maxSteps:=4000000) only [go_sem,zae,zab,zac,zan,zaq,czb,cza,↓reduceIte,zaf,onz,gl,gk,gk1,gs1,czd]
 all_goals (repeat' first | (with_reducible first | rfl | apply And.intro | assumption) | ((with_reducible show zad _ _ = true); rfl)) <;> try first | omega | (simp only [InR]; omega)
 have g2:∀ r o,zaa (m'.set 2 o ++ r) 2 = o:=fun r o => by rw [zaB (by rw [czt]; omega)]; exact zbm (by omega) _
 have g0:∀ r o,zaa (m'.set 2 o ++ r) 0 = .cells (yC y):=fun r o => by rw [zaB (by rw [czt]; omega),zap _ _ _ _ (by omega),if_neg (by omega)]; exact e0
 have hSM:SuM y scs ([],-1) (m'.set 2 (AObj.cells [AV.int .i64 (-1)]) ++ [AObj.cells [AV.sl (scs.map EncE.cs) .no],AObj.cells [AV.fn (.func 36) [] [.ptr 0 0,.ptr 12 0,.ptr 2 0,.ptr 1 0,.ptr 13 0]]]):=by
  refine ⟨by rw [gl]; simp,g0 _ _,⟨.full,.inr rfl,g1 _ _⟩,g2 _ _,gk _ _,gk1 _ _,?_⟩
  rw [gl]
  refine zfk (n0:=12) (fun o ho => ?_) (by simp) ?_
  ·rcases List.mem_or_eq_of_mem_set ho with q | q
   ·rw [← hl6]; exact hmo o q
   ·subst q; simp [AV.bare,zal,zaF,zaI,zak,zas,zai,tokz1,lk,zaa,zaZ]
  ·refine ⟨?_,?_,trivial⟩
   ·simp [AV.bare,zal,zaF,zaI,zak,zas,zai,tokz1,lk,zaa,zaZ,zfl]
   ·simp [AV.bare,zal,zaF,zaI,zak,zas,zai,tokz1,lk,zaa,zaZ]
 have hcall:=zq4 hy ⟨by omega,by omega⟩ hsok y.chairs.length ([],-1) [] 0 0 _ (by omega) (by omega) hSM ⟨fun q hq => (by cases hq),by simp⟩
 refine ⟨_,za6 (znN hcall),?_⟩
 rintro r M1 ⟨r0,rfl,⟨rfl,hM1,hF1⟩,hlen1⟩ _
 rw [h1]; clear h1 Q1; simp only [zaO,zav]
 have hqe:zhV scs ([],-1) (prN (zep y) y.chairs.length 0 0 []) = zf5 y scs:=rfl
 rw [hqe] at hM1
 obtain ⟨⟨ps,many⟩,hpm⟩:∃ b,zf5 y scs = b:=⟨_,rfl⟩
 rw [hpm] at hM1 hQ0
 clear hcall hSM hF1 hlen1
 obtain ⟨tk,htk,n1⟩:=hM1.m1
 have n2:=hM1.m2
 have hlM:=hM1.len
 dsimp only at n1 n2 hQ0
 have n3:∀ o,zaa (M1.set 1 o) 2 = .cells [.int .i64 many]:=fun o => by rw [zap _ _ _ _ (by omega),if_neg (by decide)]; exact n2
 have n4:∀ o,zaa (M1.set 1 o) 1 = o:=fun o => zbm (by omega) o
 have n5:∀ o p,zaa ((M1.set 1 o).set 2 p) 1 = o:=fun o p => by rw [zap _ _ _ _ (by rw [czt]; omega),if_neg (by decide)]; exact n4 o
 have n6:∀ o p,zaa ((M1.set 1 o).set 2 p) 2 = p:=fun o p => zbm (by rw [czt]; omega) p
 rcases htk with rfl | rfl
 ·simp (maxSteps:=4000000) only [go_sem,zae,zab,zac,zan,zaq,czb,cza,↓reduceIte,zaf,onz]
  refine ⟨21949123963738723012075312962025600931802499239048399859060604530595504787143150154351985502881171567205176961768353693698,by rfl,?_⟩
  simp (maxSteps:=4000000) only [go_sem,zae,zab,zac,zan,zaq,czb,cza,↓reduceIte,zaf,onz,(show Nat.testBit 21949123963738723012075312962025600931802499239048399859060604530595504787143150154351985502881171567205176961768353693698 399 = true from rfl),Bool.false_and,Bool.true_and,czp,(show Nat.testBit 21949123963738723012075312962025600931802499239048399859060604530595504787143150154351985502881171567205176961768353693698 400 = false from rfl),(show Nat.testBit 21949123963738723012075312962025600931802499239048399859060604530595504787143150154351985502881171567205176961768353693698 401 = false from rfl),(show Nat.testBit 21949123963738723012075312962025600931802499239048399859060604530595504787143150154351985502881171567205176961768353693698 402 = false from rfl),(show Nat.testBit 21949123963738723012075312962025600931802499239048399859060604530595504787143150154351985502881171567205176961768353693698 403 = true from rfl),(show Nat.testBit 21949123963738723012075312962025600931802499239048399859060604530595504787143150154351985502881171567205176961768353693698 404 = false from rfl),(show Nat.testBit 21949123963738723012075312962025600931802499239048399859060604530595504787143150154351985502881171567205176961768353693698 200 = false from rfl),(show ∀ m,zdU false m = m from fun _ => rfl),zda,zce,znk,zjW,vcFr,Go.Fs.freeR,effL,zlF,zgH,List.all_cons,List.all_nil,List.contains_cons,List.contains_nil,Nat.reduceBEq,Bool.or_self,(show Nat.testBit 21949123963738723012075312962025600931802499239048399859060604530595504787143150154351985502881171567205176961768353693698 0 = false from rfl),(show Nat.testBit 21949123963738723012075312962025600931802499239048399859060604530595504787143150154351985502881171567205176961768353693698 1 = true from rfl),(show Nat.testBit 21949123963738723012075312962025600931802499239048399859060604530595504787143150154351985502881171567205176961768353693698 2 = false from rfl),(show Nat.testBit 21949123963738723012075312962025600931802499239048399859060604530595504787143150154351985502881171567205176961768353693698 3 = false from rfl),(show Nat.testBit 21949123963738723012075312962025600931802499239048399859060604530595504787143150154351985502881171567205176961768353693698 4 = false from rfl),n1,n2,n3,n4,n5,n6,hQ0]
  all_goals (repeat' first | (with_reducible first | rfl | apply And.intro | assumption) | ((with_reducible show zad _ _ = true); rfl)) <;> try first | omega | (simp only [InR]; omega)
  rfl
 ·simp (maxSteps:=4000000) only [go_sem,zae,zab,zac,zan,zaq,czb,cza,↓reduceIte,zaf,onz]
  refine ⟨21949123963738723012075312962025600931802499239048399859060604530595504787143150154351985502881171567205176961768353693698,by rfl,?_⟩
  simp (maxSteps:=4000000) only [go_sem,zae,zab,zac,zan,zaq,czb,cza,↓reduceIte,zaf,onz,(show Nat.testBit 21949123963738723012075312962025600931802499239048399859060604530595504787143150154351985502881171567205176961768353693698 399 = true from rfl),Bool.false_and,Bool.true_and,czp,(show Nat.testBit 21949123963738723012075312962025600931802499239048399859060604530595504787143150154351985502881171567205176961768353693698 400 = false from rfl),(show Nat.testBit 21949123963738723012075312962025600931802499239048399859060604530595504787143150154351985502881171567205176961768353693698 401 = false from rfl),(show Nat.testBit 21949123963738723012075312962025600931802499239048399859060604530595504787143150154351985502881171567205176961768353693698 402 = false from rfl),(show Nat.testBit 21949123963738723012075312962025600931802499239048399859060604530595504787143150154351985502881171567205176961768353693698 403 = true from rfl),(show Nat.testBit 21949123963738723012075312962025600931802499239048399859060604530595504787143150154351985502881171567205176961768353693698 404 = false from rfl),(show Nat.testBit 21949123963738723012075312962025600931802499239048399859060604530595504787143150154351985502881171567205176961768353693698 200 = false from rfl),(show ∀ m,zdU false m = m from fun _ => rfl),zda,zce,znk,zjW,vcFr,Go.Fs.freeR,effL,zlF,zgH,List.all_cons,List.all_nil,List.contains_cons,List.contains_nil,Nat.reduceBEq,Bool.or_self,(show Nat.testBit 21949123963738723012075312962025600931802499239048399859060604530595504787143150154351985502881171567205176961768353693698 0 = false from rfl),(show Nat.testBit 21949123963738723012075312962025600931802499239048399859060604530595504787143150154351985502881171567205176961768353693698 1 = true from rfl),(show Nat.testBit 21949123963738723012075312962025600931802499239048399859060604530595504787143150154351985502881171567205176961768353693698 2 = false from rfl),(show Nat.testBit 21949123963738723012075312962025600931802499239048399859060604530595504787143150154351985502881171567205176961768353693698 3 = false from rfl),(show Nat.testBit 21949123963738723012075312962025600931802499239048399859060604530595504787143150154351985502881171567205176961768353693698 4 = false from rfl),n1,n2,n3,n4,n5,n6,hQ0]
  all_goals (repeat' first | (with_reducible first | rfl | apply And.intro | assumption) | ((with_reducible show zad _ _ = true); rfl)) <;> try first | omega | (simp only [InR]; omega)
  rfl
end Go.Proofs
