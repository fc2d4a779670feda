/- The texts YD, YM2, YM1, YM4, Y1, Y2, Y3, Y4, Y5, YM5, joined. -/
import Derived.Test.YtgfkmkkoligobaaGreatG7
import Derived.Test.YtgfkmkkoligobaaGreatG10
set_option linter.all false
namespace Go.Fs
instance:EncE Rg where
 cs m:=[.int .i64 m.lo,.int .i64 m.hi]
 dcs
  | [.int .i64 a,.int .i64 b] => some ⟨a,b⟩
  | _ => none
 law v x h:=by
  split at h
  ·cases h; rfl
  ·cases h
 inv _:=rfl
 dep:=1
 sz:=2
 len _:=rfl
 ok x:=by simp [za8]
theorem cs_rg (m:Rg):EncE.cs m = [.int .i64 m.lo,.int .i64 m.hi]:=rfl
theorem dcs_rg (a b:Int):(EncE.dcs [.int .i64 a,.int .i64 b]:Option Rg) = some ⟨a,b⟩:=rfl
theorem dep_rg:EncE.dep Rg = 1:=rfl
theorem sz_rg:EncE.sz Rg = 2:=rfl
structure Pt where
 a:Int
 b:Int
 c:Int
instance:Inhabited Pt:=⟨⟨0,0,0⟩⟩
instance:DecidableEq Pt:=fun x y => if h:x.a = y.a ∧ x.b = y.b ∧ x.c = y.c then .isTrue (by cases x; cases y; simp_all) else .isFalse fun e => h (by subst e; exact ⟨rfl,rfl,rfl⟩)
structure Mc where
 size:Int
 p:Pt
instance:Inhabited Mc:=⟨⟨0,default⟩⟩
structure My where
 chairs:List Mc
 fit:Int
 claims:List Rg
structure Sc where
 whole:Int
 broken:Int
 fits:Arr 7
instance:Inhabited Sc:=⟨⟨0,0,default⟩⟩
instance:Enc Pt where
 enc m:=.agg [.int .i64 m.a,.int .i64 m.b,.int .i64 m.c]
 dec
  | .agg [.int .i64 a,.int .i64 b,.int .i64 c] => some ⟨a,b,c⟩
  | _ => none
 law v x h:=by
  split at h
  ·cases h; rfl
  ·cases h
 dep:=2
 ok x:=by simp [za8]
instance:EncE Pt where
 cs m:=[.int .i64 m.a,.int .i64 m.b,.int .i64 m.c]
 dcs
  | [.int .i64 a,.int .i64 b,.int .i64 c] => some ⟨a,b,c⟩
  | _ => none
 law v x h:=by
  split at h
  ·cases h; rfl
  ·cases h
 inv _:=rfl
 dep:=1
 sz:=3
 len _:=rfl
 ok x:=by simp [za8]
instance:Enc Mc where
 enc m:=.agg [.int .i64 m.size,.int .i64 m.p.a,.int .i64 m.p.b,.int .i64 m.p.c]
 dec
  | .agg [.int .i64 s,.int .i64 a,.int .i64 b,.int .i64 c] => some ⟨s,⟨a,b,c⟩⟩
  | _ => none
 law v x h:=by
  split at h
  ·cases h; rfl
  ·cases h
 dep:=2
 ok x:=by simp [za8]
instance:EncE Mc where
 cs m:=[.int .i64 m.size,.int .i64 m.p.a,.int .i64 m.p.b,.int .i64 m.p.c]
 dcs
  | [.int .i64 s,.int .i64 a,.int .i64 b,.int .i64 c] => some ⟨s,⟨a,b,c⟩⟩
  | _ => none
 law v x h:=by
  split at h
  ·cases h; rfl
  ·cases h
 inv _:=rfl
 dep:=1
 sz:=4
 len _:=rfl
 ok x:=by simp [za8]
instance:Enc My where
 enc t:=.agg [.sl (t.chairs.map EncE.cs) .no,.int .i64 t.fit,.sl (t.claims.map EncE.cs) .no]
 dec
  | .agg [.sl b .no,.int .i64 a,.sl c .no] =>
   match (zfm b:Option (List Mc)),(zfm c:Option (List Rg)) with
   | some b,some c => some ⟨b,a,c⟩
   | _,_ => none
  | _ => none
 law v x h:=by
  split at h
  ·split at h
   ·rename_i h1 h2
    cases h
    rw [zcJ _ _ h1,zcJ _ _ h2]
   ·cases h
  ·cases h
 dep:=3
 ok x:=by
  simp only [za8,czn,czk,or_false,forall_eq_or_imp,forall_eq,true_and,and_true,czx,forall_exists_index,and_imp,forall_apply_eq_imp_iff₂]
  exact ⟨fun a _ => EncE.ok a,fun a _ => EncE.ok a⟩
instance:EncE Sc where
 cs m:=.int .i64 m.whole :: .int .i64 m.broken :: m.fits.l.map (AV.int .i64)
 dcs
  | .int .i64 a :: .int .i64 b :: r => (zem 7 r).map fun f => ⟨a,b,f⟩
  | _ => none
 law v x h:=by
  split at h
  ·simp only [czr] at h
   obtain ⟨f,h1,rfl⟩:=h
   rw [zfc h1]
  ·cases h
 inv x:=by simp [zgg]
 dep:=1
 sz:=9
 len x:=by simp [x.fits.h]
 ok x:=by simp [za8]
instance:Enc Sc where
 enc m:=.agg (.int .i64 m.whole :: .int .i64 m.broken :: m.fits.l.map (AV.int .i64))
 dec
  | .agg (.int .i64 a :: .int .i64 b :: r) => (zem 7 r).map fun f => ⟨a,b,f⟩
  | _ => none
 law v x h:=by
  split at h
  ·simp only [czr] at h
   obtain ⟨f,h1,rfl⟩:=h
   rw [zfc h1]
  ·cases h
 dep:=2
 ok x:=by simp [za8]
theorem enc_pt (m:Pt):Enc.enc m = .agg [.int .i64 m.a,.int .i64 m.b,.int .i64 m.c]:=rfl
theorem cs_pt (m:Pt):EncE.cs m = [.int .i64 m.a,.int .i64 m.b,.int .i64 m.c]:=rfl
theorem dec_pt (a b c:Int):(Enc.dec (.agg [.int .i64 a,.int .i64 b,.int .i64 c]):Option Pt) = some ⟨a,b,c⟩:=rfl
theorem dcs_pt (a b c:Int):(EncE.dcs [.int .i64 a,.int .i64 b,.int .i64 c]:Option Pt) = some ⟨a,b,c⟩:=rfl
theorem dep_pt:EncE.dep Pt = 1:=rfl
theorem sz_pt:EncE.sz Pt = 3:=rfl
theorem eta_pt (r:Pt):(⟨r.a,r.b,r.c⟩:Pt) = r:=rfl
theorem enc_mc (m:Mc):Enc.enc m = .agg [.int .i64 m.size,.int .i64 m.p.a,.int .i64 m.p.b,.int .i64 m.p.c]:=rfl
theorem cs_mc (m:Mc):EncE.cs m = [.int .i64 m.size,.int .i64 m.p.a,.int .i64 m.p.b,.int .i64 m.p.c]:=rfl
theorem dec_mc (s a b c:Int):(Enc.dec (.agg [.int .i64 s,.int .i64 a,.int .i64 b,.int .i64 c]):Option Mc) = some ⟨s,⟨a,b,c⟩⟩:=rfl
theorem dcs_mc (s a b c:Int):(EncE.dcs [.int .i64 s,.int .i64 a,.int .i64 b,.int .i64 c]:Option Mc) = some ⟨s,⟨a,b,c⟩⟩:=rfl
theorem dep_mc:EncE.dep Mc = 1:=rfl
def zaZ:=And.intro @zj2 (And.intro @cs_arr (And.intro @znC (And.intro @zlf (And.intro @znH (And.intro @znG (And.intro @cs_rg (And.intro @cs_sk (And.intro @cs_sp (And.intro @cs_pt (And.intro @cs_mc (And.intro @zcX (And.intro @zfE (And.intro @znB (And.intro @zjY (And.intro @zjX (And.intro @dep_rg (And.intro @dep_sk (And.intro @dep_sp (And.intro @dep_pt (And.intro @dep_mc (And.intro @bel_map (And.intro @zoW (And.intro @zfg (And.intro @zlp (And.intro @bel_int (And.intro @zlr (And.intro @zoU (And.intro @zoV (And.intro @znW (And.intro @znX (And.intro @bel_mp (And.intro @znT (And.intro @bel_agg (And.intro @znU (And.intro @znV (And.intro @zoT (And.intro @bel_mpr (And.intro @bel_fn (And.intro @zi9 (And.intro @zh1 (And.intro @zh0 (And.intro @zh2 (And.intro @zja (And.intro @zdd (And.intro @zoY (And.intro @zlv (And.intro @zf0 (And.intro @zj3 (And.intro @zlu (And.intro @zlt (And.intro @bel_vec (And.intro @bel_vp (And.intro @zls @zoX)))))))))))))))))))))))))))))))))))))))))))))))))))))
theorem sz_mc:EncE.sz Mc = 4:=rfl
theorem eta_mc (r:Mc):(⟨r.size,r.p⟩:Mc) = r:=rfl
theorem zi1 (t:My):Enc.enc t = .agg [.sl (t.chairs.map EncE.cs) .no,.int .i64 t.fit,.sl (t.claims.map EncE.cs) .no]:=rfl
theorem dec_my (b c:List (List AV)) (a:Int):(Enc.dec (.agg [.sl b .no,.int .i64 a,.sl c .no]):Option My) =
  match (zfm b:Option (List Mc)),(zfm c:Option (List Rg)) with
   | some b,some c => some ⟨b,a,c⟩
   | _,_ => none:=rfl
theorem eta_my (t:My):(⟨t.chairs,t.fit,t.claims⟩:My) = t:=rfl
theorem enc_sc (m:Sc):Enc.enc m = .agg (.int .i64 m.whole :: .int .i64 m.broken :: m.fits.l.map (AV.int .i64)):=rfl
def zbT:=And.intro @znv (And.intro @znx (And.intro @znw (And.intro @zjS (And.intro @zny (And.intro @zhR (And.intro @zjU (And.intro @zjT (And.intro @enc_rg (And.intro @enc_sk (And.intro @enc_sp (And.intro @enc_pt (And.intro @enc_mc (And.intro @enc_sh (And.intro @enc_tr (And.intro @zjR (And.intro @znu (And.intro @znt (And.intro @zi1 @enc_sc))))))))))))))))))
theorem zqL (m:Sc):EncE.cs m = .int .i64 m.whole :: .int .i64 m.broken :: m.fits.l.map (AV.int .i64):=rfl
theorem dec_sc (a b:Int) (r:List AV):(Enc.dec (.agg (.int .i64 a :: .int .i64 b :: r)):Option Sc) = (zem 7 r).map fun f => ⟨a,b,f⟩:=rfl
theorem dcs_sc (a b:Int) (r:List AV):(EncE.dcs (.int .i64 a :: .int .i64 b :: r):Option Sc) = (zem 7 r).map fun f => ⟨a,b,f⟩:=rfl
theorem zfl:EncE.dep Sc = 1:=rfl
theorem sz_sc:EncE.sz Sc = 9:=rfl
theorem eta_sc (r:Sc):(⟨r.whole,r.broken,r.fits⟩:Sc) = r:=rfl
attribute [go_sem] cs_rg dcs_rg dep_rg sz_rg enc_pt cs_pt dec_pt dcs_pt dep_pt sz_pt eta_pt enc_mc cs_mc dec_mc dcs_mc dep_mc sz_mc eta_mc zi1 dec_my eta_my enc_sc zqL dec_sc dcs_sc zfl sz_sc eta_sc
end Go.Fs
namespace Go.Proofs
open Go.Fs
set_option maxHeartbeats 4000000
set_option maxRecDepth 8000
def mx (f:Nat → Nat → Bool):Nat → List Nat → Nat
 | 0,_ => 0
 | _ + 1,[] => 0
 | n + 1,a :: r => r.foldl (fun m b => if f a b then max m (1 + mx f n (r.erase b)) else m) (mx f n r)
theorem zoE {g:Nat → Nat} {p:Nat → Bool}:∀ (l:List Nat) (m:Nat),m ≤ l.foldl (fun m b => if p b then max m (g b) else m) m ∧ (∀ b ∈ l,p b = true → g b ≤ l.foldl (fun m b => if p b then max m (g b) else m) m) ∧
  (l.foldl (fun m b => if p b then max m (g b) else m) m = m ∨ ∃ b ∈ l,p b = true ∧ l.foldl (fun m b => if p b then max m (g b) else m) m = g b)
 | [],m => ⟨czf _,fun b hb => (by cases hb),.inl rfl⟩
 | x :: l,m => by
  rw [List.foldl_cons]
  obtain ⟨h1,h2,h3⟩:=zoE (g:=g) (p:=p) l (if p x then max m (g x) else m)
  have hm:m ≤ (if p x then max m (g x) else m):=by split <;> omega
  refine ⟨Nat.le_trans hm h1,fun b hb hp => ?_,?_⟩
  ·rcases czn.1 hb with rfl | hb
   ·rw [if_pos hp] at h1 ⊢
    omega
   ·exact h2 b hb hp
  ·rcases h3 with h3 | ⟨b,hb,hp,h3⟩
   ·rw [h3]
    by_cases hx:p x = true
    ·rw [if_pos hx]
     rcases Nat.le_total m (g x) with q | q
     ·exact .inr ⟨x,by simp,hx,by omega⟩
     ·exact .inl (by omega)
    ·rw [if_neg hx]; exact .inl rfl
   ·exact .inr ⟨b,by simp [hb],hp,h3⟩
section
variable {f:Nat → Nat → Bool}
theorem mx_nil (n:Nat):mx f n [] = 0:=by cases n <;> rfl
theorem zdn (n a:Nat) (r:List Nat):mx f n r ≤ mx f (n + 1) (a :: r) ∧ (∀ b ∈ r,f a b = true → 1 + mx f n (r.erase b) ≤ mx f (n + 1) (a :: r)) ∧
  (mx f (n + 1) (a :: r) = mx f n r ∨ ∃ b ∈ r,f a b = true ∧ mx f (n + 1) (a :: r) = 1 + mx f n (r.erase b)):=by
 have e:mx f (n + 1) (a :: r) = r.foldl (fun m b => if f a b then max m (1 + mx f n (r.erase b)) else m) (mx f n r):=rfl
 rw [e]
 exact zoE (g:=fun b => 1 + mx f n (r.erase b)) (p:=fun b => f a b) r (mx f n r)
theorem zc4 {r:List Nat} {b:Nat} (hb:b ∈ r):(r.erase b).length + 1 = r.length:=by
 have:=List.length_erase_of_mem hb
 have:0 < r.length:=List.length_pos_of_mem hb
 omega
theorem zd9:∀ (n m:Nat) (l:List Nat),l.length ≤ n → l.length ≤ m → mx f n l = mx f m l
 | _,_,[],_,_ => by rw [mx_nil,mx_nil]
 | n + 1,m + 1,a :: r,h1,h2 => by
  have h1':r.length ≤ n:=by simpa using h1
  have h2':r.length ≤ m:=by simpa using h2
  obtain ⟨p1,p2,p3⟩:=zdn (f:=f) n a r
  obtain ⟨q1,q2,q3⟩:=zdn (f:=f) m a r
  have e0:=zd9 n m r h1' h2'
  have eb:∀ b ∈ r,mx f n (r.erase b) = mx f m (r.erase b):=fun b hb => zd9 n m _ (by have:=zc4 hb; omega) (by have:=zc4 hb; omega)
  apply Nat.le_antisymm
  ·rcases p3 with p3 | ⟨b,hb,hf,p3⟩
   ·rw [p3,e0]; exact q1
   ·rw [p3,eb b hb]; exact q2 b hb hf
  ·rcases q3 with q3 | ⟨b,hb,hf,q3⟩
   ·rw [q3,← e0]; exact p1
   ·rw [q3,← eb b hb]; exact p2 b hb hf
theorem zgV:∀ (n:Nat) (l:List Nat) (b:Nat),l.length ≤ n → mx f n (l.erase b) ≤ mx f n l
 | n,[],b,_ => by simp
 | n + 1,a :: r,b,h => by
  have h':r.length ≤ n:=by simpa using h
  obtain ⟨p1,p2,p3⟩:=zdn (f:=f) n a r
  by_cases e:a = b
  ·subst e
   rw [List.erase_cons_head]
   rw [zd9 (n + 1) n r (by omega) h']
   exact p1
  ·rw [List.erase_cons_tail (by simpa using e)]
   obtain ⟨q1,q2,q3⟩:=zdn (f:=f) n a (r.erase b)
   have hel:∀ x (l:List Nat),(l.erase x).length ≤ l.length:=fun x l => List.length_erase_le
   rcases q3 with q3 | ⟨c,hc,hf,q3⟩
   ·rw [q3]
    exact Nat.le_trans (zgV n r b h') p1
   ·rw [q3,List.erase_comm]
    have hc':c ∈ r:=List.mem_of_mem_erase hc
    have:=zgV n (r.erase c) b (Nat.le_trans (hel c r) h')
    have:=p2 c hc' hf
    omega
theorem zgW:∀ (n:Nat) (l:List Nat),2 * mx f n l ≤ l.length
 | 0,_ => by simp [mx]
 | n + 1,[] => by rw [mx_nil]; simp
 | n + 1,a :: r => by
  rcases (zdn (f:=f) n a r).2.2 with e | ⟨b,h1,h2,e⟩
  ·rw [e]; have:=zgW n r; simp; omega
  ·rw [e]
   have:=zgW n (r.erase b)
   have:=zc4 h1
   simp; omega
end
def prL (p:Nat → Nat → Bool):Nat → List Nat → List (List (Nat × Nat))
 | 0,_ => [[]]
 | _ + 1,[] => [[]]
 | n + 1,a :: r => prL p n r ++ (r.filter (p a)).flatMap fun b => (prL p n (r.erase b)).map fun l => (a,b) :: l
def zis (f:Nat → Nat → Bool) (l:List (Nat × Nat)):Nat:=l.countP fun q => f q.1 q.2
theorem prL_le {f p:Nat → Nat → Bool}:∀ (n:Nat) (r:List Nat),r.length ≤ n → ∀ l ∈ prL p n r,zis f l ≤ mx f n r
 | 0,r,h,l,hl => by
  simp [prL] at hl
  subst hl
  simp [zis]
 | n + 1,[],h,l,hl => by
  simp [prL] at hl
  subst hl
  simp [zis]
 | n + 1,a :: r,h,l,hl => by
  have h':r.length ≤ n:=by simpa using h
  obtain ⟨p1,p2,_⟩:=zdn (f:=f) n a r
  unfold prL at hl
  rcases czv.1 hl with q | q
  ·exact Nat.le_trans (prL_le n r h' l q) p1
  ·obtain ⟨b,hb,q⟩:=List.mem_flatMap.1 q
   obtain ⟨l',hl',rfl⟩:=czx.1 q
   have hbr:=(List.mem_filter.1 hb).1
   have:=prL_le (f:=f) n (r.erase b) (by have:=zc4 hbr; omega) l' hl'
   unfold zis at this ⊢
   rw [List.countP_cons]
   dsimp only
   by_cases hf:f a b = true
   ·have:=p2 b hbr hf
    rw [if_pos hf]; omega
   ·rw [if_neg hf]
    have:=zgV (f:=f) n r b h'
    omega
theorem zmS {f p:Nat → Nat → Bool} (hp:∀ a b,f a b = true → p a b = true):∀ (n:Nat) (r:List Nat),r.length ≤ n → ∃ l ∈ prL p n r,zis f l = mx f n r
 | 0,r,h => ⟨[],by simp [prL],by simp [zis,mx]⟩
 | n + 1,[],h => ⟨[],by simp [prL],by simp [zis,mx]⟩
 | n + 1,a :: r,h => by
  have h':r.length ≤ n:=by simpa using h
  rcases (zdn (f:=f) n a r).2.2 with e | ⟨b,h1,h2,e⟩
  ·obtain ⟨l,hl,hc⟩:=zmS hp n r h'
   exact ⟨l,by unfold prL; exact czv.2 (.inl hl),by rw [e]; exact hc⟩
  ·obtain ⟨l,hl,hc⟩:=zmS hp n (r.erase b) (by have:=zc4 h1; omega)
   refine ⟨(a,b) :: l,by unfold prL; exact czv.2 (.inr (List.mem_flatMap.2 ⟨b,List.mem_filter.2 ⟨h1,hp _ _ h2⟩,czx.2 ⟨l,hl,rfl⟩⟩)),?_⟩
   unfold zis at hc ⊢
   rw [e,List.countP_cons,hc]
   dsimp only
   rw [if_pos h2]; omega
/-! Parts one behind the other. -/
def zc2:List Pt → List Int
 | [] => []
 | p :: r => p.a :: p.b :: p.c :: zc2 r
def zbM:List Int → List Pt
 | a :: b :: c :: r => ⟨a,b,c⟩ :: zbM r
 | _ => []
theorem zfp:∀ l:List Pt,zbM (zc2 l) = l
 | [] => rfl
 | p :: r => by
  unfold zc2 zbM
  rw [zfp r]
theorem zjP:∀ l:List Pt,(zc2 l).length = 3 * l.length
 | [] => rfl
 | p :: r => by unfold zc2; simp only [cza]; rw [zjP r]; omega
theorem zhN:∀ (n:Nat) (l:List Int),l.length = 3 * n → zc2 (zbM l) = l
 | 0,l,h => by
  have:l = []:=List.eq_nil_of_length_eq_zero (by omega)
  subst this; rfl
 | n + 1,l,h => by
  match l,h with
  | a :: b :: c :: r,h =>
   unfold zbM zc2
   rw [zhN n r (by simp only [cza] at h; omega)]
def zhT (p:Int):List Int:=[0,1].filter fun n => decide (p = 2) || decide (p = n)
def zcR:List Int → List (List Int)
 | [] => [[]]
 | p :: r => (zhT p).flatMap fun n => (zcR r).map fun l => n :: l
def zrl:List Int → Nat → List Int
 | [],_ => []
 | p :: r,n => if p = 2 then ((n % 2:Nat):Int) :: zrl r (n / 2) else p :: zrl r n
theorem zfQ (p:Int) (r:List Int) (n:Nat):zrl (p :: r) n = if p = 2 then ((n % 2:Nat):Int) :: zrl r (n / 2) else p :: zrl r n:=rfl
def zkm (l:List Int):Nat:=l.countP fun p => decide (p = 2)
theorem zgX {p n:Int} (hp:p = 0 ∨ p = 1 ∨ p = 2):n ∈ zhT p ↔ (n = 0 ∨ n = 1) ∧ (p = 2 ∨ p = n):=by
 unfold zhT
 simp only [List.mem_filter,czn,czk,or_false,czI,decide_eq_true_eq]
theorem zjF:∀ {l:List Int},(∀ p ∈ l,p = 0 ∨ p = 1 ∨ p = 2) → ∀ t,t ∈ zcR l ↔ ∃ n,n < 2 ^ zkm l ∧ zrl l n = t
 | [],_,t => by
  simp only [zcR,czC,zkm,zrl]
  constructor
  ·rintro rfl; exact ⟨0,by simp,rfl⟩
  ·rintro ⟨_,_,rfl⟩; rfl
 | p :: r,h,t => by
  have ih:=zjF (l:=r) fun q hq => h q (by simp [hq])
  have hp:=h p (by simp)
  unfold zcR
  rw [List.mem_flatMap]
  have hu:zkm (p :: r) = zkm r + if p = 2 then 1 else 0:=by
   unfold zkm
   rw [List.countP_cons]
   simp only [decide_eq_true_eq]
  constructor
  ·rintro ⟨n,hn,ht⟩
   obtain ⟨l,hl,rfl⟩:=czx.1 ht
   obtain ⟨m,hm,rfl⟩:=(ih l).1 hl
   obtain ⟨h01,h2⟩:=(zgX hp).1 hn
   by_cases e:p = 2
   ·rw [hu,if_pos e,Nat.pow_succ]
    refine ⟨2 * m + n.toNat,by omega,?_⟩
    rw [zfQ]
    rw [if_pos e]
    have e1:(2 * m + n.toNat) % 2 = n.toNat:=by omega
    have e2:(2 * m + n.toNat) / 2 = m:=by omega
    rw [e1,e2]
    congr 1
    omega
   ·rw [hu,if_neg e]
    refine ⟨m,hm,?_⟩
    rw [zfQ]
    rw [if_neg e]
    rcases h2 with h2 | h2
    ·exact absurd h2 e
    ·rw [h2]
  ·rintro ⟨m,hm,rfl⟩
   rw [zfQ]
   by_cases e:p = 2
   ·rw [if_pos e]
    rw [hu,if_pos e,Nat.pow_succ] at hm
    refine ⟨((m % 2:Nat):Int),(zgX hp).2 ⟨by omega,.inl e⟩,czx.2 ⟨_,(ih _).2 ⟨m / 2,by omega,rfl⟩,rfl⟩⟩
   ·rw [if_neg e]
    rw [hu,if_neg e] at hm
    exact ⟨p,(zgX hp).2 ⟨by omega,.inr rfl⟩,czx.2 ⟨_,(ih _).2 ⟨m,hm,rfl⟩,rfl⟩⟩
theorem zok:∀ {l t:List Int},t ∈ zcR l → t.length = l.length
 | [],t,h => by simp [zcR] at h; subst h; rfl
 | p :: r,t,h => by
  unfold zcR at h
  obtain ⟨n,hn,ht⟩:=List.mem_flatMap.1 h
  obtain ⟨l,hl,rfl⟩:=czx.1 ht
  simp [zok hl]
theorem zmK:∀ {l t:List Int},(∀ p ∈ l,p = 0 ∨ p = 1 ∨ p = 2) → t ∈ zcR l → ∀ i,i < l.length → (at_ t i = 0 ∨ at_ t i = 1) ∧ (at_ l i ≠ 2 → at_ t i = at_ l i)
 | [],t,_,h,i,hi => by simp at hi
 | p :: r,t,hp,h,i,hi => by
  unfold zcR at h
  obtain ⟨n,hn,ht⟩:=List.mem_flatMap.1 h
  obtain ⟨l,hl,rfl⟩:=czx.1 ht
  obtain ⟨h01,h2⟩:=(zgX (hp p (by simp))).1 hn
  cases i with
  | zero =>
   show (n = 0 ∨ n = 1) ∧ (p ≠ 2 → n = p)
   exact ⟨h01,fun e => by rcases h2 with h2 | h2; exact absurd h2 e; exact h2.symm⟩
  | succ i => exact zmK (fun q hq => hp q (by simp [hq])) hl i (by simpa using hi)
def zcu (k c w:Nat):List Nat:=(List.range' c k).filter fun i => !w.testBit i
theorem zfX (k c w:Nat):(zcu k c w).length ≤ k:=by
 have:=List.length_filter_le (fun i => !w.testBit i) (List.range' c k)
 simpa [zcu] using this
theorem zoD {k c w:Nat} (h:w.testBit c = true):zcu (k + 1) c w = zcu k (c + 1) w:=by
 unfold zcu
 rw [List.range'_succ,List.filter_cons,if_neg (by simp [h])]
theorem zhL {k c w:Nat} (h:w.testBit c = false):zcu (k + 1) c w = c :: zcu k (c + 1) w:=by
 unfold zcu
 rw [List.range'_succ,List.filter_cons,if_pos (by simp [h])]
theorem ziW (k c w b:Nat):zcu k c (w ||| 2 ^ b) = (zcu k c w).erase b:=by
 unfold zcu
 have hn:((List.range' c k).filter fun i => !w.testBit i).Nodup:=List.Nodup.sublist List.filter_sublist (List.nodup_range' ..)
 rw [hn.erase_eq_filter,List.filter_filter]
 congr 1
 funext i
 rw [Nat.testBit_or,Nat.testBit_two_pow]
 by_cases e:b = i
 ·subst e; simp
 ·have e':(i != b) = true:=by simp; omega
  simp [e,e']
theorem zjH {k c w b:Nat}:b ∈ zcu k c w ↔ (c ≤ b ∧ b < c + k) ∧ w.testBit b = false:=by
 unfold zcu
 rw [List.mem_filter,List.mem_range'_1]
 simp
theorem zjx {p:Nat → Nat → Bool}:∀ (n m:Nat) (l:List Nat),l.length ≤ n → l.length ≤ m → prL p n l = prL p m l
 | n,m,[],_,_ => by cases n <;> cases m <;> rfl
 | n + 1,m + 1,a :: r,h1,h2 => by
  have h1':r.length ≤ n:=by simpa using h1
  have h2':r.length ≤ m:=by simpa using h2
  show prL p n r ++ _ = prL p m r ++ _
  rw [zjx n m r h1' h2']
  congr 1
  have key:∀ q:List Nat,(∀ b ∈ q,b ∈ r) → (q.flatMap fun b => (prL p n (r.erase b)).map fun l => (a,b) :: l) = q.flatMap fun b => (prL p m (r.erase b)).map fun l => (a,b) :: l:=by
   intro q
   induction q with
   | nil => intro _; rfl
   | cons b q ih =>
    intro hq
    have hb:=hq b (by simp)
    have:=zc4 hb
    simp only [List.flatMap_cons]
    rw [ih (fun x hx => hq x (by simp [hx])),zjx n m (r.erase b) (by omega) (by omega)]
  exact key _ fun b hb => (List.mem_filter.1 hb).1
def rgQ (q:Nat × Nat):Rg:=⟨(q.1:Int),(q.2:Int)⟩
def prR:Nat → Nat → Nat → List (List Rg)
 | 0,_,_ => [[]]
 | k + 1,c,w => if w.testBit c = true then prR k (c + 1) w
  else prR k (c + 1) w ++ (List.range' (c + 1) k).flatMap fun b => if w.testBit b = true then [] else (prR k (c + 1) (w ||| 2 ^ b)).map fun l => (⟨(c:Int),(b:Int)⟩:Rg) :: l
theorem zkH:∀ (k c w:Nat),prR k c w = (prL (fun _ _ => true) k (zcu k c w)).map fun l => l.map rgQ
 | 0,c,w => rfl
 | k + 1,c,w => by
  unfold prR
  cases h:w.testBit c
  ·rw [if_neg (by simp),zhL h]
   show _ = List.map _ (prL _ k (zcu k (c + 1) w) ++ _)
   rw [List.map_append,zkH k (c + 1) w]
   congr 1
   have hft:∀ l:List Nat,l.filter (fun _ => true) = l:=fun l => List.filter_eq_self.2 fun _ _ => rfl
   simp only [hft]
   have key:∀ q:List Nat,(q.flatMap fun b => if w.testBit b = true then [] else (prR k (c + 1) (w ||| 2 ^ b)).map fun l => (⟨(c:Int),(b:Int)⟩:Rg) :: l) =
     ((q.filter fun i => !w.testBit i).flatMap fun b => (prL (fun _ _ => true) k ((zcu k (c + 1) w).erase b)).map fun l => (c,b) :: l).map fun l => l.map rgQ:=by
    intro q
    induction q with
    | nil => rfl
    | cons b q ih =>
     rw [List.flatMap_cons,ih,List.filter_cons]
     cases hb:w.testBit b
     ·simp only [Bool.not_false,if_true,czp,if_false,List.flatMap_cons,List.map_append]
      congr 1
      rw [zkH k (c + 1) (w ||| 2 ^ b),ziW,List.map_map,List.map_map]
      rfl
     ·simp
   exact key _
  ·rw [if_pos rfl,zoD h,zkH k (c + 1) w]
   rw [zjx k (k + 1) (zcu k (c + 1) w) (zfX _ _ _) (Nat.le_succ_of_le (zfX _ _ _))]
def zle:Nat → Nat
 | 0 => 1
 | k + 1 => (k + 1) * zle k
theorem zjw:∀ (k c w:Nat),(prR k c w).length ≤ zle k
 | 0,_,_ => by simp [prR,zle]
 | k + 1,c,w => by
  have hk:=zjw k (c + 1)
  unfold prR zle
  have hpos:zle k ≤ (k + 1) * zle k:=Nat.le_mul_of_pos_left _ (by omega)
  split
  ·exact Nat.le_trans (hk w) hpos
  ·have key:∀ q:List Nat,(q.flatMap fun b => if w.testBit b = true then [] else (prR k (c + 1) (w ||| 2 ^ b)).map fun l => (⟨(c:Int),(b:Int)⟩:Rg) :: l).length ≤ q.length * zle k:=by
    intro q
    induction q with
    | nil => simp
    | cons b q ih =>
     rw [List.flatMap_cons,czc,cza,Nat.succ_mul]
     have:(if w.testBit b = true then [] else (prR k (c + 1) (w ||| 2 ^ b)).map fun l => (⟨(c:Int),(b:Int)⟩:Rg) :: l).length ≤ zle k:=by
      split
      ·simp
      ·rw [czz]; exact hk _
     omega
   have h1:=key (List.range' (c + 1) k)
   rw [List.length_range'] at h1
   have h2:=hk w
   rw [czc,Nat.succ_mul]
   omega
theorem prR_ok:∀ (k c w:Nat),∀ l ∈ prR k c w,2 * l.length ≤ k ∧ ∀ q ∈ l,((c:Int) ≤ q.lo ∧ q.lo < ((c + k:Nat):Int)) ∧ (c:Int) ≤ q.hi ∧ q.hi < ((c + k:Nat):Int):=by
 intro k c w l hl
 rw [zkH] at hl
 obtain ⟨l',hl',rfl⟩:=czx.1 hl
 have key:∀ (n:Nat) (r:List Nat),r.length ≤ n → ∀ l ∈ prL (fun _ _ => true) n r,2 * l.length ≤ r.length ∧ ∀ q ∈ l,q.1 ∈ r ∧ q.2 ∈ r:=by
  intro n
  induction n with
  | zero => intro r _ l hl; simp [prL] at hl; subst hl; simp
  | succ n ih =>
   intro r hr l hl
   cases r with
   | nil => simp [prL] at hl; subst hl; simp
   | cons a r =>
    have hr':r.length ≤ n:=by simpa using hr
    unfold prL at hl
    rcases czv.1 hl with q | q
    ·obtain ⟨h1,h2⟩:=ih r hr' l q
     exact ⟨by simp; omega,fun x hx => ⟨List.mem_cons_of_mem _ (h2 x hx).1,List.mem_cons_of_mem _ (h2 x hx).2⟩⟩
    ·obtain ⟨b,hb,q⟩:=List.mem_flatMap.1 q
     obtain ⟨l2,hl2,rfl⟩:=czx.1 q
     have hbr:=(List.mem_filter.1 hb).1
     have he:=zc4 hbr
     obtain ⟨h1,h2⟩:=ih (r.erase b) (by omega) l2 hl2
     refine ⟨by simp; omega,fun x hx => ?_⟩
     rcases czn.1 hx with rfl | hx
     ·exact ⟨by simp,List.mem_cons_of_mem _ hbr⟩
     ·exact ⟨List.mem_cons_of_mem _ (List.mem_of_mem_erase (h2 x hx).1),List.mem_cons_of_mem _ (List.mem_of_mem_erase (h2 x hx).2)⟩
 obtain ⟨h1,h2⟩:=key k (zcu k c w) (zfX _ _ _) l' hl'
 have:=zfX k c w
 refine ⟨by rw [czz]; omega,fun q hq => ?_⟩
 obtain ⟨x,hx,rfl⟩:=czx.1 hq
 have g1:=zjH.1 (h2 x hx).1
 have g2:=zjH.1 (h2 x hx).2
 unfold rgQ
 dsimp only
 omega
theorem vc_Q {P:Program} {Φ:zay} {c:Code} {Q:QA} {st:St} (h:∀ Q',Q' = Q → vc P Φ c Q' st):vc P Φ c Q st:=h _ rfl
theorem bit_z (b i:Nat):(b:Int) / 2 ^ i % 2 = ((b / 2 ^ i % 2:Nat):Int):=by
 rw [Int.natCast_emod,Int.natCast_ediv,Int.natCast_pow]; rfl
theorem zgt (b i:Nat):0 ≤ (b:Int) / 2 ^ i:=by
 have:(b:Int) / 2 ^ i = ((b / 2 ^ i:Nat):Int):=by rw [Int.natCast_ediv,Int.natCast_pow]; rfl
 rw [this]; exact Int.natCast_nonneg _
theorem bit_0 (b i:Nat):decide ((b:Int) / 2 ^ i % 2 = 0) = !b.testBit i:=by
 rw [bit_z,Nat.testBit_eq_decide_div_mod_eq]
 have:=Nat.mod_lt (b / 2 ^ i) (show 0 < 2 by omega)
 by_cases h:b / 2 ^ i % 2 = 1
 ·simp [h]
 ·have h0:b / 2 ^ i % 2 = 0:=by omega
  simp [h0]
theorem bit_1 (b i:Nat):decide ((b:Int) / 2 ^ i % 2 = 1) = b.testBit i:=by
 rw [bit_z,Nat.testBit_eq_decide_div_mod_eq]
 have:=Nat.mod_lt (b / 2 ^ i) (show 0 < 2 by omega)
 by_cases h:b / 2 ^ i % 2 = 1
 ·simp [h]
 ·have h0:b / 2 ^ i % 2 = 0:=by omega
  simp [h0]
theorem zkR (n lo hi:Int):zaH Tryz.prog 47 [Enc.enc n,Enc.enc lo,Enc.enc hi] (· = Enc.enc (inB n lo hi)):=by
 simp only [zbT]
 refine cpz zgA Tryz.func47 zaA ?_
 rw [Tryz.ntmps47]
 simp only [Tryz.f47,zaj,zao]
 simp (maxSteps:=4000000) only [go_sem,AV.one,zae,zab,zac,zan,zaq,zaa,czb,cza,↓reduceIte,zaf,onz]
 rfl
theorem rIn_call (n lo hi:Int):zaH Tryz.prog 19 [Enc.enc n,Enc.enc lo,Enc.enc hi] (· = Enc.enc (inB n lo hi)):=by
 simp only [zbT]
 refine cpz zgA Tryz.func19 zaA ?_
 rw [Tryz.ntmps19]
 simp only [Tryz.f19,zaj,zao]
 simp (maxSteps:=4000000) only [go_sem,AV.one,zae,zab,zac,zan,zaq,zaa,czb,cza,↓reduceIte,zaf,onz]
 rfl
theorem zjE (l:List Int) (h:l ≠ [] ∧ l.length ≤ 4096):zaH Tryz.prog 53 [Enc.enc l] (· = Enc.enc (zqj l)):=by
 obtain ⟨h1,h2⟩:=h
 simp only [zbT]
 refine cpz zgA Tryz.func53 zaA ?_
 rw [Tryz.ntmps53]
 simp only [Tryz.f53,zaj,zao]
 simp (maxSteps:=4000000) only [go_sem,AV.one,zae,zab,zac,zan,zaq,zaa,czb,cza,↓reduceIte,zaf,onz]
 all_goals exact auz
def zbe (p:Pt):Bool:=decide ([p.a,p.b,p.c] = [(1:Int),1,1])
theorem zpF (p:Pt):zaH Tryz.prog 55 [Enc.enc p] (· = Enc.enc (zbe p)):=by
 simp only [zbT]
 refine cpz zgA Tryz.func55 zaA ?_
 rw [Tryz.ntmps55]
 simp only [Tryz.f55,zaj,zao]
 simp (maxSteps:=4000000) only [go_sem,AV.one,zae,zab,zac,zan,zaq,zaa,czb,cza,↓reduceIte,zaf,onz]
 simp [zbe]
def zbL (p:Pt):Bool:=decide (p.a + p.b + p.c = 3)
def zrp (p:Pt):Prop:=(0 ≤ p.a ∧ p.a ≤ 2) ∧ (0 ≤ p.b ∧ p.b ≤ 2) ∧ 0 ≤ p.c ∧ p.c ≤ 2
theorem zk2 (p:Pt) (h:zrp p):zaH Tryz.prog 89 [Enc.enc p] (· = Enc.enc (zbL p)):=by
 obtain ⟨h1,h2,h3⟩:=h
 simp only [zbT]
 refine cpz zgA Tryz.func89 zaA ?_
 rw [Tryz.ntmps89]
 simp only [Tryz.f89,zaj,zao]
 simp (maxSteps:=4000000) only [go_sem,AV.one,zae,zab,zac,zan,zaq,zaa,czb,cza,↓reduceIte,zaf,onz]
 all_goals (repeat' first | (with_reducible first | rfl | apply And.intro | assumption) | ((with_reducible show zad _ _ = true); rfl)) <;> try first | omega | (simp only [InR]; omega)
 simp [zbL]
theorem mto_call (r:Rg):zaH Tryz.prog 32 [Enc.enc r] (· = Enc.enc r):=by
 simp only [zbT]
 refine cpz zgA Tryz.func32 zaA ?_
 rw [Tryz.ntmps32]
 simp only [Tryz.f32,zaj,zao]
 simp (maxSteps:=4000000) only [go_sem,AV.one,zae,zab,zac,zan,zaq,zaa,czb,cza,↓reduceIte,zaf,onz]
def lowF (b:Nat):Nat → Nat → Nat
 | 0,i => i
 | n + 1,i => if b.testBit i = true then i else lowF b n (i + 1)
theorem zkX (b:Nat):∀ n i,(∃ k,i ≤ k ∧ k < i + n ∧ b.testBit k = true) → i ≤ lowF b n i ∧ lowF b n i < i + n ∧ b.testBit (lowF b n i) = true ∧ ∀ j,i ≤ j → j < lowF b n i → b.testBit j = false
 | 0,i,⟨k,h1,h2,_⟩ => by omega
 | n + 1,i,⟨k,h1,h2,h3⟩ => by
  unfold lowF
  by_cases c:b.testBit i = true
  ·rw [if_pos c]
   exact ⟨czf _,by omega,c,fun j _ _ => by omega⟩
  ·rw [if_neg c]
   have hk:i ≠ k:=fun e => c (by rw [e]; exact h3)
   obtain ⟨p1,p2,p3,p4⟩:=zkX b n (i + 1) ⟨k,by omega,by omega,h3⟩
   refine ⟨by omega,by omega,p3,fun j h4 h5 => ?_⟩
   by_cases e:j = i
   ·rw [e]; simpa using c
   ·exact p4 j (by omega) h5
def ziS (b:Nat):Nat:=lowF b 62 0
theorem zoA {b:Nat} (h0:0 < b) (h:b < 2 ^ 62):ziS b < 62 ∧ b.testBit (ziS b) = true ∧ ∀ j,j < ziS b → b.testBit j = false:=by
 obtain ⟨i,hi⟩:=Nat.exists_testBit_of_ne_zero (show b ≠ 0 by omega)
 have hi62:i < 62:=by
  rcases Nat.lt_or_ge i 62 with q | q
  ·exact q
  ·have:=Nat.testBit_lt_two_pow (x:=b) (i:=i) (Nat.lt_of_lt_of_le h (Nat.pow_le_pow_right (by omega) q))
   rw [this] at hi; cases hi
 obtain ⟨p1,p2,p3,p4⟩:=zkX b 62 0 ⟨i,by omega,by omega,hi⟩
 exact ⟨by unfold ziS; omega,p3,fun j hj => p4 j (by omega) hj⟩
theorem zne (b:Nat) (h0:0 < b) (h:b < 2 ^ 62):zaH Tryz.prog 81 [Enc.enc (b:Int)] (· = Enc.enc ((ziS b:Nat):Int)):=by
 obtain ⟨h1,h2,h3⟩:=zoA h0 h
 obtain ⟨n,hn⟩:∃ n,ziS b = n:=⟨_,rfl⟩
 rw [hn] at h1 h2 h3 ⊢
 simp only [zbT]
 refine cpz zgA Tryz.func81 zaA ?_
 rw [Tryz.ntmps81]
 simp only [Tryz.f81,zaj,zao]
 simp (maxSteps:=4000000) only [go_sem,AV.one,zae,zab,zac,zan,zaq,zaa,czb,cza,↓reduceIte,zaf,onz]
 refine zbg (n) [] [0] (fun i => [(2,.int .i64 i)]) (fun _ m => m) (fun _ => True) ?_ ?_ ?_ ?_
 ·trivial
 ·simp [AV.bare,zal,zaF,zaI,zak,zas,zai,tokz1,lk,zaa,zaZ]
 ·intro i hi _
  have e:=bit_0 b i
  have hnn:=zgt b i
  rw [h3 i hi] at e
  simp (maxSteps:=4000000) only [go_sem,AV.one,zae,zab,zac,zan,zaq,zaa,czb,cza,↓reduceIte,zaf,onz,e]
  all_goals (repeat' first | (with_reducible first | rfl | apply And.intro | assumption) | ((with_reducible show zad _ _ = true); rfl)) <;> try first | omega | (simp only [InR]; omega)
  refine nxt hi trivial ?_
  simp [AV.bare,zal,zaF,zaI,zak,zas,zai,tokz1,lk,zaa,zaZ]
 ·intro _
  have e:=bit_0 b n
  have hnn:=zgt b n
  rw [h2] at e
  simp (maxSteps:=4000000) only [go_sem,AV.one,zae,zab,zac,zan,zaq,zaa,czb,cza,↓reduceIte,zaf,onz,e]
  all_goals exact auz
def P201 (g:FuncId):=(zat 47 (zgE (fun _ _ _ => True) inB) (zat 19 (zgE (fun _ _ _ => True) inB) (zat 53 (zbN (fun l:List Int => l ≠ [] ∧ l.length ≤ 4096) zqj) (zat 55 (zbN (fun _:Pt => True) zbe) (zat 89 (zbN zrp zbL) (zat 32 (zbN (fun _:Rg => True) (fun r => r)) (P44)))))):zay) g
theorem zfC:zam Tryz.prog P201:=zah (zcY fun a b c _ => zkR a b c) (zah (zcY fun a b c _ => rIn_call a b c) (zah (zaN zjE) (zah (zaN fun p _ => zpF p) (zah (zaN zk2) (zah (zaN fun r _ => mto_call r) (zgA))))))
theorem zmk (d:Option Nat):zaw P201 d = none:=(zag (by decide) d).trans ((zag (by decide) d).trans ((zag (by decide) d).trans ((zag (by decide) d).trans ((zag (by decide) d).trans ((zag (by decide) d).trans (zka d))))))
attribute [go_sem] P201 zmk
theorem mhas_call (r:Rg) (n:Int):zaH Tryz.prog 79 [Enc.enc r,Enc.enc n] (· = Enc.enc (inB n r.lo r.hi)):=by
 simp only [zbT]
 refine cpz zfC Tryz.func79 zaA ?_
 rw [Tryz.ntmps79]
 simp only [Tryz.f79,zaj,zao]
 simp (maxSteps:=4000000) only [go_sem,AV.one,zae,zab,zac,zan,zaq,zaa,czb,cza,↓reduceIte,zaf,onz]
def zb6 (r:Rg) (n:Int):Rg:=⟨min r.lo n,max r.hi n⟩
theorem zpE (r:Rg) (n:Int):zaH Tryz.prog 31 [Enc.enc r,Enc.enc n] (· = Enc.enc (zb6 r n)):=by
 have e:zqj [r.lo,n] = min r.lo n:=rfl
 simp only [zbT]
 refine cpz zfC Tryz.func31 zaA ?_
 rw [Tryz.ntmps31]
 simp only [Tryz.f31,zaj,zao]
 simp (maxSteps:=4000000) only [go_sem,AV.one,zae,zab,zac,zan,zaq,zaa,czb,cza,↓reduceIte,zaf,onz,e]
 all_goals (repeat' first | (with_reducible first | rfl | apply And.intro | assumption) | ((with_reducible show zad _ _ = true); rfl)) <;> try first | omega | (simp only [InR]; omega)
 ·simp
 ·rfl
def orI (x y:Int):Int:=((x.toNat ||| y.toNat:Nat):Int)
def zfU (p q:Pt):Bool:=(!zbe p && !zbe q) && zbe ⟨orI p.a q.a,orI p.b q.b,orI p.c q.c⟩
theorem zqs (p q:Pt) (h:zrp p ∧ zrp q):zaH Tryz.prog 56 [Enc.enc p,Enc.enc q] (· = Enc.enc (zfU p q)):=by
 obtain ⟨⟨h1,h2,h3⟩,h4,h5,h6⟩:=h
 unfold zfU
 cases c1:zbe p
 ·cases c2:zbe q
  ·simp only [zbT]
   refine cpz zfC Tryz.func56 zaA ?_
   rw [Tryz.ntmps56]
   simp only [Tryz.f56,zaj,zao]
   refine zaz fun Q1 h1 => ?_
   simp (maxSteps:=4000000) only [go_sem,AV.one,zae,zab,zac,zan,zaq,zaa,czb,cza,↓reduceIte,zaf,onz]
   all_goals (repeat' first | (with_reducible first | rfl | apply And.intro | assumption) | ((with_reducible show zad _ _ = true); rfl)) <;> try first | omega | (simp only [InR]; omega)
   rw [h1]; clear h1 Q1; simp only [zaO,zav]
   refine vc_Q fun Q0 hQ0 => ?_
   simp (maxSteps:=4000000) only [go_sem,AV.one,zae,zab,zac,zan,zaq,zaa,czb,cza,↓reduceIte,zaf,onz,c1,c2]
   all_goals (repeat' first | (with_reducible first | rfl | apply And.intro | assumption) | ((with_reducible show zad _ _ = true); rfl)) <;> try first | omega | (simp only [InR]; omega)
   simp (maxSteps:=4000000) only [go_sem,AV.one,zae,zab,zac,zan,zaq,zaa,czb,cza,↓reduceIte,zaf,onz,hQ0,orI]
  ·simp only [zbT]
   refine cpz zfC Tryz.func56 zaA ?_
   rw [Tryz.ntmps56]
   simp only [Tryz.f56,zaj,zao]
   refine zaz fun Q1 h1 => ?_
   simp (maxSteps:=4000000) only [go_sem,AV.one,zae,zab,zac,zan,zaq,zaa,czb,cza,↓reduceIte,zaf,onz]
   all_goals (repeat' first | (with_reducible first | rfl | apply And.intro | assumption) | ((with_reducible show zad _ _ = true); rfl)) <;> try first | omega | (simp only [InR]; omega)
   rw [h1]; clear h1 Q1; simp only [zaO,zav]
   refine vc_Q fun Q0 hQ0 => ?_
   simp (maxSteps:=4000000) only [go_sem,AV.one,zae,zab,zac,zan,zaq,zaa,czb,cza,↓reduceIte,zaf,onz,c1,c2]
   all_goals (repeat' first | (with_reducible first | rfl | apply And.intro | assumption) | ((with_reducible show zad _ _ = true); rfl)) <;> try first | omega | (simp only [InR]; omega)
   simp (maxSteps:=4000000) only [go_sem,AV.one,zae,zab,zac,zan,zaq,zaa,czb,cza,↓reduceIte,zaf,onz,hQ0]
 ·simp only [zbT]
  refine cpz zfC Tryz.func56 zaA ?_
  rw [Tryz.ntmps56]
  simp only [Tryz.f56,zaj,zao]
  refine zaz fun Q1 h1 => ?_
  simp (maxSteps:=4000000) only [go_sem,AV.one,zae,zab,zac,zan,zaq,zaa,czb,cza,↓reduceIte,zaf,onz]
  all_goals (repeat' first | (with_reducible first | rfl | apply And.intro | assumption) | ((with_reducible show zad _ _ = true); rfl)) <;> try first | omega | (simp only [InR]; omega)
  rw [h1]; clear h1 Q1; simp only [zaO,zav]
  refine vc_Q fun Q0 hQ0 => ?_
  simp (maxSteps:=4000000) only [go_sem,AV.one,zae,zab,zac,zan,zaq,zaa,czb,cza,↓reduceIte,zaf,onz,c1]
  all_goals (repeat' first | (with_reducible first | rfl | apply And.intro | assumption) | ((with_reducible show zad _ _ = true); rfl)) <;> try first | omega | (simp only [InR]; omega)
  simp (maxSteps:=4000000) only [go_sem,AV.one,zae,zab,zac,zan,zaq,zaa,czb,cza,↓reduceIte,zaf,onz,hQ0]
def zil (y:My) (a b:Int):Bool:=inB ((at_ y.chairs a.toNat).size - (at_ y.chairs b.toNat).size) (-y.fit) y.fit
structure MOk (y:My):Prop where
 len:y.chairs.length ≤ 7
 cls:y.claims.length ≤ 5
 f0:0 ≤ y.fit
 f9:y.fit ≤ 9
 ch:∀ c ∈ y.chairs,(0 ≤ c.size ∧ c.size ≤ 9) ∧ zrp c.p
 cl:∀ r ∈ y.claims,0 ≤ r.lo ∧ r.lo ≤ r.hi ∧ r.hi ≤ 7
theorem near_call (y:My) (a b:Int) (h:MOk y ∧ (0 ≤ a ∧ a < y.chairs.length) ∧ 0 ≤ b ∧ b < y.chairs.length):zaH Tryz.prog 39 [Enc.enc y,Enc.enc a,Enc.enc b] (· = Enc.enc (zil y a b)):=by
 obtain ⟨hy,⟨a0,a1⟩,b0,b1⟩:=h
 obtain ⟨i,rfl⟩:=czu a0
 obtain ⟨j,rfl⟩:=czu b0
 have hi:i < y.chairs.length:=by omega
 have hj:j < y.chairs.length:=by omega
 have g1:=zar (f:=EncE.cs) hi
 have g2:=zar (f:=EncE.cs) hj
 have c1:=(hy.ch _ (zaS hi)).1
 have c2:=(hy.ch _ (zaS hj)).1
 have f0:=hy.f0
 have f9:=hy.f9
 unfold zil
 simp only [zbT]
 refine cpz zfC Tryz.func39 zaA ?_
 rw [Tryz.ntmps39]
 simp only [Tryz.f39,zaj,zao]
 simp (maxSteps:=4000000) only [go_sem,AV.one,zae,zab,zac,zan,zaq,zaa,czb,cza,↓reduceIte,zaf,onz,g1,g2]
 all_goals exact auz
def P202 (g:FuncId):=(zat 79 (zbD (fun (_:Rg) (_:Int) => True) (fun r n => inB n r.lo r.hi)) (zat 31 (zbD (fun (_:Rg) (_:Int) => True) zb6) (zat 56 (zbD (fun p q:Pt => zrp p ∧ zrp q) zfU) (zat 39 (zgE (fun (y:My) (a b:Int) => MOk y ∧ (0 ≤ a ∧ a < y.chairs.length) ∧ 0 ≤ b ∧ b < y.chairs.length) zil) (P201)))):zay) g
theorem P202_ok:zam Tryz.prog P202:=zah (zaK fun r n _ => mhas_call r n) (zah (zaK fun r n _ => zpE r n) (zah (zaK zqs) (zah (zcY near_call) (zfC))))
theorem zmj (d:Option Nat):zaw P202 d = none:=(zag (by decide) d).trans ((zag (by decide) d).trans ((zag (by decide) d).trans ((zag (by decide) d).trans (zmk d))))
attribute [go_sem] P202 zmj
def unkP (p:Pt):Nat:=(if p.a = 2 then 1 else 0) + ((if p.b = 2 then 1 else 0) + if p.c = 2 then 1 else 0)
def zbY:List Mc → Nat
 | [] => 0
 | c :: r => unkP c.p + zbY r
theorem zji:∀ (l:List Mc) (c:Mc),zbY (l ++ [c]) = zbY l + unkP c.p
 | [],c => by simp [zbY]
 | x :: l,c => by
  simp only [czs,zbY]
  rw [zji l c]; omega
theorem zjh:∀ l:List Mc,zbY l ≤ 3 * l.length
 | [] => by simp [zbY]
 | c :: l => by
  simp only [zbY,cza]
  have:=zjh l
  have:unkP c.p ≤ 3:=by unfold unkP; (repeat' split) <;> omega
  omega
def ziz (p:Pt) (k:Nat):Nat:=(if 0 < k then (if p.a = 2 then 1 else 0) else 0) + ((if 1 < k then (if p.b = 2 then 1 else 0) else 0) + if 2 < k then (if p.c = 2 then 1 else 0) else 0)
theorem unkK_le (p:Pt) (k:Nat):ziz p k ≤ 3:=by
 unfold ziz
 (repeat' split) <;> omega
theorem zlK (y:My) (h:y.chairs.length ≤ 4096):zaH Tryz.prog 18 [Enc.enc y] (· = Enc.enc ((zbY y.chairs:Nat):Int)):=by
 have hle:=zjh y.chairs
 simp only [zbT]
 refine cpz P202_ok Tryz.func18 zaA ?_
 rw [Tryz.ntmps18]
 simp only [Tryz.f18,zaj,zao]
 simp (maxSteps:=4000000) only [go_sem,AV.one,zae,zab,zac,zan,zaq,zaa,czb,cza,↓reduceIte,zaf,onz]
 all_goals (repeat' first | (with_reducible first | rfl | apply And.intro | assumption) | ((with_reducible show zad _ _ = true); rfl)) <;> try first | omega | (simp only [InR]; omega)
 refine zbg (y.chairs.length) [] [1,2] (fun i => [(4,.int .i64 i),(3,.int .i64 ((zbY (y.chairs.take i):Nat):Int))]) (fun _ m => m) (fun _ => True) ?_ ?_ ?_ ?_
 ·trivial
 ·simp [AV.bare,zal,zaF,zaI,zak,zas,zai,tokz1,lk,zaa,zaZ,zbY]
 ·intro i hi _
  have hi':=czH.2 hi
  have hg:=zar (f:=EncE.cs) hi
  have hu1:=zjh (y.chairs.take i)
  have hu2:(y.chairs.take i).length = i:=by simp; omega
  obtain ⟨c,hc⟩:∃ c,at_ y.chairs i = c:=⟨_,rfl⟩
  have hsu:zbY (y.chairs.take (i + 1)) = zbY (y.chairs.take i) + ziz c.p 3:=by rw [zaM hi,zji,hc]; rfl
  rw [hc] at hg
  obtain ⟨U,hU⟩:∃ U,zbY (y.chairs.take i) = U:=⟨_,rfl⟩
  rw [hU] at hsu hu1
  rw [hU]
  simp (maxSteps:=4000000) only [go_sem,AV.one,zae,zab,zac,zan,zaq,zaa,czb,cza,↓reduceIte,zaf,onz,hi']
  all_goals (repeat' first | (with_reducible first | rfl | apply And.intro | assumption) | ((with_reducible show zad _ _ = true); rfl)) <;> try first | omega | (simp only [InR]; omega)
  refine zbg (3) [] [1,2,4,6,7,8,9] (fun k => [(5,.int .i64 k),(3,.int .i64 ((U + ziz c.p k:Nat):Int))]) (fun _ m => m) (fun _ => True) ?_ ?_ ?_ ?_
  ·trivial
  ·simp [AV.bare,zal,zaF,zaI,zak,zas,zai,tokz1,lk,zaa,zaZ,ziz]
  ·intro k hk _
   have hk3:=unkK_le c.p k
   rcases (by omega:k = 0 ∨ k = 1 ∨ k = 2) with rfl | rfl | rfl
   ·cases c1:decide (c.p.a = 2)
    all_goals
     simp (maxSteps:=4000000) only [go_sem,AV.one,zae,zab,zac,zan,zaq,zaa,czb,cza,↓reduceIte,zaf,onz,hg,hi,c1,Int.cast_ofNat_Int]
     all_goals (repeat' first | (with_reducible first | rfl | apply And.intro | assumption) | ((with_reducible show zad _ _ = true); rfl)) <;> try first | omega | (simp only [InR]; omega)
     refine nxt hk trivial ?_
     simp at c1
     simp [AV.bare,zal,zaF,zaI,zak,zas,zai,tokz1,lk,zaa,zaZ,ziz,c1]
     all_goals (try omega)
   ·cases c1:decide (c.p.b = 2)
    all_goals
     simp (maxSteps:=4000000) only [go_sem,AV.one,zae,zab,zac,zan,zaq,zaa,czb,cza,↓reduceIte,zaf,onz,hg,hi,c1,Int.cast_ofNat_Int]
     all_goals (repeat' first | (with_reducible first | rfl | apply And.intro | assumption) | ((with_reducible show zad _ _ = true); rfl)) <;> try first | omega | (simp only [InR]; omega)
     refine nxt hk trivial ?_
     simp at c1
     simp [AV.bare,zal,zaF,zaI,zak,zas,zai,tokz1,lk,zaa,zaZ,ziz,c1]
     all_goals (try omega)
   ·cases c1:decide (c.p.c = 2)
    all_goals
     simp (maxSteps:=4000000) only [go_sem,AV.one,zae,zab,zac,zan,zaq,zaa,czb,cza,↓reduceIte,zaf,onz,hg,hi,c1,Int.cast_ofNat_Int]
     all_goals (repeat' first | (with_reducible first | rfl | apply And.intro | assumption) | ((with_reducible show zad _ _ = true); rfl)) <;> try first | omega | (simp only [InR]; omega)
     refine nxt hk trivial ?_
     simp at c1
     simp [AV.bare,zal,zaF,zaI,zak,zas,zai,tokz1,lk,zaa,zaZ,ziz,c1]
     all_goals (try omega)
  ·intro _
   simp (maxSteps:=4000000) only [go_sem,AV.one,zae,zab,zac,zan,zaq,zaa,czb,cza,↓reduceIte,zaf,onz,Int.cast_ofNat_Int]
   all_goals (repeat' first | (with_reducible first | rfl | apply And.intro | assumption) | ((with_reducible show zad _ _ = true); rfl)) <;> try first | omega | (simp only [InR]; omega)
   refine nxt hi trivial ?_
   simp [AV.bare,zal,zaF,zaI,zak,zas,zai,tokz1,lk,zaa,zaZ,hsu,-List.map_take]
 ·intro _
  simp (maxSteps:=4000000) only [go_sem,AV.one,zae,zab,zac,zan,zaq,zaa,czb,cza,↓reduceIte,zaf,onz,czA,czm]
def P203 (g:FuncId):=(zat 18 (zbN (fun y:My => y.chairs.length ≤ 4096) (fun y => ((zbY y.chairs:Nat):Int))) (P202):zay) g
theorem P203_ok:zam Tryz.prog P203:=zah (zaN zlK) (P202_ok)
theorem zmi (d:Option Nat):zaw P203 d = none:=(zag (by decide) d).trans (zmj d)
attribute [go_sem] P203 zmi
def zdP (p n:Int):Int:=if p = 2 then n / 2 else n
def zof (p n:Int):Int:=if p = 2 then n % 2 else p
def ptN (p:Pt) (n:Int):Pt:=⟨zof p.a n,zof p.b (zdP p.a n),zof p.c (zdP p.b (zdP p.a n))⟩
def zgG (p:Pt) (n:Int):Int:=zdP p.c (zdP p.b (zdP p.a n))
def zjB:List Pt → Int → List Pt
 | [],_ => []
 | p :: r,n => ptN p n :: zjB r (zgG p n)
def zhg:List Pt → Int → Int
 | [],n => n
 | p :: r,n => zhg r (zgG p n)
theorem zoy:∀ (l:List Pt) (p:Pt) (n:Int),zjB (l ++ [p]) n = zjB l n ++ [ptN p (zhg l n)] ∧ zhg (l ++ [p]) n = zgG p (zhg l n)
 | [],p,n => ⟨rfl,rfl⟩
 | x :: l,p,n => by
  obtain ⟨h1,h2⟩:=zoy l p (zgG x n)
  simp only [czs,zjB,zhg]
  exact ⟨by rw [h1],h2⟩
theorem zjA:∀ (l:List Pt) (n:Int),(zjB l n).length = l.length
 | [],_ => rfl
 | p :: r,n => by simp [zjB,zjA r]
theorem zfJ {p n:Int} (h:0 ≤ n):0 ≤ zdP p n ∧ zdP p n ≤ n:=by unfold zdP; split <;> omega
theorem restN_nn {p:Pt} {n:Int} (h:0 ≤ n):0 ≤ zgG p n ∧ zgG p n ≤ n:=by
 have h1:=zfJ (p:=p.a) h
 have h2:=zfJ (p:=p.b) h1.1
 have h3:=zfJ (p:=p.c) h2.1
 unfold zgG; omega
theorem zos:∀ (l:List Pt) {n:Int},0 ≤ n → 0 ≤ zhg l n ∧ zhg l n ≤ n
 | [],n,h => ⟨h,Int.le_refl _⟩
 | p :: r,n,h => by
  have h1:=restN_nn (p:=p) h
  have h2:=zos r h1.1
  unfold zhg; omega
theorem zqA (p:Pt) (r:List Pt):zc2 (p :: r) = p.a :: p.b :: p.c :: zc2 r:=rfl
theorem zox:∀ (l:List Pt) (n:Nat),zc2 (zjB l n) = zrl (zc2 l) n
 | [],n => rfl
 | p :: r,n => by
  have e1:∀ (x:Int) (m:Nat),zof x m = (if x = 2 then ((m % 2:Nat):Int) else x):=fun x m => by unfold zof; rfl
  have e2:∀ (x:Int) (m:Nat),zdP x (m:Int) = ((if x = 2 then m / 2 else m:Nat):Int):=fun x m => by unfold zdP; split <;> rfl
  have e3:∀ (x:Int) (q:List Int) (m:Nat),zrl (x :: q) m = (if x = 2 then ((m % 2:Nat):Int) else x) :: zrl q (if x = 2 then m / 2 else m):=fun x q m => by rw [zfQ]; split <;> rfl
  show zc2 (ptN p n :: zjB r (zgG p n)) = zrl (p.a :: p.b :: p.c :: zc2 r) n
  rw [zqA]
  unfold ptN zgG
  rw [e3,e3,e3,e2,e2,e2,zox r,e1,e1,e1]
def ptK (p:Pt) (n:Int) (k:Nat):List AV:=[.int .i64 (if 0 < k then zof p.a n else p.a),.int .i64 (if 1 < k then zof p.b (zdP p.a n) else p.b),.int .i64 (if 2 < k then zof p.c (zdP p.b (zdP p.a n)) else p.c)]
def rsK (p:Pt) (n:Int) (k:Nat):Int:=if k = 0 then n else if k = 1 then zdP p.a n else if k = 2 then zdP p.b (zdP p.a n) else zgG p n
def zd7 (l:List Mc):List Pt:=l.map fun c => c.p
theorem Nth_call (y:My) (n:Int) (h:y.chairs.length ≤ 4096 ∧ 0 ≤ n ∧ n ≤ 4294967296):zaH Tryz.prog 13 [Enc.enc y,Enc.enc n] (· = Enc.enc (zjB (zd7 y.chairs) n)):=by
 obtain ⟨hl,hn,hn2⟩:=h
 simp only [zbT]
 refine cpz P203_ok Tryz.func13 zaA ?_
 rw [Tryz.ntmps13]
 simp only [Tryz.f13,zaj,zao]
 simp (maxSteps:=4000000) only [go_sem,AV.one,zae,zab,zac,zan,zaq,zaa,czb,cza,↓reduceIte,zaf,onz]
 all_goals (repeat' first | (with_reducible first | rfl | apply And.intro | assumption) | ((with_reducible show zad _ _ = true); rfl)) <;> try first | omega | (simp only [InR]; omega)
 refine zbg (y.chairs.length) [.slot 5 3] [2,4] (fun i => [(6,.int .i64 i),(1,.int .i64 (zhg (zd7 (y.chairs.take i)) n)),(5,.sl ((zjB (zd7 (y.chairs.take i)) n).map EncE.cs) (.own 1))]) (fun i m => m.set 1 (.tok (zjB (zd7 (y.chairs.take i)) n).length 3)) (fun _ => True) ?_ ?_ ?_ ?_
 ·trivial
 ·simp [AV.bare,zal,zaF,zaI,zak,zas,zai,tokz1,lk,zaa,zaZ,zjB,zhg,zd7]
 ·intro i hi _
  have hi':=czH.2 hi
  have hg:=zar (f:=EncE.cs) hi
  obtain ⟨c,hc⟩:∃ c,at_ y.chairs i = c:=⟨_,rfl⟩
  have hsp:zd7 (y.chairs.take (i + 1)) = zd7 (y.chairs.take i) ++ [c.p]:=by rw [zaM hi,hc]; unfold zd7; rw [List.map_append]; rfl
  obtain ⟨hs1,hs2⟩:=zoy (zd7 (y.chairs.take i)) c.p n
  have hnl:=zjA (zd7 (y.chairs.take i)) n
  have hpl:(zd7 (y.chairs.take i)).length = i:=by unfold zd7; simp; omega
  rw [hc] at hg
  obtain ⟨m0,m1⟩:=zos (zd7 (y.chairs.take i)) hn
  obtain ⟨m,hm⟩:∃ m,zhg (zd7 (y.chairs.take i)) n = m:=⟨_,rfl⟩
  obtain ⟨O,hO⟩:∃ O,zjB (zd7 (y.chairs.take i)) n = O:=⟨_,rfl⟩
  rw [hm] at hs1 hs2 m0 m1
  rw [hO] at hs1 hnl
  rw [hm,hO]
  have r1:=zfJ (p:=c.p.a) m0
  have r2:=zfJ (p:=c.p.b) r1.1
  simp (maxSteps:=4000000) only [go_sem,AV.one,zae,zab,zac,zan,zaq,zaa,czb,cza,↓reduceIte,zaf,onz,hi',hg,hi]
  all_goals (repeat' first | (with_reducible first | rfl | apply And.intro | assumption) | ((with_reducible show zad _ _ = true); rfl)) <;> try first | omega | (simp only [InR]; omega)
  refine zbg (3) [] [2,4,5,6,7,9,10,11,12,16,17,18,19,20,21] (fun k => [(8,.int .i64 k),(1,.int .i64 (rsK c.p m k))]) (fun k s => s.set 2 (.cells (ptK c.p m k))) (fun _ => True) ?_ ?_ ?_ ?_
  ·trivial
  ·simp [AV.bare,zal,zaF,zaI,zak,zas,zai,tokz1,lk,zaa,zaZ,ptK,rsK]
  ·intro k hk _
   rcases (by omega:k = 0 ∨ k = 1 ∨ k = 2) with rfl | rfl | rfl
   ·cases c1:decide (c.p.a = 2)
    all_goals
     simp (maxSteps:=4000000) only [go_sem,AV.one,zae,zab,zac,zan,zaq,zaa,czb,cza,↓reduceIte,zaf,onz,ptK,rsK,c1,Int.cast_ofNat_Int]
     all_goals (repeat' first | (with_reducible first | rfl | apply And.intro | assumption) | ((with_reducible show zad _ _ = true); rfl)) <;> try first | omega | (simp only [InR]; omega)
     refine nxt hk trivial ?_
     simp at c1
     simp [AV.bare,zal,zaF,zaI,zak,zas,zai,tokz1,lk,zaa,zaZ,ptK,rsK,zdP,zof,c1]
   ·cases c1:decide (c.p.b = 2)
    all_goals
     simp (maxSteps:=4000000) only [go_sem,AV.one,zae,zab,zac,zan,zaq,zaa,czb,cza,↓reduceIte,zaf,onz,ptK,rsK,c1,Int.cast_ofNat_Int]
     all_goals (repeat' first | (with_reducible first | rfl | apply And.intro | assumption) | ((with_reducible show zad _ _ = true); rfl)) <;> try first | omega | (simp only [InR]; omega)
     refine nxt hk trivial ?_
     simp at c1
     simp [AV.bare,zal,zaF,zaI,zak,zas,zai,tokz1,lk,zaa,zaZ,ptK,rsK,zdP,zof,c1]
   ·cases c1:decide (c.p.c = 2)
    all_goals
     simp (maxSteps:=4000000) only [go_sem,AV.one,zae,zab,zac,zan,zaq,zaa,czb,cza,↓reduceIte,zaf,onz,ptK,rsK,c1,Int.cast_ofNat_Int]
     all_goals (repeat' first | (with_reducible first | rfl | apply And.intro | assumption) | ((with_reducible show zad _ _ = true); rfl)) <;> try first | omega | (simp only [InR]; omega)
     refine nxt hk trivial ?_
     simp at c1
     simp [AV.bare,zal,zaF,zaI,zak,zas,zai,tokz1,lk,zaa,zaZ,ptK,rsK,zdP,zof,zgG,c1]
  ·intro _
   have ep:ptK c.p m 3 = EncE.cs (ptN c.p m):=rfl
   have er:rsK c.p m 3 = zgG c.p m:=rfl
   rw [ep,er]
   simp (maxSteps:=4000000) only [go_sem,AV.one,zae,zab,zac,zan,zaq,zaa,czb,cza,↓reduceIte,zaf,onz,Int.cast_ofNat_Int]
   all_goals (repeat' first | (with_reducible first | rfl | apply And.intro | assumption) | ((with_reducible show zad _ _ = true); rfl)) <;> try first | omega | (simp only [InR]; omega)
   refine nxt hi trivial ?_
   simp [AV.bare,zal,zaF,zaI,zak,zas,zai,tokz1,lk,zaa,zaZ,hsp,hs1,hs2,-List.map_take]
 ·intro _
  simp (maxSteps:=4000000) only [go_sem,AV.one,zae,zab,zac,zan,zaq,zaa,czb,cza,↓reduceIte,zaf,onz,czA,czm]
  all_goals exact auz
def P204 (g:FuncId):=(zat 13 (zbD (fun (y:My) (n:Int) => y.chairs.length ≤ 4096 ∧ 0 ≤ n ∧ n ≤ 4294967296) (fun y n => zjB (zd7 y.chairs) n)) (P203):zay) g
theorem zn9:zam Tryz.prog P204:=zah (zaK Nth_call) (P203_ok)
theorem zmh (d:Option Nat):zaw P204 d = none:=(zag (by decide) d).trans (zmi d)
attribute [go_sem] P204 zmh
def PtK (p:Pt):Prop:=(0 ≤ p.a ∧ p.a ≤ 1) ∧ (0 ≤ p.b ∧ p.b ≤ 1) ∧ 0 ≤ p.c ∧ p.c ≤ 1
theorem PtK.ok {p:Pt} (h:PtK p):zrp p:=⟨⟨h.1.1,by have:=h.1.2; omega⟩,⟨h.2.1.1,by have:=h.2.1.2; omega⟩,h.2.2.1,by have:=h.2.2.2; omega⟩
def TOk (t:List Pt):Prop:=∀ p ∈ t,PtK p
def zb2 (t:List Pt):Nat:=t.countP zbL
theorem zq1 (t:List Pt) (h:TOk t ∧ t.length ≤ 4096):zaH Tryz.prog 69 [Enc.enc t] (· = Enc.enc ((zb2 t:Nat):Int)):=by
 obtain ⟨ht,hl⟩:=h
 simp only [zbT]
 refine cpz zn9 Tryz.func69 zaA ?_
 rw [Tryz.ntmps69]
 simp only [Tryz.f69,zaj,zao]
 simp (maxSteps:=4000000) only [go_sem,AV.one,zae,zab,zac,zan,zaq,zaa,czb,cza,↓reduceIte,zaf,onz]
 all_goals (repeat' first | (with_reducible first | rfl | apply And.intro | assumption) | ((with_reducible show zad _ _ = true); rfl)) <;> try first | omega | (simp only [InR]; omega)
 refine zbg (t.length) [] [0,2] (fun i => [(4,.int .i64 i),(3,.int .i64 ((zb2 (t.take i):Nat):Int))]) (fun _ m => m) (fun _ => True) ?_ ?_ ?_ ?_
 ·trivial
 ·simp [AV.bare,zal,zaF,zaI,zak,zas,zai,tokz1,lk,zaa,zaZ,zb2]
 ·intro i hi _
  have hi':=czH.2 hi
  have hg:=zar (f:=EncE.cs) hi
  have hp:=(ht _ (zaS hi)).ok
  have hw:zb2 (t.take (i + 1)) = zb2 (t.take i) + if zbL (at_ t i) = true then 1 else 0:=by unfold zb2; rw [zaM hi,List.countP_append]; simp [List.countP_cons]
  have hb:zb2 (t.take i) ≤ i:=by unfold zb2; exact Nat.le_trans List.countP_le_length (by simp; omega)
  obtain ⟨p,hpe⟩:∃ p,at_ t i = p:=⟨_,rfl⟩
  rw [hpe] at hg hp hw
  cases c1:zbL p
  all_goals
   rw [c1] at hw
   simp (maxSteps:=4000000) only [go_sem,AV.one,zae,zab,zac,zan,zaq,zaa,czb,cza,↓reduceIte,zaf,onz,hi',hg,hi,c1]
   all_goals (repeat' first | (with_reducible first | rfl | apply And.intro | assumption) | ((with_reducible show zad _ _ = true); rfl)) <;> try first | omega | (simp only [InR]; omega)
   refine nxt hi trivial ?_
   simp [AV.bare,zal,zaF,zaI,zak,zas,zai,tokz1,lk,zaa,zaZ,hw,-List.map_take]
 ·intro _
  simp (maxSteps:=4000000) only [go_sem,AV.one,zae,zab,zac,zan,zaq,zaa,czb,cza,↓reduceIte,zaf,onz,czA,czm]
  all_goals exact auz
def zdY (y:My) (t:List Pt) (a b:Nat):Bool :=
 (((((decide (a ≠ b) && !zbL (at_ t a)) && !zbL (at_ t b)) && decide ((at_ y.chairs a).size - (at_ y.chairs b).size ≤ y.fit)) && decide (-((at_ y.chairs a).size - (at_ y.chairs b).size) ≤ y.fit)) && decide (0 < (at_ t a).a + (at_ t b).a)) &&
   decide (0 < (at_ t a).b + (at_ t b).b) && decide (0 < (at_ t a).c + (at_ t b).c)
def P2041:zay:=zif [1000001] P204
theorem P2041_app (g:FuncId) (h:¬ (g = 4000000000)):P2041 g = P204 g:=by unfold P2041 zif; rw [if_neg h]
theorem P2041_ok:zam Tryz.prog P2041:=zfo zn9
theorem zrd (d:Nat):zaw P2041 (some d) = if d ∈ ([1000001]:List Nat) then some d else none:=zbK _ _ d
attribute [go_sem] P2041_app zrd
theorem Fits_call (y:My) (t:List Pt) (a b:Int) (h:(MOk y ∧ TOk t ∧ t.length = y.chairs.length) ∧ (0 ≤ a ∧ a < y.chairs.length) ∧ 0 ≤ b ∧ b < y.chairs.length) :
  zaH Tryz.prog 70 [Enc.enc y,Enc.enc t,Enc.enc a,Enc.enc b] (· = Enc.enc (zdY y t a.toNat b.toNat)):=by
 obtain ⟨⟨hy,ht,hl⟩,⟨a0,a1⟩,b0,b1⟩:=h
 obtain ⟨i,rfl⟩:=czu a0
 obtain ⟨j,rfl⟩:=czu b0
 rw [czF,czF]
 have hi:i < y.chairs.length:=by omega
 have hj:j < y.chairs.length:=by omega
 have hti:i < t.length:=by omega
 have htj:j < t.length:=by omega
 have g1:=zar (f:=EncE.cs) hi
 have g2:=zar (f:=EncE.cs) hj
 have g3:=zar (f:=EncE.cs) hti
 have g4:=zar (f:=EncE.cs) htj
 have c1:=(hy.ch _ (zaS hi)).1
 have c2:=(hy.ch _ (zaS hj)).1
 have f0:=hy.f0
 have f9:=hy.f9
 have p1:=ht _ (zaS hti)
 have p2:=ht _ (zaS htj)
 have o1:=p1.ok
 have o2:=p2.ok
 unfold PtK at p1 p2
 have hij:decide ((i:Int) = (j:Int)) = decide (i = j):=by
  rw [decide_eq_decide]; omega
 unfold zdY
 obtain ⟨P,hP⟩:∃ P,at_ t i = P:=⟨_,rfl⟩
 obtain ⟨Q,hQ⟩:∃ Q,at_ t j = Q:=⟨_,rfl⟩
 obtain ⟨C,hC⟩:∃ C,at_ y.chairs i = C:=⟨_,rfl⟩
 obtain ⟨D,hD⟩:∃ D,at_ y.chairs j = D:=⟨_,rfl⟩
 rw [hP] at g3 p1 o1
 rw [hQ] at g4 p2 o2
 rw [hC] at g1 c1
 rw [hD] at g2 c2
 rw [hP,hQ,hC,hD]
 have e1:decide (i ≠ j) = !decide (i = j):=by simp
 rw [e1]
 simp only [zbT]
 refine cpz P2041_ok Tryz.func70 zaA ?_
 rw [Tryz.ntmps70]
 simp only [Tryz.f70,zaj,zao]
 refine zaz fun Q1 h1 => ?_
 simp (maxSteps:=4000000) only [go_sem,AV.one,zae,zab,zac,zan,zaq,zaa,czb,cza,↓reduceIte,zaf,onz]
 all_goals (repeat' first | (with_reducible first | rfl | apply And.intro | assumption) | ((with_reducible show zad _ _ = true); rfl)) <;> try first | omega | (simp only [InR]; omega)
 rw [h1]; clear h1 Q1; simp only [zaO,zav]
 refine zaz fun Q1 h1 => ?_
 simp (maxSteps:=4000000) only [go_sem,AV.one,zae,zab,zac,zan,zaq,zaa,czb,cza,↓reduceIte,zaf,onz,g3,g4]
 all_goals (repeat' first | (with_reducible first | rfl | apply And.intro | assumption) | ((with_reducible show zad _ _ = true); rfl)) <;> try first | omega | (simp only [InR]; omega)
 refine ⟨136,by rfl,?_⟩
 simp (maxSteps:=4000000) only [go_sem,AV.one,zae,zab,zac,zan,zaq,zaa,czb,cza,↓reduceIte,zaf,onz,(show Nat.testBit 136 399 = false from rfl),Bool.false_and,Bool.true_and,czp,(show Nat.testBit 136 200 = false from rfl),(show ∀ m,zdU false m = m from fun _ => rfl),zda,zce,znk,zjW,vcFr,Go.Fs.freeR,effL,zlF,zgH,List.all_cons,List.all_nil,List.contains_cons,List.contains_nil,Nat.reduceBEq,Bool.or_self,(show Nat.testBit 136 0 = false from rfl),(show Nat.testBit 136 1 = false from rfl),(show Nat.testBit 136 2 = false from rfl),(show Nat.testBit 136 3 = true from rfl),(show Nat.testBit 136 4 = false from rfl),(show Nat.testBit 136 5 = false from rfl),(show Nat.testBit 136 6 = false from rfl),(show Nat.testBit 136 7 = true from rfl),(show Nat.testBit 136 8 = false from rfl),(show Nat.testBit 136 9 = false from rfl),(show Nat.testBit 136 10 = false from rfl),(show Nat.testBit 136 11 = false from rfl),g3,g4,hti,htj]
 all_goals (repeat' first | (with_reducible first | rfl | apply And.intro | assumption) | ((with_reducible show zad _ _ = true); rfl)) <;> try first | omega | (simp only [InR]; omega)
 rw [h1]; clear h1 Q1; simp only [zaO,zav]
 refine zaz fun Q1 h1 => ?_
 simp (maxSteps:=4000000) only [go_sem,AV.one,zae,zab,zac,zan,zaq,zaa,czb,cza,↓reduceIte,zaf,onz,g1,g2]
 all_goals (repeat' first | (with_reducible first | rfl | apply And.intro | assumption) | ((with_reducible show zad _ _ = true); rfl)) <;> try first | omega | (simp only [InR]; omega)
 rw [h1]; clear h1 Q1; simp only [zaO,zav]
 refine vc_Q fun Q0 hQ0 => ?_
 cases d1:decide (i = j)
 case true =>
  simp (maxSteps:=4000000) only [go_sem,AV.one,zae,zab,zac,zan,zaq,zaa,czb,cza,↓reduceIte,zaf,onz,hij,d1]
  all_goals (repeat' first | (with_reducible first | rfl | apply And.intro | assumption) | ((with_reducible show zad _ _ = true); rfl)) <;> try first | omega | (simp only [InR]; omega)
  simp (maxSteps:=4000000) only [go_sem,AV.one,zae,zab,zac,zan,zaq,zaa,czb,cza,↓reduceIte,zaf,onz,hQ0,d1]
 cases d2:zbL P
 case true =>
  simp (maxSteps:=4000000) only [go_sem,AV.one,zae,zab,zac,zan,zaq,zaa,czb,cza,↓reduceIte,zaf,onz,hij,d1,d2]
  all_goals (repeat' first | (with_reducible first | rfl | apply And.intro | assumption) | ((with_reducible show zad _ _ = true); rfl)) <;> try first | omega | (simp only [InR]; omega)
  simp (maxSteps:=4000000) only [go_sem,AV.one,zae,zab,zac,zan,zaq,zaa,czb,cza,↓reduceIte,zaf,onz,hQ0,d1,d2]
 cases d3:zbL Q
 case true =>
  simp (maxSteps:=4000000) only [go_sem,AV.one,zae,zab,zac,zan,zaq,zaa,czb,cza,↓reduceIte,zaf,onz,hij,d1,d2,d3]
  all_goals (repeat' first | (with_reducible first | rfl | apply And.intro | assumption) | ((with_reducible show zad _ _ = true); rfl)) <;> try first | omega | (simp only [InR]; omega)
  simp (maxSteps:=4000000) only [go_sem,AV.one,zae,zab,zac,zan,zaq,zaa,czb,cza,↓reduceIte,zaf,onz,hQ0,d1,d2,d3]
 simp (maxSteps:=4000000) only [go_sem,AV.one,zae,zab,zac,zan,zaq,zaa,czb,cza,↓reduceIte,zaf,onz,hij,d1,d2,d3]
 all_goals (repeat' first | (with_reducible first | rfl | apply And.intro | assumption) | ((with_reducible show zad _ _ = true); rfl)) <;> try first | omega | (simp only [InR]; omega)
 all_goals (try (exact fun h => ⟨h,by simp only [InR]; omega⟩))
 simp (maxSteps:=4000000) only [go_sem,AV.one,zae,zab,zac,zan,zaq,zaa,czb,cza,↓reduceIte,zaf,onz,hQ0,d1,d2,d3]
def znI (y:My) (t:List Pt) (l:List Rg):Nat:=l.countP fun q => zdY y t q.lo.toNat q.hi.toNat
def PrOk (n:Nat) (l:List Rg):Prop:=l.length ≤ n ∧ ∀ q ∈ l,(0 ≤ q.lo ∧ q.lo < n) ∧ 0 ≤ q.hi ∧ q.hi < n
def P205 (g:FuncId):=(zat 69 (zbN (fun t:List Pt => TOk t ∧ t.length ≤ 4096) (fun t => ((zb2 t:Nat):Int))) (zat 70 (zpS (fun (y:My) (t:List Pt) (a b:Int) => (MOk y ∧ TOk t ∧ t.length = y.chairs.length) ∧ (0 ≤ a ∧ a < y.chairs.length) ∧ 0 ≤ b ∧ b < y.chairs.length) (fun y t a b => zdY y t a.toNat b.toNat)) (P204)):zay) g
theorem P205_ok:zam Tryz.prog P205:=zah (zaN zq1) (zah (zjk Fits_call) (zn9))
theorem zmg (d:Option Nat):zaw P205 d = none:=(zag (by decide) d).trans ((zag (by decide) d).trans (zmh d))
attribute [go_sem] P205 zmg
theorem zrf (y:My) (t:List Pt) (l:List Rg) (h:(MOk y ∧ TOk t ∧ t.length = y.chairs.length) ∧ PrOk y.chairs.length l):zaH Tryz.prog 45 [Enc.enc y,Enc.enc t,Enc.enc l] (· = Enc.enc ((zb2 t + znI y t l:Nat):Int)):=by
 obtain ⟨⟨hy,ht,hl⟩,hp1,hp2⟩:=h
 have h7:=hy.len
 have hw:zb2 t ≤ t.length:=List.countP_le_length
 simp only [zbT]
 refine cpz P205_ok Tryz.func45 zaA ?_
 rw [Tryz.ntmps45]
 simp only [Tryz.f45,zaj,zao]
 simp (maxSteps:=4000000) only [go_sem,AV.one,zae,zab,zac,zan,zaq,zaa,czb,cza,↓reduceIte,zaf,onz]
 all_goals (repeat' first | (with_reducible first | rfl | apply And.intro | assumption) | ((with_reducible show zad _ _ = true); rfl)) <;> try first | omega | (simp only [InR]; omega)
 refine zbg (l.length) [] [1,2,3,6] (fun i => [(8,.int .i64 i),(7,.int .i64 ((zb2 t + znI y t (l.take i):Nat):Int))]) (fun _ m => m) (fun _ => True) ?_ ?_ ?_ ?_
 ·trivial
 ·simp [AV.bare,zal,zaF,zaI,zak,zas,zai,tokz1,lk,zaa,zaZ,znI]
 ·intro i hi _
  have hi':=czH.2 hi
  have hg:=zar (f:=EncE.cs) hi
  obtain ⟨⟨a0,a1⟩,b0,b1⟩:=hp2 _ (zaS hi)
  have hcn:znI y t (l.take (i + 1)) = znI y t (l.take i) + if zdY y t (at_ l i).lo.toNat (at_ l i).hi.toNat = true then 1 else 0:=by unfold znI; rw [zaM hi,List.countP_append]; simp [List.countP_cons]
  have hb:znI y t (l.take i) ≤ i:=by unfold znI; exact Nat.le_trans List.countP_le_length (by simp; omega)
  obtain ⟨q,hq⟩:∃ q,at_ l i = q:=⟨_,rfl⟩
  rw [hq] at hg hcn a0 a1 b0 b1
  cases c1:zdY y t q.lo.toNat q.hi.toNat
  all_goals
   rw [c1] at hcn
   simp (maxSteps:=4000000) only [go_sem,AV.one,zae,zab,zac,zan,zaq,zaa,czb,cza,↓reduceIte,zaf,onz,hi',hg,hi,c1]
   all_goals (repeat' first | (with_reducible first | rfl | apply And.intro | assumption) | ((with_reducible show zad _ _ = true); rfl)) <;> try first | omega | (simp only [InR]; omega)
   refine nxt hi trivial ?_
   simp [AV.bare,zal,zaF,zaI,zak,zas,zai,tokz1,lk,zaa,zaZ,hcn,-List.map_take]
   all_goals (try omega)
 ·intro _
  simp (maxSteps:=4000000) only [go_sem,AV.one,zae,zab,zac,zan,zaq,zaa,czb,cza,↓reduceIte,zaf,onz,czA,czm]
  all_goals exact auz
def P206 (g:FuncId):=(zat 45 (zgE (fun (y:My) (t:List Pt) (l:List Rg) => (MOk y ∧ TOk t ∧ t.length = y.chairs.length) ∧ PrOk y.chairs.length l) (fun y t l => ((zb2 t + znI y t l:Nat):Int))) (P205):zay) g
theorem zid:zam Tryz.prog P206:=zah (zcY zrf) (P205_ok)
theorem zmf (d:Option Nat):zaw P206 d = none:=(zag (by decide) d).trans (zmg d)
attribute [go_sem] P206 zmf
def zhq (y:My) (t:List Pt) (ps:List (List Rg)):Nat:=ps.foldl (fun m l => max m (zb2 t + znI y t l)) 0
theorem Most_call (y:My) (t:List Pt) (ps:List (List Rg)) (h:(MOk y ∧ TOk t ∧ t.length = y.chairs.length) ∧ (∀ l ∈ ps,PrOk y.chairs.length l) ∧ ps.length ≤ 1048576) :
  zaH Tryz.prog 27 [Enc.enc y,Enc.enc t,Enc.enc ps] (· = Enc.enc ((zhq y t ps:Nat):Int)):=by
 obtain ⟨⟨hy,ht,hl⟩,hps,hpl⟩:=h
 have h7:=hy.len
 simp only [zbT]
 refine cpz zid Tryz.func27 zaA ?_
 rw [Tryz.ntmps27]
 simp only [Tryz.f27,zaj,zao]
 simp (maxSteps:=4000000) only [go_sem,AV.one,zae,zab,zac,zan,zaq,zaa,czb,cza,↓reduceIte,zaf,onz]
 all_goals (repeat' first | (with_reducible first | rfl | apply And.intro | assumption) | ((with_reducible show zad _ _ = true); rfl)) <;> try first | omega | (simp only [InR]; omega)
 refine zbg (ps.length) [] [1,2,3,6] (fun i => [(8,.int .i64 i),(7,.int .i64 ((zhq y t (ps.take i):Nat):Int))]) (fun _ m => m) (fun _ => True) ?_ ?_ ?_ ?_
 ·trivial
 ·simp [AV.bare,zal,zaF,zaI,zak,zas,zai,tokz1,lk,zaa,zaZ,zhq]
 ·intro i hi _
  have hi':=czH.2 hi
  have hg:=zar (f:=EncE.cs) hi
  have hp:=hps _ (zaS hi)
  have hm:zhq y t (ps.take (i + 1)) = max (zhq y t (ps.take i)) (zb2 t + znI y t (at_ ps i)):=by unfold zhq; rw [zaM hi,List.foldl_append]; rfl
  obtain ⟨l,hle⟩:∃ l,at_ ps i = l:=⟨_,rfl⟩
  rw [hle] at hg hm hp
  have hp':PrOk y.chairs.length l:=hp
  have hl7:l.length ≤ 7:=by have:=hp.1; omega
  have hmx:max ((zhq y t (ps.take i):Nat):Int) ((zb2 t + znI y t l:Nat):Int) = ((zhq y t (ps.take (i + 1)):Nat):Int):=by rw [hm]; omega
  simp (maxSteps:=4000000) only [go_sem,AV.one,zae,zab,zac,zan,zaq,zaa,czb,cza,↓reduceIte,zaf,onz,hi',hg,hi,hmx]
  all_goals (repeat' first | (with_reducible first | rfl | apply And.intro | assumption) | ((with_reducible show zad _ _ = true); rfl)) <;> try first | omega | (simp only [InR]; omega)
  refine nxt hi trivial ?_
  simp [AV.bare,zal,zaF,zaI,zak,zas,zai,tokz1,lk,zaa,zaZ,-List.map_take]
 ·intro _
  simp (maxSteps:=4000000) only [go_sem,AV.one,zae,zab,zac,zan,zaq,zaa,czb,cza,↓reduceIte,zaf,onz,czA,czm]
  all_goals exact auz
theorem pow8:∀ i:Nat,i ≤ 8 → ((0:Int) ≤ 1 * 2 ^ i ∧ (1:Int) * 2 ^ i ≤ 256):=by decide
theorem zfs (i:Nat):((1:Int) * 2 ^ i).toNat = 2 ^ i:=by
 have:(2:Int) ^ i = ((2 ^ i:Nat):Int):=by rw [Int.natCast_pow]; rfl
 rw [Int.one_mul,this,czF]
theorem zhl (i:Nat):(1:Int) * 2 ^ i = ((2 ^ i:Nat):Int):=by
 rw [Int.one_mul,Int.natCast_pow]; rfl
def zmn (l:List Rg) (m:Int):Nat → Nat
 | 0 => 0
 | i + 1 => if inB m (at_ l i).lo (at_ l i).hi = true then zmn l m i ||| 2 ^ i else zmn l m i
theorem zgO (l:List Rg) (m:Int):∀ n j,(zmn l m n).testBit j = (decide (j < n) && inB m (at_ l j).lo (at_ l j).hi)
 | 0,j => by simp [zmn]
 | n + 1,j => by
  unfold zmn
  have ih:=zgO l m n j
  split
  ·rename_i c
   rw [Nat.testBit_or,ih,Nat.testBit_two_pow]
   by_cases e:n = j
   ·subst e; simp [c]
   ·have:decide (j < n + 1) = decide (j < n):=by rw [decide_eq_decide]; omega
    rw [this]; simp [e]
  ·rename_i c
   rw [ih]
   by_cases e:n = j
   ·subst e; simp at c; simp [c]
   ·have:decide (j < n + 1) = decide (j < n):=by rw [decide_eq_decide]; omega
    rw [this]
theorem rgt_lt (l:List Rg) (m:Int) (n:Nat):zmn l m n < 2 ^ n:=Nat.lt_pow_two_of_testBit _ fun j hj => by
 rw [zgO]; simp; omega
def zdx (l:List Rg) (m:Int):Bool:=l.all fun r => inB m r.lo r.hi
theorem rgt_full (l:List Rg) (m:Int):decide (((zmn l m l.length:Nat):Int) = ((2 ^ l.length - 1:Nat):Int)) = zdx l m:=by
 have e:(((zmn l m l.length:Nat):Int) = ((2 ^ l.length - 1:Nat):Int)) ↔ zmn l m l.length = 2 ^ l.length - 1:=by omega
 rw [decide_eq_decide.2 e]
 unfold zdx
 rw [Bool.eq_iff_iff,decide_eq_true_eq,czG]
 constructor
 ·intro h r hr
  obtain ⟨i,hi,rfl⟩:=zoz hr
  have:=congrArg (fun x => x.testBit i) h
  simp only [zgO,Nat.testBit_two_pow_sub_one] at this
  simpa [hi] using this
 ·intro h
  apply Nat.eq_of_testBit_eq
  intro j
  rw [zgO,Nat.testBit_two_pow_sub_one]
  by_cases hj:j < l.length
  ·simp [hj,h _ (zaS hj)]
  ·simp [hj]
theorem zq5 (y:My) (m:Int) (h:MOk y):zaH Tryz.prog 23 [Enc.enc y,Enc.enc m] (· = Enc.enc ((zmn y.claims m y.claims.length:Nat):Int)):=by
 have h5:=h.cls
 simp only [zbT]
 refine cpz zid Tryz.func23 zaA ?_
 rw [Tryz.ntmps23]
 simp only [Tryz.f23,zaj,zao]
 simp (maxSteps:=4000000) only [go_sem,AV.one,zae,zab,zac,zan,zaq,zaa,czb,cza,↓reduceIte,zaf,onz]
 all_goals (repeat' first | (with_reducible first | rfl | apply And.intro | assumption) | ((with_reducible show zad _ _ = true); rfl)) <;> try first | omega | (simp only [InR]; omega)
 refine zbg (y.claims.length) [] [1,2,4] (fun i => [(6,.int .i64 i),(5,.int .i64 ((zmn y.claims m i:Nat):Int))]) (fun _ m => m) (fun _ => True) ?_ ?_ ?_ ?_
 ·trivial
 ·simp [AV.bare,zal,zaF,zaI,zak,zas,zai,tokz1,lk,zaa,zaZ,zmn]
 ·intro i hi _
  have hi':=czH.2 hi
  have hg:=zar (f:=EncE.cs) hi
  have hlt:=rgt_lt y.claims m i
  have hp:=pow8 i (by omega)
  have hpn:=zfs i
  have hlt2:2 ^ i ≤ 256:=by have:=zhl i; omega
  have hr:zmn y.claims m (i + 1) = if inB m (at_ y.claims i).lo (at_ y.claims i).hi = true then zmn y.claims m i ||| 2 ^ i else zmn y.claims m i:=rfl
  obtain ⟨r,hre⟩:∃ r,at_ y.claims i = r:=⟨_,rfl⟩
  rw [hre] at hg hr
  cases c1:inB m r.lo r.hi
  all_goals
   rw [c1] at hr
   simp (maxSteps:=4000000) only [go_sem,AV.one,zae,zab,zac,zan,zaq,zaa,czb,cza,↓reduceIte,zaf,onz,hi',hg,hi,c1,hpn]
   all_goals (repeat' first | (with_reducible first | rfl | apply And.intro | assumption) | ((with_reducible show zad _ _ = true); rfl)) <;> try first | omega | (simp only [InR]; omega)
   refine nxt hi trivial ?_
   simp [AV.bare,zal,zaF,zaI,zak,zas,zai,tokz1,lk,zaa,zaZ,hr]
 ·intro _
  simp (maxSteps:=4000000) only [go_sem,AV.one,zae,zab,zac,zan,zaq,zaa,czb,cza,↓reduceIte,zaf,onz,czA]
  all_goals exact auz
theorem Full_call (y:My) (h:MOk y):zaH Tryz.prog 24 [Enc.enc y] (· = Enc.enc ((2 ^ y.claims.length - 1:Nat):Int)):=by
 have h5:=h.cls
 have hp:=pow8 y.claims.length (by omega)
 have hi:=zhl y.claims.length
 have hpos:0 < 2 ^ y.claims.length:=Nat.pow_pos (by omega)
 have he:(1:Int) * 2 ^ y.claims.length - 1 = ((2 ^ y.claims.length - 1:Nat):Int):=by rw [hi]; omega
 simp only [zbT]
 refine cpz zid Tryz.func24 zaA ?_
 rw [Tryz.ntmps24]
 simp only [Tryz.f24,zaj,zao]
 simp (maxSteps:=4000000) only [go_sem,AV.one,zae,zab,zac,zan,zaq,zaa,czb,cza,↓reduceIte,zaf,onz,he]
 all_goals exact auz
theorem Many_call (y:My) (h:y.chairs.length ≤ 4096 ∧ zbY y.chairs ≤ 8):zaH Tryz.prog 26 [Enc.enc y] (· = Enc.enc ((2 ^ zbY y.chairs:Nat):Int)):=by
 obtain ⟨hl,h8⟩:=h
 have hp:=pow8 (zbY y.chairs) h8
 have hi:=zhl (zbY y.chairs)
 simp only [zbT]
 refine cpz zid Tryz.func26 zaA ?_
 rw [Tryz.ntmps26]
 simp only [Tryz.f26,zaj,zao]
 simp (maxSteps:=4000000) only [go_sem,AV.one,zae,zab,zac,zan,zaq,zaa,czb,cza,↓reduceIte,zaf,onz,hi]
 all_goals exact auz
def zkh (y:My) (t:List Pt) (i k:Nat):Bool:=(decide (k ≠ i) && zil y (i:Int) (k:Int)) && zfU (at_ t i) (at_ t k)
theorem zgJ {p:Pt} (h:PtK p):zbe p = zbL p:=by
 unfold PtK at h
 unfold zbe zbL
 rw [decide_eq_decide]
 simp only [List.cons.injEq,and_true]
 omega
theorem or01 {x y:Int} (hx:0 ≤ x ∧ x ≤ 1) (hy:0 ≤ y ∧ y ≤ 1):(orI x y = 0 ∨ orI x y = 1) ∧ (orI x y = 1 ↔ 0 < x + y):=by
 rcases (by omega:x = 0 ∨ x = 1) with rfl | rfl <;> rcases (by omega:y = 0 ∨ y = 1) with rfl | rfl <;> simp [orI]
theorem fit_eq {y:My} {t:List Pt} {i k:Nat} (h1:PtK (at_ t i)) (h2:PtK (at_ t k)):zkh y t i k = zdY y t i k:=by
 unfold zkh zdY zil zfU
 rw [czF,czF,zgJ h1,zgJ h2]
 generalize at_ t i = p at h1 h2
 generalize at_ t k = q at h1 h2
 generalize (at_ y.chairs i).size - (at_ y.chairs k).size = d
 have hw:zbe ⟨orI p.a q.a,orI p.b q.b,orI p.c q.c⟩ = ((decide (0 < p.a + q.a) && decide (0 < p.b + q.b)) && decide (0 < p.c + q.c)):=by
  obtain ⟨a1,b1,c1⟩:=h1
  obtain ⟨a2,b2,c2⟩:=h2
  have ea:=(or01 a1 a2).2
  have eb:=(or01 b1 b2).2
  have ec:=(or01 c1 c2).2
  unfold zbe
  rw [← Bool.decide_and,← Bool.decide_and,decide_eq_decide]
  simp only [List.cons.injEq,and_true]
  rw [ea,eb,ec,and_assoc]
 rw [hw]
 unfold inB
 have e1:decide (k ≠ i) = decide (i ≠ k):=by rw [decide_eq_decide]; omega
 have e2:decide (-y.fit ≤ d) = decide (-d ≤ y.fit):=by rw [decide_eq_decide]; omega
 rw [e1,e2]
 cases decide (i ≠ k) <;> cases decide (d ≤ y.fit) <;> cases decide (-d ≤ y.fit) <;> cases zbL p <;> cases zbL q <;> cases decide (0 < p.a + q.a) <;> cases decide (0 < p.b + q.b) <;> cases decide (0 < p.c + q.c) <;> rfl
theorem zgs (p:Nat → Bool) (b:Nat):∀ l:List Nat,(l.filter p).erase b = (l.erase b).filter p
 | [] => rfl
 | a :: l => by
  have ih:=zgs p b l
  by_cases e:a = b
  ·subst e
   rw [List.erase_cons_head]
   cases h:p a
   ·rw [List.filter_cons,if_neg (by simp [h]),List.erase_of_not_mem]
    intro q
    have:=(List.mem_filter.1 q).2
    rw [h] at this; cases this
   ·rw [List.filter_cons,if_pos h,List.erase_cons_head]
  ·rw [List.erase_cons_tail (by simpa using e)]
   cases h:p a
   ·rw [List.filter_cons,if_neg (by simp [h]),List.filter_cons,if_neg (by simp [h])]; exact ih
   ·rw [List.filter_cons,if_pos h,List.filter_cons,if_pos h,List.erase_cons_tail (by simpa using e),ih]
theorem zfR {f:Nat → Nat → Bool} {p:Nat → Bool} (hp:∀ a b,f a b = true → p a = true ∧ p b = true):∀ (n:Nat) (l:List Nat),l.length ≤ n → mx f n l = mx f n (l.filter p)
 | n,[],_ => rfl
 | n + 1,a :: r,h => by
  have h':r.length ≤ n:=by simpa using h
  have hl:(r.filter p).length ≤ n:=Nat.le_trans (List.length_filter_le _ _) h'
  obtain ⟨p1,p2,p3⟩:=zdn (f:=f) n a r
  have e0:=zfR hp n r h'
  cases c:p a
  ·rw [List.filter_cons,if_neg (by simp [c]),zd9 (n + 1) n _ (by omega) hl,← e0]
   rcases p3 with p3 | ⟨b,hb,hf,_⟩
   ·exact p3
   ·have:=(hp _ _ hf).1; rw [c] at this; cases this
  ·rw [List.filter_cons,if_pos c]
   obtain ⟨q1,q2,q3⟩:=zdn (f:=f) n a (r.filter p)
   have eb:∀ b ∈ r,mx f n (r.erase b) = mx f n ((r.filter p).erase b):=fun b hb => by
    rw [zgs]
    exact zfR hp n _ (by have:=zc4 hb; omega)
   apply Nat.le_antisymm
   ·rcases p3 with p3 | ⟨b,hb,hf,p3⟩
    ·rw [p3,e0]; exact q1
    ·rw [p3,eb b hb]; exact q2 b (List.mem_filter.2 ⟨hb,(hp _ _ hf).2⟩) hf
   ·rcases q3 with q3 | ⟨b,hb,hf,q3⟩
    ·rw [q3,← e0]; exact p1
    ·have hb':=(List.mem_filter.1 hb).1
     rw [q3,← eb b hb']; exact p2 b hb' hf
theorem zlb {α:Type} {g:α → Nat}:∀ (l:List α) (m:Nat),m ≤ l.foldl (fun m x => max m (g x)) m ∧ (∀ x ∈ l,g x ≤ l.foldl (fun m x => max m (g x)) m) ∧ (l.foldl (fun m x => max m (g x)) m = m ∨ ∃ x ∈ l,l.foldl (fun m x => max m (g x)) m = g x)
 | [],m => ⟨czf _,fun x hx => (by cases hx),.inl rfl⟩
 | a :: l,m => by
  rw [List.foldl_cons]
  obtain ⟨h1,h2,h3⟩:=zlb (g:=g) l (max m (g a))
  refine ⟨by omega,fun x hx => ?_,?_⟩
  ·rcases czn.1 hx with rfl | hx
   ·omega
   ·exact h2 x hx
  ·rcases h3 with h3 | ⟨x,hx,h3⟩
   ·rw [h3]
    rcases Nat.le_total m (g a) with q | q
    ·exact .inr ⟨a,by simp,by omega⟩
    ·exact .inl (by omega)
   ·exact .inr ⟨x,by simp [hx],h3⟩
def zdH (t:List Pt):List Nat:=(List.range t.length).filter fun i => !zbL (at_ t i)
def zdF (y:My) (t:List Pt):Nat:=zb2 t + mx (zdY y t) 7 (zdH t)
theorem zqC {y:My} {t:List Pt} {a b:Nat} (h:zdY y t a b = true):(!zbL (at_ t a)) = true ∧ (!zbL (at_ t b)) = true:=by
 unfold zdY at h
 simp only [czl] at h
 exact ⟨h.1.1.1.1.1.1.2,h.1.1.1.1.1.2⟩
theorem cnt_prR (y:My) (t:List Pt) (l:List (Nat × Nat)):znI y t (l.map rgQ) = zis (zdY y t) l:=by
 unfold znI zis
 rw [List.countP_map]
 congr 1
theorem most_eq {y:My} {t:List Pt} (h7:t.length ≤ 7):zhq y t (prR t.length 0 0) = zdF y t:=by
 obtain ⟨N,hN⟩:∃ N,t.length = N:=⟨_,rfl⟩
 have hr:zcu N 0 0 = List.range N:=by
  unfold zcu
  rw [List.filter_eq_self.2 (fun i _ => by simp),List.range_eq_range']
 have hlen:(List.range N).length = N:=List.length_range
 have hmx:mx (zdY y t) N (List.range N) = mx (zdY y t) 7 (zdH t):=by
  rw [zd9 N 7 _ (by omega) (by omega),zfR (p:=fun i => !zbL (at_ t i)) (fun a b h => zqC h) 7 _ (by omega)]
  unfold zdH; rw [hN]
 unfold zdF zhq
 rw [hN,zkH,hr]
 obtain ⟨g1,g2,g3⟩:=zlb (g:=fun l => zb2 t + znI y t l) ((prL (fun _ _ => true) N (List.range N)).map fun l => l.map rgQ) 0
 rw [← hmx]
 apply Nat.le_antisymm
 ·rcases g3 with g3 | ⟨l,hl,g3⟩
  ·rw [g3]; omega
  ·rw [g3]
   obtain ⟨l',hl',rfl⟩:=czx.1 hl
   rw [cnt_prR]
   have:=prL_le (f:=zdY y t) N (List.range N) (by omega) l' hl'
   omega
 ·obtain ⟨l,hl,hc⟩:=zmS (f:=zdY y t) (p:=fun _ _ => true) (fun _ _ _ => rfl) N (List.range N) (by omega)
  have:=g2 (l.map rgQ) (czx.2 ⟨l,hl,rfl⟩)
  rw [cnt_prR,hc] at this
  exact this
end Go.Proofs
