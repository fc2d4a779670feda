/- The texts YM3, YM9, Y22, Y23, Y24, R7, joined. -/
import Derived.Test.YtgfkmkkoligobaaGreatG10
import Derived.Test.YtgfkmkkoligobaaGreatG11
import Derived.Test.YtgfkmkkoligobaaGreatG15
import Derived.Test.YtgfkmkkoligobaaGreatG13
import Derived.Test.YtgfkmkkoligobaaGreatG6
import Derived.Test.YtgfkmkkoligobaaGreatRows
import Derived.OpenShut
set_option linter.all false
namespace Go.Proofs
open Go.Fs
set_option maxHeartbeats 8000000
set_option maxRecDepth 8000
def zes (s:Sh) (k:Nat) (c:Int):Sh:=⟨s.stacks.set k ⟨c,(at_ s.stacks k).leak⟩,s.hands,s.rain⟩
theorem zfA (s:Sh) (k:Nat) (c:Int):(zes s k c).stacks.length = s.stacks.length:=by simp [zes]
theorem chr_ok {s:Sh} (hs:ShOk s) {k:Nat} (hk:k < s.stacks.length) {c:Int} (h0:0 ≤ c) (h1:c ≤ 99):ShOk (zes s k c):=by
 refine ⟨by rw [zfA]; exact hs.len,hs.h0,hs.h3,hs.r,fun x hx => ?_⟩
 rcases List.mem_or_eq_of_mem_set (show x ∈ s.stacks.set k ⟨c,(at_ s.stacks k).leak⟩ from hx) with q | q
 ·exact hs.st x q
 ·rw [q]
  exact ⟨⟨h0,h1⟩,(hs.st _ (zaS hk)).2⟩
theorem zi7 (s:Sh) (k:Nat) (c:Int) {i:Nat} (hi:i < s.stacks.length):chS (zes s k c) i = (if i = k then c else chS s i) ∧ spS (zes s k c) i = spS s i:=by
 unfold chS spS zes
 rw [czF]
 simp only [zjc hi]
 split
 ·rename_i e; subst e; exact ⟨by rw [if_pos rfl],rfl⟩
 ·rename_i e; exact ⟨by rw [if_neg (fun q => e q.symm)],rfl⟩
theorem zoO {s:Sh} (hs:ShOk s) {k:Nat} (c d:Int) {A:Nat → Bool} (h:FeasS (zes s k c) A):FeasS (zes s k d) A:=fun b hb => by
 have h1:=h b hb
 have e:(zes s k d).stacks.length = (zes s k c).stacks.length:=by rw [zfA,zfA]
 rw [e]
 refine Int.le_trans (zfd fun i hi hq => ?_) h1
 rw [zfA] at hi
 simp only [czl,decide_eq_true_eq] at hq ⊢
 have e1:=(zi7 s k c hi).2
 have e2:=(zi7 s k d hi).2
 exact ⟨hq.1,by omega⟩
theorem wsum_diff {n k:Nat} {f g:Nat → Int} (A:Nat → Bool) (hk:k < n) (h:∀ i,i < n → i ≠ k → g i = f i):zig n g A = zig n f A + if A k = true then g k - f k else 0:=by
 induction n with
 | zero => omega
 | succ n ih =>
  unfold zig
  by_cases e:k = n
  ·subst e
   have e1:zig k g A = zig k f A:=ziv (fun _ _ => rfl) fun i hi _ => h i (by omega) (by omega)
   rw [e1]
   split <;> omega
  ·have:=ih (by omega) fun i hi hne => h i (by omega) hne
   rw [this,h n (by omega) (fun q => e q.symm)]
   omega
theorem zi6 (s:Sh) {k:Nat} (hk:k < s.stacks.length) (c d:Int) (A:Nat → Bool):zdf (zes s k d) A = zdf (zes s k c) A + if A k = true then d - c else 0:=by
 unfold zdf
 rw [zfA,zfA]
 have:=wsum_diff (n:=s.stacks.length) (k:=k) (f:=fun i => chS (zes s k c) i) (g:=fun i => chS (zes s k d) i) A hk (fun i hi hne => by
  try dsimp only
  rw [(zi7 s k c hi).1,(zi7 s k d hi).1,if_neg hne,if_neg hne])
 try dsimp only at this
 rw [this,(zi7 s k c hk).1,(zi7 s k d hk).1,if_pos rfl,if_pos rfl]
theorem zjZ {s:Sh} (hs:ShOk s) {k:Nat} (hk:k < s.stacks.length) {c d:Int} (h0:0 ≤ c) (h1:c ≤ d) (h2:d ≤ 99) :
  zeq (zes s k c) ≤ zeq (zes s k d) ∧ zeq (zes s k d) ≤ zeq (zes s k c) + (d - c):=by
 have hx:=chr_ok hs hk h0 (show c ≤ 99 by omega)
 have hy:=chr_ok hs hk (show 0 ≤ d by omega) h2
 obtain ⟨_,_,fx,_⟩:=zdR hx
 obtain ⟨_,_,fy,_⟩:=zdR hy
 have g1:=feas_le hy (zoO hs c d fx)
 have g2:=feas_le hx (zoO hs d c fy)
 rw [zi6 s hk c d] at g1
 have e:zdf (zes s k d) (zeb (zc0 (zes s k d))) = zdf (zes s k c) (zeb (zc0 (zes s k d))) + if zeb (zc0 (zes s k d)) k = true then d - c else 0:=zi6 s hk c d _
 have m1:zdf (zes s k c) (zeb (zc0 (zes s k c))) = zeq (zes s k c):=rfl
 have m2:zdf (zes s k d) (zeb (zc0 (zes s k d))) = zeq (zes s k d):=rfl
 rw [m1] at g1
 rw [m2] at e
 constructor
 ·split at g1 <;> omega
 ·split at e <;> omega
def zkQ (y:My):List Int:=zqe y (zmp y (2 ^ zbY y.chairs)) (2 ^ zbY y.chairs)
theorem allM_len (y:My) (k:Nat):(zmp y k).length = k:=by unfold zmp; simp
theorem allM_at (y:My) {k n:Nat} (h:n < k):at_ (zmp y k) n = ((zdF y (zf3 y n):Nat):Int):=by
 unfold zmp at_
 simp [List.getD,h]
theorem zjG (y:My) (x:Int):x ∈ zkQ y ↔ ∃ n:Nat,x = (n:Int) ∧ n < 2 ^ zbY y.chairs ∧ zdx y.claims ((zdF y (zf3 y n):Nat):Int) = true:=by
 unfold zkQ zqe
 simp only [czx,List.mem_filter,List.mem_range]
 constructor
 ·rintro ⟨n,⟨h1,h2⟩,rfl⟩
  rw [allM_at y h1] at h2
  exact ⟨n,rfl,h1,h2⟩
 ·rintro ⟨n,rfl,h1,h2⟩
  exact ⟨n,⟨h1,by rw [allM_at y h1]; exact h2⟩,rfl⟩
theorem flY_ok {y:My} (hy:MOk y):∀ p ∈ flY y,p = 0 ∨ p = 1 ∨ p = 2:=by
 intro p hp
 obtain ⟨i,hi,rfl⟩:=List.mem_iff_getElem.1 hp
 rw [zef] at hi
 have hc:i / 3 < y.chairs.length:=by omega
 have hpt:=(hy.ch _ (zaS hc)).2
 have hfa:=zfz (l:=zd7 y.chairs) (c:=i / 3) (by rw [ze4]; exact hc)
 have ham:at_ (zd7 y.chairs) (i / 3) = (at_ y.chairs (i / 3)).p:=by simp [zd7,at_,List.getD,hc]
 rw [ham] at hfa
 have e:(flY y)[i] = at_ (flY y) i:=by simp [at_,List.getD,zef,hi]
 rw [e]
 obtain ⟨⟨p1,p2⟩,⟨p3,p4⟩,p5,p6⟩:=hpt
 unfold flY
 rcases (show i = 3 * (i / 3) ∨ i = 3 * (i / 3) + 1 ∨ i = 3 * (i / 3) + 2 by omega) with q | q | q
 ·rw [q,hfa.1]; omega
 ·rw [q,hfa.2.1]; omega
 ·rw [q,hfa.2.2]; omega
theorem zoG (y:My) (n:Nat):zc2 (zf3 y n) = zrl (flY y) n:=zox (zd7 y.chairs) n
theorem unk_flY (y:My):zkm (flY y) = zbY y.chairs:=zg5 y.chairs
theorem nth_mem {y:My} (hy:MOk y) {n:Nat} (h:n < 2 ^ zbY y.chairs):zc2 (zf3 y n) ∈ zcR (flY y):=by
 rw [zjF (flY_ok hy),unk_flY]
 exact ⟨n,h,(zoG y n).symm⟩
theorem mem_nth {y:My} (hy:MOk y) {s:List Int} (h:s ∈ zcR (flY y)):∃ n,n < 2 ^ zbY y.chairs ∧ s = zc2 (zf3 y n):=by
 rw [zjF (flY_ok hy),unk_flY] at h
 obtain ⟨n,h1,h2⟩:=h
 exact ⟨n,h1,by rw [zoG,h2]⟩
theorem nth_tr {y:My} (hy:MOk y) {n:Nat} (h:n < 2 ^ zbY y.chairs):IsTr y (zf3 y n):=by
 have hm:=nth_mem hy h
 have hok:=zmK (flY_ok hy) hm
 have hl:=zd8 y n
 rw [zef] at hok
 refine ⟨hl,zho hy n,fun i hi0 => ?_⟩
 have hi:i < y.chairs.length:=by omega
 have f1:=zfz (l:=zf3 y n) (c:=i) (by omega)
 have f2:=zfz (l:=zd7 y.chairs) (c:=i) (by rw [ze4]; exact hi)
 have ham:at_ (zd7 y.chairs) i = (at_ y.chairs i).p:=by simp [zd7,at_,List.getD,hi]
 rw [ham] at f2
 have k1:=(hok (3 * i) (by omega)).2
 have k2:=(hok (3 * i + 1) (by omega)).2
 have k3:=(hok (3 * i + 2) (by omega)).2
 unfold flY at k1 k2 k3
 rw [f1.1,f2.1] at k1
 rw [f1.2.1,f2.2.1] at k2
 rw [f1.2.2,f2.2.2] at k3
 exact ⟨k1,k2,k3⟩
theorem most_le7 {y:My} {t:List Pt} (h:t.length ≤ 7):zdF y t ≤ 7:=by
 have h1:=zgW (f:=zdY y t) 7 (zdH t)
 have e:t = (List.range t.length).map (at_ t):=by
  refine List.ext_getElem (by simp) fun i h1 h2 => ?_
  simp [at_,List.getD,h1]
 have h2:zb2 t = (List.range t.length).countP (fun i => zbL (at_ t i)):=by
  unfold zb2
  conv => lhs; rw [e]
  rw [List.countP_map]; rfl
 have h3:(zdH t).length = (List.range t.length).countP (fun i => !zbL (at_ t i)):=by
  unfold zdH
  rw [List.countP_eq_length_filter]
 have h4:=List.length_eq_countP_add_countP (p:=fun i => zbL (at_ t i)) (l:=List.range t.length)
 rw [List.length_range] at h4
 have h5:(List.range t.length).countP (fun i => !zbL (at_ t i)) = (List.range t.length).countP (fun a => decide (¬ (zbL (at_ t a)) = true)):=by
  congr 1
  funext i
  cases zbL (at_ t i) <;> rfl
 unfold zdF
 omega
theorem zjD (y:My):zdB y = (zeo y).map zb3:=(zd5 y (zcR (flY y))).2.1
theorem zmL {y:My} (hy:MOk y) {c:Sc} (h:c ∈ zeo y):∃ n:Nat,n < 2 ^ zbY y.chairs ∧ c = za7 y (zf3 y n) ∧ zb3 c = ((zdF y (zf3 y n):Nat):Int) ∧ zdx y.claims ((zdF y (zf3 y n):Nat):Int) = true:=by
 obtain ⟨s,h1,h2,h3⟩:=(zd5 y (zcR (flY y))).2.2.1 c h
 obtain ⟨n,hn,rfl⟩:=mem_nth hy h1
 rw [zfp] at h2
 have hm:=ze5 hy (zho hy n) (zd8 y n)
 rw [← h2] at hm
 exact ⟨n,hn,h2,hm,by rw [← hm]; exact h3⟩
theorem in_scns {y:My} (hy:MOk y) {n:Nat} (hn:n < 2 ^ zbY y.chairs) (h:zdx y.claims ((zdF y (zf3 y n):Nat):Int) = true):za7 y (zf3 y n) ∈ zeo y:=by
 have:=(zd5 y (zcR (flY y))).2.2.2 _ (nth_mem hy hn)
 rw [zfp,ze5 hy (zho hy n) (zd8 y n)] at this
 exact this h
theorem zgM {y:My} (hy:MOk y):zeo y = [] ↔ zkQ y = []:=by
 constructor
 ·intro h
  refine List.eq_nil_iff_forall_not_mem.2 fun x hx => ?_
  obtain ⟨n,_,h1,h2⟩:=(zjG y x).1 hx
  have:=in_scns hy h1 h2
  rw [h] at this; cases this
 ·intro h
  refine List.eq_nil_iff_forall_not_mem.2 fun c hc => ?_
  obtain ⟨n,h1,_,_,h2⟩:=zmL hy hc
  have:=(zjG y n).2 ⟨n,rfl,h1,h2⟩
  rw [h] at this; cases this
theorem zqk {y:My} (hy:MOk y) (hne:zkQ y ≠ []) {n:Nat} (hn:n < 2 ^ zbY y.chairs) (ha:zdx y.claims ((zdF y (zf3 y n):Nat):Int) = true) :
  (0 ≤ (zmm (zdB y)).lo ∧ (zmm (zdB y)).hi ≤ 7) ∧ ((zmm (zdB y)).lo ≤ ((zdF y (zf3 y n):Nat):Int) ∧ ((zdF y (zf3 y n):Nat):Int) ≤ (zmm (zdB y)).hi) ∧ 0 ≤ (zf5 y (zeo y)).2 ∧ (zf5 y (zeo y)).2 ≤ (zmm (zdB y)).lo:=by
 have h7:=hy.len
 have hsn:zeo y ≠ []:=fun e => hne ((zgM hy).1 e)
 have hmn:zdB y ≠ []:=by rw [zjD]; simpa using hsn
 obtain ⟨r1,r2,r3⟩:=rng_spec hmn
 have hin:∀ m ∈ zdB y,∃ c ∈ zeo y,zb3 c = m ∧ 0 ≤ m ∧ m ≤ 7:=fun m hm => by
  rw [zjD] at hm
  obtain ⟨c,hc,rfl⟩:=czx.1 hm
  obtain ⟨k,_,_,e,_⟩:=zmL hy hc
  have:=most_le7 (y:=y) (t:=zf3 y k) (by rw [zd8]; exact h7)
  exact ⟨c,hc,rfl,by omega,by omega⟩
 have hms:((zdF y (zf3 y n):Nat):Int) ∈ zdB y:=by
  rw [zjD]
  exact czx.2 ⟨_,in_scns hy hn ha,ze5 hy (zho hy n) (zd8 y n)⟩
 obtain ⟨s1,s2⟩:=zpO hy hsn fun s hs => by
  obtain ⟨k,_,e,_⟩:=zmL hy hs
  exact ⟨zf3 y k,zd8 y k,e⟩
 obtain ⟨cl,hcl,el,l0,_⟩:=hin _ r2
 obtain ⟨_,_,_,_,u7⟩:=hin _ r3
 have:=r1 _ hms
 refine ⟨⟨l0,u7⟩,this,s1,?_⟩
 rw [← el]
 exact s2 _ hcl
def P238 (g:FuncId):=(zat 14 (zbD (fun (y:My) (t:List Pt) => (MOk y ∧ zbY y.chairs ≤ 8) ∧ IsTr y t) (fun y t => (((zdF y t:Nat):Int),(0:Int)))) (zat 16 (zbN (fun y:My => MOk y ∧ zbY y.chairs ≤ 8) surV) (P237)):zay) g
theorem P238_ok:zam Tryz.prog P238:=zah (zaK Play_call) (zah (zaN Sure_call) (zkc))
theorem zlO (d:Option Nat):zaw P238 d = none:=(zag (by decide) d).trans ((zag (by decide) d).trans (zh9 d))
attribute [go_sem] P238 zlO
def P239:zay:=zif [16,25] P238
theorem P239_app (g:FuncId) (h:¬ (g = 4000000000)):P239 g = P238 g:=by unfold P239 zif; rw [if_neg h]
theorem P239_ok:zam Tryz.prog P239:=zfo P238_ok
theorem P239_flag (d:Nat):zaw P239 (some d) = if d ∈ ([16,25]:List Nat) then some d else none:=zbK _ _ d
attribute [go_sem] P239_app P239_flag
theorem set_sk7 (l:List Sk) (i:Nat) (x:Sk):(l.map EncE.cs).set i (EncE.cs x) = (l.set i x).map EncE.cs:=by rw [List.map_set]
theorem ok_fault7 {s:Sh} (hs:ShOk s):zqV s = ⟨zhZ s,zeq s,0⟩:=by unfold zqV; rw [if_neg (by rw [ok_fault hs]; simp)]
theorem zp5 (s:Sh) (k c:Int) (h:ShOk s ∧ (0 ≤ k ∧ k < s.stacks.length) ∧ 0 ≤ c ∧ c ≤ 99):zaH Tryz.prog 17 [Enc.enc s,Enc.enc k,Enc.enc c] (· = Enc.enc (zeq (zes s k.toNat c),true)):=by
 obtain ⟨hs,⟨k0,k1⟩,c0,c1⟩:=h
 obtain ⟨i,rfl⟩:=czu k0
 have hi:i < s.stacks.length:=by omega
 have hx:=chr_ok hs hi c0 c1
 have hb:=ok_fault7 hx
 have hl:=hs.len
 have g1:=zar (f:=EncE.cs) hi
 have hxe:(⟨s.stacks.set i ⟨c,(at_ s.stacks i).leak⟩,s.hands,s.rain⟩:Sh) = zes s i c:=rfl
 obtain ⟨X,hX⟩:∃ X,s.stacks.set i ⟨c,(at_ s.stacks i).leak⟩ = X:=⟨_,rfl⟩
 have hXl:X.length = s.stacks.length:=by rw [← hX,czt]
 obtain ⟨S,hS⟩:∃ S,zes s i c = S:=⟨_,rfl⟩
 rw [hX,hS] at hxe
 have hset:(s.stacks.map EncE.cs).set i [AV.int .i64 c,.int .i64 (at_ s.stacks i).leak.lo,.int .i64 (at_ s.stacks i).leak.hi] = X.map EncE.cs:=by rw [← hX]; exact set_sk7 s.stacks i ⟨c,(at_ s.stacks i).leak⟩
 rw [hS] at hb hx
 have hSl:S.stacks.length = s.stacks.length:=by rw [← hS]; exact zfA _ _ _
 have htk:List.take s.stacks.length (X.map EncE.cs) = X.map EncE.cs:=cze (by rw [czz,hXl]; exact czf _)
 have hone:∀ x ∈ s.stacks.map EncE.cs,∀ c ∈ x,AV.one c = true:=fun x hx c hc => by
  obtain ⟨a,_,rfl⟩:=czx.1 hx
  simp only [EncE.cs,czn,czk,or_false] at hc
  rcases hc with rfl | rfl | rfl <;> rfl
 have hln:∀ x ∈ s.stacks.map EncE.cs,x.length = 3:=fun x hx => by
  obtain ⟨a,_,rfl⟩:=czx.1 hx
  rfl
 rw [czF,hS]
 have hi':=czH.2 hi
 simp only [zbT]
 refine cpz P239_ok Tryz.func17 zaA ?_
 rw [Tryz.ntmps17]
 simp only [Tryz.f17,zaj,zao]
 refine vc_Q fun Q0 hQ0 => ?_
 iterate 2 (
  refine zaz fun Q1 h1 => ?_
  simp (maxSteps:=4000000) only [go_sem,zae,zab,zac,zan,zaq,zaa,czb,cza,↓reduceIte,zaf,onz]
  all_goals (repeat' first | (with_reducible first | rfl | apply And.intro | assumption) | ((with_reducible show zad _ _ = true); rfl)) <;> try first | omega | (simp only [InR]; omega)
  rw [h1]; clear h1 Q1; simp only [zaO,zav])
 refine zaz fun Q1 h1 => ?_
 simp (maxSteps:=4000000) only [go_sem,zae,zab,zac,zan,zaq,zaa,czb,cza,↓reduceIte,zaf,onz,hone,hln]
 all_goals (repeat' first | (with_reducible first | rfl | apply And.intro | assumption) | ((with_reducible show zad _ _ = true); rfl)) <;> try first | omega | (simp only [InR]; omega)
 rw [h1]; clear h1 Q1; simp only [zaO,zav]
 refine zaz fun Q1 h1 => ?_
 simp (maxSteps:=4000000) only [go_sem,zae,zab,zac,zan,zaq,zaa,czb,cza,↓reduceIte,zaf,onz,g1,hi,hi',hset,czz]
 all_goals (repeat' first | (with_reducible first | rfl | apply And.intro | assumption) | ((with_reducible show zad _ _ = true); rfl)) <;> try first | omega | (simp only [InR]; omega)
 rw [h1]; clear h1 Q1; simp only [zaO,zav]
 refine zaz fun Q1 h1 => ?_
 simp (maxSteps:=4000000) only [go_sem,zae,zab,zac,zan,zaq,zaa,czb,cza,↓reduceIte,zaf,onz,htk,hxe,hb,hXl,hSl]
 all_goals (repeat' first | (with_reducible first | rfl | apply And.intro | assumption) | ((with_reducible show zad _ _ = true); rfl)) <;> try first | omega | (simp only [InR]; omega)
 rw [h1]; clear h1 Q1; simp only [zaO,zav]
 simp (maxSteps:=4000000) only [go_sem,zae,zab,zac,zan,zaq,zaa,czb,cza,↓reduceIte,zaf,onz,hQ0]
 all_goals exact auz
def P240 (g:FuncId):=(zat 17 (zgE (fun (s:Sh) (k c:Int) => ShOk s ∧ (0 ≤ k ∧ k < s.stacks.length) ∧ 0 ≤ c ∧ c ≤ 99) (fun s k c => (zeq (zes s k.toNat c),true))) (P238):zay) g
theorem P240_ok:zam Tryz.prog P240:=zah (zcY zp5) (P238_ok)
theorem zlN (d:Option Nat):zaw P240 d = none:=(zag (by decide) d).trans (zlO d)
attribute [go_sem] P240 zlN
def yardE:My:=⟨[⟨0,⟨1,0,0⟩⟩,⟨0,⟨0,1,1⟩⟩],0,[]⟩
def zko:List Pt:=[⟨1,0,0⟩,⟨0,1,1⟩]
theorem exE_ok:MOk yardE ∧ zbY yardE.chairs ≤ 8:=zld (by decide +kernel)
theorem exE_tr:IsTr yardE zko:=by
 refine ⟨rfl,?_,?_⟩
 ·intro p hp
  simp only [zko,czn,czk,or_false] at hp
  rcases hp with rfl | rfl <;> (unfold PtK; decide)
 ·intro i hi
  have:i = 0 ∨ i = 1:=by simp [zko] at hi; omega
  rcases this with rfl | rfl <;> exact ⟨fun _ => rfl,fun _ => rfl,fun _ => rfl⟩
theorem exE_1:((zdF yardE zko:Nat):Int) = 1:=by decide +kernel
theorem exE_2:zqV (⟨[⟨1,⟨1,1⟩⟩],1,⟨0,0⟩⟩:Sh) = ⟨[0],1,0⟩:=by decide +kernel
theorem zkr:zaH Tryz.prog 8 [] (· = Enc.enc true):=by
 have e1:=exE_1
 have e2:=exE_2
 obtain ⟨k1,k2⟩:=exE_ok
 have k3:=exE_tr
 have hy:(⟨[⟨0,⟨1,0,0⟩⟩,⟨0,⟨0,1,1⟩⟩],0,[]⟩:My) = yardE:=rfl
 have ht:([⟨1,0,0⟩,⟨0,1,1⟩]:List Pt) = zko:=rfl
 simp only [zbT]
 refine cpz P240_ok Tryz.func8 zaA ?_
 rw [Tryz.ntmps8]
 simp only [Tryz.f8,zaj,zao]
 iterate 2 (
  refine zaz fun Q1 h1 => ?_
  simp (maxSteps:=4000000) only [go_sem,AV.one,zae,zab,zac,zan,zaq,zaa,czb,cza,↓reduceIte,zaf,onz]
  all_goals (repeat' first | (with_reducible first | rfl | apply And.intro | assumption) | ((with_reducible show zad _ _ = true); rfl)) <;> try first | omega | (simp only [InR]; omega)
  rw [h1]; clear h1 Q1; simp only [zaO,zav])
 refine zaz fun Q1 h1 => ?_
 simp (maxSteps:=4000000) only [go_sem,AV.one,zae,zab,zac,zan,zaq,zaa,czb,cza,↓reduceIte,zaf,onz,hy,ht,e1]
 all_goals (repeat' first | (with_reducible first | rfl | apply And.intro | assumption) | ((with_reducible show zad _ _ = true); rfl)) <;> try first | omega | (simp only [InR]; omega)
 rw [h1]; clear h1 Q1; simp only [zaO,zav]
 refine zaz fun Q1 h1 => ?_
 simp (maxSteps:=4000000) only [go_sem,AV.one,zae,zab,zac,zan,zaq,zaa,czb,cza,↓reduceIte,zaf,onz,e2]
 all_goals (repeat' first | (with_reducible first | rfl | apply And.intro | assumption) | ((with_reducible show zad _ _ = true); rfl)) <;> try first | omega | (simp only [InR]; omega)
 rw [h1]; clear h1 Q1; simp only [zaO,zav]
 simp (maxSteps:=4000000) only [go_sem,AV.one,zae,zab,zac,zan,zaq,zaa,czb,cza,↓reduceIte,zaf,onz]
 all_goals exact auz
def P241 (g:FuncId):=(zat 8 (spec0 true) (P240):zay) g
theorem zfB:zam Tryz.prog P241:=zah (spec0_ok zkr) (P240_ok)
theorem P241_flag (d:Option Nat):zaw P241 d = none:=(zag (by decide) d).trans (zlN d)
attribute [go_sem] P241 P241_flag
theorem thinM_len {y:My} (h:zpL y = true):y.chairs.length ≤ 9 ∧ y.claims.length ≤ 7:=by
 unfold zpL at h
 rw [czl,czl] at h
 exact ⟨of_decide_eq_true h.1.1,of_decide_eq_true h.1.2⟩
theorem thinB_len {s:Sh} (h:zpM s = true):s.stacks.length ≤ 10:=by unfold zpM at h; simpa using h
theorem zit (y:My) (s:Sh) (which at':Int) (r1:InR .u16 which) (r2:InR .u8 at'):zaH Tryz.prog 3 [Enc.enc y,Enc.enc s,AV.int .u16 which,AV.int .u8 at'] (· = Enc.enc true):=by
 have r10:0 ≤ which:=r1.1
 have r11:which ≤ 65535:=r1.2
 have r20:0 ≤ at':=r2.1
 have r21:at' ≤ 255:=r2.2
 clear r1 r2
 cases c1:zpL y
 ·simp only [zbT]
  refine cpz zfB Tryz.func3 zaA ?_
  rw [Tryz.ntmps3]
  simp only [Tryz.f3,zaj,zao]
  iterate 2 (
   refine zaz fun Q1 h1 => ?_
   simp (maxSteps:=4000000) only [go_sem,AV.one,zae,zab,zac,zan,zaq,zaa,czb,cza,↓reduceIte,zaf,onz,c1]
   all_goals (repeat' first | (with_reducible first | rfl | apply And.intro | assumption) | ((with_reducible show zad _ _ = true); rfl)) <;> try first | omega | (simp only [InR]; omega)
   rw [h1]; clear h1 Q1; simp only [zaO,zav])
  simp (maxSteps:=4000000) only [go_sem,AV.one,zae,zab,zac,zan,zaq,zaa,czb,cza,↓reduceIte,zaf,onz]
  all_goals exact auz
 obtain ⟨hl9,hl7⟩:=thinM_len c1
 cases c2:decide (zdu y = 0)
 ·simp only [zbT]
  refine cpz zfB Tryz.func3 zaA ?_
  rw [Tryz.ntmps3]
  simp only [Tryz.f3,zaj,zao]
  iterate 2 (
   refine zaz fun Q1 h1 => ?_
   simp (maxSteps:=4000000) only [go_sem,AV.one,zae,zab,zac,zan,zaq,zaa,czb,cza,↓reduceIte,zaf,onz,c1,c2]
   all_goals (repeat' first | (with_reducible first | rfl | apply And.intro | assumption) | ((with_reducible show zad _ _ = true); rfl)) <;> try first | omega | (simp only [InR]; omega)
   rw [h1]; clear h1 Q1; simp only [zaO,zav])
  simp (maxSteps:=4000000) only [go_sem,AV.one,zae,zab,zac,zan,zaq,zaa,czb,cza,↓reduceIte,zaf,onz]
  all_goals exact auz
 cases c3:zpM s
 ·simp only [zbT]
  refine cpz zfB Tryz.func3 zaA ?_
  rw [Tryz.ntmps3]
  simp only [Tryz.f3,zaj,zao]
  iterate 2 (
   refine zaz fun Q1 h1 => ?_
   simp (maxSteps:=4000000) only [go_sem,AV.one,zae,zab,zac,zan,zaq,zaa,czb,cza,↓reduceIte,zaf,onz,c1,c2,c3]
   all_goals (repeat' first | (with_reducible first | rfl | apply And.intro | assumption) | ((with_reducible show zad _ _ = true); rfl)) <;> try first | omega | (simp only [InR]; omega)
   rw [h1]; clear h1 Q1; simp only [zaO,zav])
  simp (maxSteps:=4000000) only [go_sem,AV.one,zae,zab,zac,zan,zaq,zaa,czb,cza,↓reduceIte,zaf,onz]
  all_goals exact auz
 have hl10:=thinB_len c3
 cases c4:decide (zdt s = 0)
 ·simp only [zbT]
  refine cpz zfB Tryz.func3 zaA ?_
  rw [Tryz.ntmps3]
  simp only [Tryz.f3,zaj,zao]
  iterate 2 (
   refine zaz fun Q1 h1 => ?_
   simp (maxSteps:=4000000) only [go_sem,AV.one,zae,zab,zac,zan,zaq,zaa,czb,cza,↓reduceIte,zaf,onz,c1,c2,c3,c4]
   all_goals (repeat' first | (with_reducible first | rfl | apply And.intro | assumption) | ((with_reducible show zad _ _ = true); rfl)) <;> try first | omega | (simp only [InR]; omega)
   rw [h1]; clear h1 Q1; simp only [zaO,zav])
  simp (maxSteps:=4000000) only [go_sem,AV.one,zae,zab,zac,zan,zaq,zaa,czb,cza,↓reduceIte,zaf,onz]
  all_goals exact auz
 cases c5:decide ((s.stacks.length:Int) = 0)
 case true =>
  simp only [zbT]
  refine cpz zfB Tryz.func3 zaA ?_
  rw [Tryz.ntmps3]
  simp only [Tryz.f3,zaj,zao]
  iterate 2 (
   refine zaz fun Q1 h1 => ?_
   simp (maxSteps:=4000000) only [go_sem,AV.one,zae,zab,zac,zan,zaq,zaa,czb,cza,↓reduceIte,zaf,onz,c1,c2,c3,c4,c5]
   all_goals (repeat' first | (with_reducible first | rfl | apply And.intro | assumption) | ((with_reducible show zad _ _ = true); rfl)) <;> try first | omega | (simp only [InR]; omega)
   rw [h1]; clear h1 Q1; simp only [zaO,zav])
  simp (maxSteps:=4000000) only [go_sem,AV.one,zae,zab,zac,zan,zaq,zaa,czb,cza,↓reduceIte,zaf,onz]
  all_goals exact auz
 obtain ⟨hy,h8⟩:=zld (of_decide_eq_true c2)
 have hs:=zoH (of_decide_eq_true c4)
 have hs0:0 < s.stacks.length:=by have:=of_decide_eq_false c5; omega
 have hK:=zmT _ h8
 have hal:=allM_len y (2 ^ zbY y.chairs)
 have hnb:zqe y (zmp y (2 ^ zbY y.chairs)) (2 ^ zbY y.chairs) = zkQ y:=rfl
 have hnl:(zkQ y).length ≤ 2 ^ zbY y.chairs:=zow y _ _
 by_cases hne:zkQ y = []
 ·have hb:znS y = (⟨0,0⟩,11):=by unfold znS; rw [(zgM hy).2 hne]; rfl
  rw [hne] at hnb
  simp only [zbT]
  refine cpz zfB Tryz.func3 zaA ?_
  rw [Tryz.ntmps3]
  simp only [Tryz.f3,zaj,zao]
  iterate 3 (
   refine zaz fun Q1 h1 => ?_
   simp (maxSteps:=4000000) only [go_sem,AV.one,zae,zab,zac,zan,zaq,zaa,czb,cza,↓reduceIte,zaf,onz,c1,c2,c3,c4,c5]
   all_goals (repeat' first | (with_reducible first | rfl | apply And.intro | assumption) | ((with_reducible show zad _ _ = true); rfl)) <;> try first | omega | (simp only [InR]; omega)
   rw [h1]; clear h1 Q1; simp only [zaO,zav])
  refine zaz fun Q1 h1 => ?_
  simp (maxSteps:=4000000) only [go_sem,AV.one,zae,zab,zac,zan,zaq,zaa,czb,cza,↓reduceIte,zaf,onz,hal,hnb]
  all_goals (repeat' first | (with_reducible first | rfl | apply And.intro | assumption) | ((with_reducible show zad _ _ = true); rfl)) <;> try first | omega | (simp only [InR]; omega)
  rw [h1]; clear h1 Q1; simp only [zaO,zav]
  refine zaz fun Q1 h1 => ?_
  simp (maxSteps:=4000000) only [go_sem,AV.one,zae,zab,zac,zan,zaq,zaa,czb,cza,↓reduceIte,zaf,onz,hb]
  all_goals (repeat' first | (with_reducible first | rfl | apply And.intro | assumption) | ((with_reducible show zad _ _ = true); rfl)) <;> try first | omega | (simp only [InR]; omega)
  rw [h1]; clear h1 Q1; simp only [zaO,zav]
  simp (maxSteps:=4000000) only [go_sem,AV.one,zae,zab,zac,zan,zaq,zaa,czb,cza,↓reduceIte,zaf,onz]
  all_goals exact auz
 obtain ⟨L,hL⟩:∃ L,zkQ y = L:=⟨_,rfl⟩
 have hL0:0 < L.length:=by rw [← hL]; exact List.length_pos_iff.2 hne
 have q1:=Int.emod_nonneg which (show (L.length:Int) ≠ 0 by omega)
 have q2:=Int.emod_lt_of_pos which (show 0 < (L.length:Int) by omega)
 obtain ⟨i,ei⟩:=czu q1
 rw [ei] at q2
 have hi:i < L.length:=by omega
 have hi':=czH.2 hi
 obtain ⟨n,en,hnK,hna⟩:=(zjG y (at_ L i)).1 (by rw [hL]; exact zaS hi)
 have hg:=zar (f:=EncE.cs) hi
 rw [en] at hg
 obtain ⟨⟨f1,f2⟩,⟨f3,f4⟩,f5,f6⟩:=zqk hy hne hnK hna
 have htr:=nth_tr hy hnK
 have hb:znS y = (zmm (zdB y),0):=by
  unfold znS
  rw [if_neg (fun e => hne ((zgM hy).1 (List.length_eq_zero_iff.1 e)))]
 have hv:surV y = ⟨(zf5 y (zeo y)).1,(zf5 y (zeo y)).2,0⟩:=by
  unfold surV
  rw [if_neg (fun e => hne ((zgM hy).1 (List.length_eq_zero_iff.1 e)))]
 have p1:=Int.emod_nonneg at' (show (s.stacks.length:Int) ≠ 0 by omega)
 have p2:=Int.emod_lt_of_pos at' (show 0 < (s.stacks.length:Int) by omega)
 obtain ⟨j,ej⟩:=czu p1
 rw [ej] at p2
 have hj:j < s.stacks.length:=by omega
 rw [hL] at hnb hnl
 obtain ⟨R,hR⟩:∃ R,zmm (zdB y) = R:=⟨_,rfl⟩
 obtain ⟨N,hN⟩:∃ N:Int,((zdF y (zf3 y n):Nat):Int) = N:=⟨_,rfl⟩
 obtain ⟨m,hm⟩:∃ m,(zf5 y (zeo y)).2 = m:=⟨_,rfl⟩
 obtain ⟨ps,hps⟩:∃ ps,(zf5 y (zeo y)).1 = ps:=⟨_,rfl⟩
 rw [hR] at hb f1 f2 f3 f4 f6
 rw [hN] at f3 f4
 rw [hm] at f5 f6 hv
 rw [hps] at hv
 obtain ⟨g1,g1'⟩:=zjZ hs hj f5 f6 (show R.lo ≤ 99 by omega)
 obtain ⟨g2,g2'⟩:=zjZ hs hj f1 f3 (show N ≤ 99 by omega)
 obtain ⟨g3,g3'⟩:=zjZ hs hj (show 0 ≤ N by omega) f4 (show R.hi ≤ 99 by omega)
 have hnt:zjB (zd7 y.chairs) (n:Int) = zf3 y n:=rfl
 obtain ⟨T,hT⟩:∃ T,zf3 y n = T:=⟨_,rfl⟩
 rw [hT] at hN hnt htr
 have hTl:T.length ≤ 9:=by rw [htr.len]; exact hl9
 obtain ⟨A,hA⟩:∃ A,zeq (zes s j R.lo) = A:=⟨_,rfl⟩
 obtain ⟨B,hB⟩:∃ B,zeq (zes s j N) = B:=⟨_,rfl⟩
 obtain ⟨C,hC⟩:∃ C,zeq (zes s j R.hi) = C:=⟨_,rfl⟩
 obtain ⟨D,hD⟩:∃ D,zeq (zes s j m) = D:=⟨_,rfl⟩
 rw [hD,hA] at g1 g1'
 rw [hA,hB] at g2 g2'
 rw [hB,hC] at g3 g3'
 have hLne:decide ((L.length:Int) = 0) = false:=by rw [decide_eq_false_iff_not]; omega
 have fa1:decide (R.lo < 0) = false:=by rw [decide_eq_false_iff_not]; omega
 have fa2:decide (7 < R.hi) = false:=by rw [decide_eq_false_iff_not]; omega
 have fa3:decide (N < R.lo) = false:=by rw [decide_eq_false_iff_not]; omega
 have fa4:decide (R.hi < N) = false:=by rw [decide_eq_false_iff_not]; omega
 have fa5:decide (m < 0) = false:=by rw [decide_eq_false_iff_not]; omega
 have fa6:decide (R.lo < m) = false:=by rw [decide_eq_false_iff_not]; omega
 have fb1:decide (D ≤ A) = true:=by rw [decide_eq_true_eq]; omega
 have fb2:decide (A ≤ B) = true:=by rw [decide_eq_true_eq]; omega
 have fb3:decide (B ≤ C) = true:=by rw [decide_eq_true_eq]; omega
 have fb4:decide (C - A ≤ R.hi - R.lo) = true:=by rw [decide_eq_true_eq]; omega
 have fb5:decide (B - D ≤ N - m) = true:=by rw [decide_eq_true_eq]; omega
 simp only [zbT]
 refine cpz zfB Tryz.func3 zaA ?_
 rw [Tryz.ntmps3]
 simp only [Tryz.f3,zaj,zao]
 refine vc_Q fun Q0 hQ0 => ?_
 iterate 3 (
  refine zaz fun Q1 h1 => ?_
  simp (maxSteps:=4000000) only [go_sem,AV.one,zae,zab,zac,zan,zaq,zaa,czb,cza,↓reduceIte,zaf,onz,c1,c2,c3,c4,c5]
  all_goals (repeat' first | (with_reducible first | rfl | apply And.intro | assumption) | ((with_reducible show zad _ _ = true); rfl)) <;> try first | omega | (simp only [InR]; omega)
  rw [h1]; clear h1 Q1; simp only [zaO,zav])
 refine zaz fun Q1 h1 => ?_
 simp (maxSteps:=4000000) only [go_sem,AV.one,zae,zab,zac,zan,zaq,zaa,czb,cza,↓reduceIte,zaf,onz,hal,hnb]
 all_goals (repeat' first | (with_reducible first | rfl | apply And.intro | assumption) | ((with_reducible show zad _ _ = true); rfl)) <;> try first | omega | (simp only [InR]; omega)
 rw [h1]; clear h1 Q1; simp only [zaO,zav]
 iterate 2 (
  refine zaz fun Q1 h1 => ?_
  simp (maxSteps:=4000000) only [go_sem,AV.one,zae,zab,zac,zan,zaq,zaa,czb,cza,↓reduceIte,zaf,onz,hb]
  all_goals (repeat' first | (with_reducible first | rfl | apply And.intro | assumption) | ((with_reducible show zad _ _ = true); rfl)) <;> try first | omega | (simp only [InR]; omega)
  rw [h1]; clear h1 Q1; simp only [zaO,zav])
 iterate 3 (
  refine zaz fun Q1 h1 => ?_
  simp (maxSteps:=4000000) only [go_sem,AV.one,zae,zab,zac,zan,zaq,zaa,czb,cza,↓reduceIte,zaf,onz,hLne]
  all_goals (repeat' first | (with_reducible first | rfl | apply And.intro | assumption) | ((with_reducible show zad _ _ = true); rfl)) <;> try first | omega | (simp only [InR]; omega)
  rw [h1]; clear h1 Q1; simp only [zaO,zav])
 refine zaz fun Q1 h1 => ?_
 simp (maxSteps:=4000000) only [go_sem,AV.one,zae,zab,zac,zan,zaq,zaa,czb,cza,↓reduceIte,zaf,onz,ei,hi,hi',hg,hnt]
 all_goals (repeat' first | (with_reducible first | rfl | apply And.intro | assumption) | ((with_reducible show zad _ _ = true); rfl)) <;> try first | omega | (simp only [InR]; omega)
 rw [h1]; clear h1 Q1; simp only [zaO,zav]
 refine zaz fun Q1 h1 => ?_
 simp (maxSteps:=4000000) only [go_sem,AV.one,zae,zab,zac,zan,zaq,zaa,czb,cza,↓reduceIte,zaf,onz,hN]
 all_goals (repeat' first | (with_reducible first | rfl | apply And.intro | assumption) | ((with_reducible show zad _ _ = true); rfl)) <;> try first | omega | (simp only [InR]; omega)
 rw [h1]; clear h1 Q1; simp only [zaO,zav]
 refine zaz fun Q1 h1 => ?_
 simp (maxSteps:=4000000) only [go_sem,AV.one,zae,zab,zac,zan,zaq,zaa,czb,cza,↓reduceIte,zaf,onz,hv]
 all_goals (repeat' first | (with_reducible first | rfl | apply And.intro | assumption) | ((with_reducible show zad _ _ = true); rfl)) <;> try first | omega | (simp only [InR]; omega)
 rw [h1]; clear h1 Q1; simp only [zaO,zav]
 refine zaz fun Q1 h1' => ?_
 rw [zg3]
 refine zoe fun ds hds => ?_
 refine zby [3,5,10,13,14,16,17] fun tm' h => ?_
 simp (maxSteps:=4000000) only [lk,czn,czk,or_false,forall_eq_or_imp,forall_eq,Nat.reduceEqDiff,if_true,if_false,↓reduceIte] at h
 obtain ⟨l3,l5,l10,l13,l14,l16,l17⟩:=h
 have d2:ds.getD 2 none = some 104:=by rw [hds]; rfl
 have d6:ds.getD 6 none = some 108:=by rw [hds]; rfl
 have d11:ds.getD 11 none = some 113:=by rw [hds]; rfl
 have d16:ds.getD 16 none = some 118:=by rw [hds]; rfl
 have d22:ds.getD 22 none = some 124:=by rw [hds]; rfl
 have d28:ds.getD 28 none = some 130:=by rw [hds]; rfl
 have d32:ds.getD 32 none = some 134:=by rw [hds]; rfl
 clear hds
 refine zbH 7 fun K' hK => ?_
 simp (maxSteps:=4000000) only [go_sem,AV.one,zae,zab,zac,zan,zaq,zaa,czb,cza,↓reduceIte,zaf,onz,Int.cast_ofNat_Int,List.append_eq,fa1,fa2,fa3,fa4,fa5,fa6,l3,l5,l10,l13,l14,l16,l17,d2]
 all_goals (repeat' first | (with_reducible first | rfl | apply And.intro | assumption) | ((with_reducible show zad _ _ = true); rfl)) <;> try first | omega | (simp only [InR]; omega)
 rw [hK]
 clear hK K'
 refine zby [3,5,10,13,16,108] fun tm' h => ?_
 simp (maxSteps:=4000000) only [lk,czn,czk,or_false,forall_eq_or_imp,forall_eq,Nat.reduceEqDiff,if_true,if_false,↓reduceIte,l3,l5,l10,l13,l14,l16,l17,d2] at h
 clear l3 l5 l10 l13 l14 l16 l17
 obtain ⟨l3,l5,l10,l13,l16,l108⟩:=h
 refine zbH 10 fun K' hK => ?_
 simp (maxSteps:=4000000) only [go_sem,AV.one,zae,zab,zac,zan,zaq,zaa,czb,cza,↓reduceIte,zaf,onz,Int.cast_ofNat_Int,List.append_eq,fa1,fa2,fa3,fa4,fa5,fa6,l3,l5,l10,l13,l16,l108,d6,d11]
 all_goals (repeat' first | (with_reducible first | rfl | apply And.intro | assumption) | ((with_reducible show zad _ _ = true); rfl)) <;> try first | omega | (simp only [InR]; omega)
 rw [hK]
 clear hK K'
 refine zby [3,5,10,13,16,118] fun tm' h => ?_
 simp (maxSteps:=4000000) only [lk,czn,czk,or_false,forall_eq_or_imp,forall_eq,Nat.reduceEqDiff,if_true,if_false,↓reduceIte,l3,l5,l10,l13,l16,l108,d6,d11] at h
 clear l3 l5 l10 l13 l16 l108
 obtain ⟨l3,l5,l10,l13,l16,l118⟩:=h
 refine zbH 6 fun K' hK => ?_
 simp (maxSteps:=4000000) only [go_sem,AV.one,zae,zab,zac,zan,zaq,zaa,czb,cza,↓reduceIte,zaf,onz,Int.cast_ofNat_Int,List.append_eq,fa1,fa2,fa3,fa4,fa5,fa6,l3,l5,l10,l13,l16,l118,d16]
 all_goals (repeat' first | (with_reducible first | rfl | apply And.intro | assumption) | ((with_reducible show zad _ _ = true); rfl)) <;> try first | omega | (simp only [InR]; omega)
 rw [hK]
 clear hK K'
 refine zby [3,5,10,13,16,124] fun tm' h => ?_
 simp (maxSteps:=4000000) only [lk,czn,czk,or_false,forall_eq_or_imp,forall_eq,Nat.reduceEqDiff,if_true,if_false,↓reduceIte,l3,l5,l10,l13,l16,l118,d16] at h
 clear l3 l5 l10 l13 l16 l118
 obtain ⟨l3,l5,l10,l13,l16,l124⟩:=h
 refine zbH 10 fun K' hK => ?_
 simp (maxSteps:=4000000) only [go_sem,AV.one,zae,zab,zac,zan,zaq,zaa,czb,cza,↓reduceIte,zaf,onz,Int.cast_ofNat_Int,List.append_eq,fa1,fa2,fa3,fa4,fa5,fa6,l3,l5,l10,l13,l16,l124,d22,d28]
 all_goals (repeat' first | (with_reducible first | rfl | apply And.intro | assumption) | ((with_reducible show zad _ _ = true); rfl)) <;> try first | omega | (simp only [InR]; omega)
 rw [hK]
 clear hK K'
 refine zby [3,5,10,13,16,134] fun tm' h => ?_
 simp (maxSteps:=4000000) only [lk,czn,czk,or_false,forall_eq_or_imp,forall_eq,Nat.reduceEqDiff,if_true,if_false,↓reduceIte,l3,l5,l10,l13,l16,l124,d22,d28] at h
 clear l3 l5 l10 l13 l16 l124
 obtain ⟨l3,l5,l10,l13,l16,l134⟩:=h
 simp (maxSteps:=4000000) only [go_sem,AV.one,zae,zab,zac,zan,zaq,zaa,czb,cza,↓reduceIte,zaf,onz,Int.cast_ofNat_Int,List.append_eq,fa1,fa2,fa3,fa4,fa5,fa6,l3,l5,l10,l13,l16,l134,d32]
 all_goals (repeat' first | (with_reducible first | rfl | apply And.intro | assumption) | ((with_reducible show zad _ _ = true); rfl)) <;> try first | omega | (simp only [InR]; omega)
 all_goals (repeat' first | (with_reducible first | rfl | apply And.intro | assumption) | ((with_reducible show zad _ _ = true); rfl)) <;> try first | omega | (simp only [InR]; omega)
 rw [h1']; clear h1' Q1; simp only [zaO,zav]
 refine zaz fun Q1 h1 => ?_
 simp (maxSteps:=4000000) only [go_sem,AV.one,zae,zab,zac,zan,zaq,zaa,czb,cza,↓reduceIte,zaf,onz,l3,l5,l10,l13,l16,fa1,fa2,fa3,fa4,fa5,fa6,Bool.or_false,Bool.or_self]
 all_goals (repeat' first | (with_reducible first | rfl | apply And.intro | assumption) | ((with_reducible show zad _ _ = true); rfl)) <;> try first | omega | (simp only [InR]; omega)
 rw [h1]; clear h1 Q1; simp only [zaO,zav]
 refine zaz fun Q1 h1 => ?_
 simp (maxSteps:=4000000) only [go_sem,AV.one,zae,zab,zac,zan,zaq,zaa,czb,cza,↓reduceIte,zaf,onz,l3,l5,l10,l13,l16,ej]
 all_goals (repeat' first | (with_reducible first | rfl | apply And.intro | assumption) | ((with_reducible show zad _ _ = true); rfl)) <;> try first | omega | (simp only [InR]; omega)
 rw [h1]; clear h1 Q1; simp only [zaO,zav]
 refine zaz fun Q1 h1 => ?_
 simp (maxSteps:=4000000) only [go_sem,AV.one,zae,zab,zac,zan,zaq,zaa,czb,cza,↓reduceIte,zaf,onz,l3,l5,l10,l13,l16,czF,hA]
 all_goals (repeat' first | (with_reducible first | rfl | apply And.intro | assumption) | ((with_reducible show zad _ _ = true); rfl)) <;> try first | omega | (simp only [InR]; omega)
 rw [h1]; clear h1 Q1; simp only [zaO,zav]
 refine zaz fun Q1 h1 => ?_
 simp (maxSteps:=4000000) only [go_sem,AV.one,zae,zab,zac,zan,zaq,zaa,czb,cza,↓reduceIte,zaf,onz,l3,l5,l10,l13,l16,czF,hB]
 all_goals (repeat' first | (with_reducible first | rfl | apply And.intro | assumption) | ((with_reducible show zad _ _ = true); rfl)) <;> try first | omega | (simp only [InR]; omega)
 rw [h1]; clear h1 Q1; simp only [zaO,zav]
 refine zaz fun Q1 h1 => ?_
 simp (maxSteps:=4000000) only [go_sem,AV.one,zae,zab,zac,zan,zaq,zaa,czb,cza,↓reduceIte,zaf,onz,l3,l5,l10,l13,l16,czF,hC]
 all_goals (repeat' first | (with_reducible first | rfl | apply And.intro | assumption) | ((with_reducible show zad _ _ = true); rfl)) <;> try first | omega | (simp only [InR]; omega)
 rw [h1]; clear h1 Q1; simp only [zaO,zav]
 refine zaz fun Q1 h1 => ?_
 simp (maxSteps:=4000000) only [go_sem,AV.one,zae,zab,zac,zan,zaq,zaa,czb,cza,↓reduceIte,zaf,onz,l3,l5,l10,l13,l16,czF,hD]
 all_goals (repeat' first | (with_reducible first | rfl | apply And.intro | assumption) | ((with_reducible show zad _ _ = true); rfl)) <;> try first | omega | (simp only [InR]; omega)
 rw [h1]; clear h1 Q1; simp only [zaO,zav]
 have o10:=l10
 have o13:=l13
 have o16:=l16
 refine zaz fun Q1 h1' => ?_
 rw [zg3]
 refine zoe fun ds hds => ?_
 refine zby [10,13,16,19,20,21,22,23,24,25,26] fun tm' h => ?_
 simp (maxSteps:=4000000) only [lk,czn,czk,or_false,forall_eq_or_imp,forall_eq,Nat.reduceEqDiff,if_true,if_false,↓reduceIte] at h
 obtain ⟨l10,l13,l16,l19,l20,l21,l22,l23,l24,l25,l26⟩:=h
 have d1:ds.getD 1 none = some 177:=by rw [hds]; rfl
 have d4:ds.getD 4 none = some 180:=by rw [hds]; rfl
 have d7:ds.getD 7 none = some 183:=by rw [hds]; rfl
 have d10:ds.getD 10 none = some 186:=by rw [hds]; rfl
 have d15:ds.getD 15 none = some 191:=by rw [hds]; rfl
 have d20:ds.getD 20 none = some 196:=by rw [hds]; rfl
 have d25:ds.getD 25 none = some 201:=by rw [hds]; rfl
 have d36:ds.getD 36 none = some 212:=by rw [hds]; rfl
 have d45:ds.getD 45 none = some 221:=by rw [hds]; rfl
 clear hds
 refine zbH 10 fun K' hK => ?_
 simp (maxSteps:=4000000) only [go_sem,AV.one,zae,zab,zac,zan,zaq,zaa,czb,cza,↓reduceIte,zaf,onz,Int.cast_ofNat_Int,List.append_eq,o10,o13,o16,fb1,fb2,fb3,fb4,fb5,l10,l13,l16,l19,l20,l21,l22,l23,l24,l25,l26,d1,d4,d7]
 all_goals (repeat' first | (with_reducible first | rfl | apply And.intro | assumption) | ((with_reducible show zad _ _ = true); rfl)) <;> try first | omega | (simp only [InR]; omega)
 rw [hK]
 clear hK K'
 refine zby [10,13,16,19,21,23,25,185] fun tm' h => ?_
 simp (maxSteps:=4000000) only [lk,czn,czk,or_false,forall_eq_or_imp,forall_eq,Nat.reduceEqDiff,if_true,if_false,↓reduceIte,l10,l13,l16,l19,l20,l21,l22,l23,l24,l25,l26,d1,d4,d7] at h
 clear l10 l13 l16 l19 l20 l21 l22 l23 l24 l25 l26
 obtain ⟨l10,l13,l16,l19,l21,l23,l25,l185⟩:=h
 refine zbH 10 fun K' hK => ?_
 simp (maxSteps:=4000000) only [go_sem,AV.one,zae,zab,zac,zan,zaq,zaa,czb,cza,↓reduceIte,zaf,onz,Int.cast_ofNat_Int,List.append_eq,o10,o13,o16,fb1,fb2,fb3,fb4,fb5,l10,l13,l16,l19,l21,l23,l25,l185,d10,d15]
 all_goals (repeat' first | (with_reducible first | rfl | apply And.intro | assumption) | ((with_reducible show zad _ _ = true); rfl)) <;> try first | omega | (simp only [InR]; omega)
 rw [hK]
 clear hK K'
 refine zby [10,13,16,19,21,23,25,195] fun tm' h => ?_
 simp (maxSteps:=4000000) only [lk,czn,czk,or_false,forall_eq_or_imp,forall_eq,Nat.reduceEqDiff,if_true,if_false,↓reduceIte,l10,l13,l16,l19,l21,l23,l25,l185,d10,d15] at h
 clear l10 l13 l16 l19 l21 l23 l25 l185
 obtain ⟨l10,l13,l16,l19,l21,l23,l25,l195⟩:=h
 refine zbH 6 fun K' hK => ?_
 simp (maxSteps:=4000000) only [go_sem,AV.one,zae,zab,zac,zan,zaq,zaa,czb,cza,↓reduceIte,zaf,onz,Int.cast_ofNat_Int,List.append_eq,o10,o13,o16,fb1,fb2,fb3,fb4,fb5,l10,l13,l16,l19,l21,l23,l25,l195,d20]
 all_goals (repeat' first | (with_reducible first | rfl | apply And.intro | assumption) | ((with_reducible show zad _ _ = true); rfl)) <;> try first | omega | (simp only [InR]; omega)
 rw [hK]
 clear hK K'
 refine zby [10,13,16,19,21,23,25,201] fun tm' h => ?_
 simp (maxSteps:=4000000) only [lk,czn,czk,or_false,forall_eq_or_imp,forall_eq,Nat.reduceEqDiff,if_true,if_false,↓reduceIte,l10,l13,l16,l19,l21,l23,l25,l195,d20] at h
 clear l10 l13 l16 l19 l21 l23 l25 l195
 obtain ⟨l10,l13,l16,l19,l21,l23,l25,l201⟩:=h
 refine zbH 10 fun K' hK => ?_
 simp (maxSteps:=4000000) only [go_sem,AV.one,zae,zab,zac,zan,zaq,zaa,czb,cza,↓reduceIte,zaf,onz,Int.cast_ofNat_Int,List.append_eq,o10,o13,o16,fb1,fb2,fb3,fb4,fb5,l10,l13,l16,l19,l21,l23,l25,l201,d25]
 all_goals (repeat' first | (with_reducible first | rfl | apply And.intro | assumption) | ((with_reducible show zad _ _ = true); rfl)) <;> try first | omega | (simp only [InR]; omega)
 rw [hK]
 clear hK K'
 refine zby [13,16,21,25,211] fun tm' h => ?_
 simp (maxSteps:=4000000) only [lk,czn,czk,or_false,forall_eq_or_imp,forall_eq,Nat.reduceEqDiff,if_true,if_false,↓reduceIte,l10,l13,l16,l19,l21,l23,l25,l201,d25] at h
 clear l10 l13 l16 l19 l21 l23 l25 l201
 obtain ⟨l13,l16,l21,l25,l211⟩:=h
 refine zbH 10 fun K' hK => ?_
 simp (maxSteps:=4000000) only [go_sem,AV.one,zae,zab,zac,zan,zaq,zaa,czb,cza,↓reduceIte,zaf,onz,Int.cast_ofNat_Int,List.append_eq,o10,o13,o16,fb1,fb2,fb3,fb4,fb5,l13,l16,l21,l25,l211,d36]
 all_goals (repeat' first | (with_reducible first | rfl | apply And.intro | assumption) | ((with_reducible show zad _ _ = true); rfl)) <;> try first | omega | (simp only [InR]; omega)
 rw [hK]
 clear hK K'
 refine zby [221] fun tm' h => ?_
 simp (maxSteps:=4000000) only [lk,czn,czk,or_false,forall_eq_or_imp,forall_eq,Nat.reduceEqDiff,if_true,if_false,↓reduceIte,l13,l16,l21,l25,l211,d36] at h
 clear l13 l16 l21 l25 l211
 have l221:=h
 simp (maxSteps:=4000000) only [go_sem,AV.one,zae,zab,zac,zan,zaq,zaa,czb,cza,↓reduceIte,zaf,onz,Int.cast_ofNat_Int,List.append_eq,o10,o13,o16,fb1,fb2,fb3,fb4,fb5,l221,d45]
 all_goals (repeat' first | (with_reducible first | rfl | apply And.intro | assumption) | ((with_reducible show zad _ _ = true); rfl)) <;> try first | omega | (simp only [InR]; omega)
 all_goals (repeat' first | (with_reducible first | rfl | apply And.intro | assumption) | ((with_reducible show zad _ _ = true); rfl)) <;> try first | omega | (simp only [InR]; omega)
 rw [h1']; clear h1' Q1; simp only [zaO,zav]
 simp (maxSteps:=4000000) only [go_sem,AV.one,zae,zab,zac,zan,zaq,zaa,czb,cza,↓reduceIte,zaf,onz,hQ0,fb1,fb2,fb3,fb4,fb5,Bool.and_true,Bool.and_self]
 all_goals exact auz
set_option maxRecDepth 100000
theorem zdw:Tryz.prog.cellsOf 3 = 1:=by kernel_rfl
def RgIn (r:Rg):Prop:=InR .i64 r.lo ∧ InR .i64 r.hi
def SkIn (m:Sk):Prop:=InR .i64 m.chairs ∧ RgIn m.leak
theorem zcl {H:Type} {enc:TypeId × Value → H} {w:World} {base:Nat} {spare:Nat → Bool} {held:Bool} {n:Nat} {c:Value} {y:DataW H × List MemPlace}
  (h:DataW.trod enc Tryz.prog w base spare held n 3 [c] = some y):∃ a,c = .int .i64 a ∧ InR .i64 a:=by
 obtain ⟨a,e,_,hw⟩:=DataW.trod_int Tryz.underlying3 h
 simp only [List.cons.injEq,and_true] at e
 exact ⟨a,e,zk5 hw⟩
theorem rdE_rg:RdE Tryz.prog 28 Rg RgIn :=
 ⟨by kernel_rfl,fun enc w base spare held fuel cs x h => by
  obtain ⟨hl,xs,_,_,hf⟩:=ze2 Tryz.underlying28 h
  have hl:cs.length = 2:=hl.trans (by kernel_rfl)
  match cs,hl with
  | [c0,c1],_ =>
   obtain ⟨n0,y0,_,h0⟩:=hf 0 _ rfl
   obtain ⟨n1,y1,_,h1⟩:=hf 1 _ rfl
   simp only [zdw,List.getElem_toArray,List.getElem_cons_zero,List.getElem_cons_succ,List.drop_zero,List.drop_succ_cons,List.take_succ_cons,List.take_zero] at h0 h1
   obtain ⟨a,rfl,ha⟩:=zcl h0
   obtain ⟨b,rfl,hb⟩:=zcl h1
   refine ⟨⟨a,b⟩,⟨ha,hb⟩,rfl,fun i hi => ?_⟩
   match i,hi with
   | 0,_ => exact .int _ _
   | 1,_ => exact .int _ _⟩
theorem zoP:Tryz.prog.cellsOf 28 = 2:=by kernel_rfl
theorem rdE_sk:RdE Tryz.prog 69 Sk SkIn :=
 ⟨by kernel_rfl,fun enc w base spare held fuel cs x h => by
  obtain ⟨hl,xs,_,_,hf⟩:=ze2 Tryz.underlying69 h
  have hl:cs.length = 3:=hl.trans (by kernel_rfl)
  match cs,hl with
  | [c0,c2,c3],_ =>
   obtain ⟨n0,y0,_,h0⟩:=hf 0 _ rfl
   obtain ⟨n2,y2,_,h2⟩:=hf 1 _ rfl
   simp only [zdw,zoP,List.getElem_toArray,List.getElem_cons_zero,List.getElem_cons_succ,List.drop_zero,List.drop_succ_cons,List.take_succ_cons,List.take_zero] at h0 h2
   obtain ⟨a,rfl,ha⟩:=zcl h0
   obtain ⟨r,hr,hr2⟩:=rdE_rg.rd _ _ _ _ _ _ _ _ h2
   have e2:=hr2.2 0 (by show 0 < 2; omega)
   have e3:=hr2.2 1 (by show 1 < 2; omega)
   have e2':=Rep.int_inv (k:=.i64) (n:=r.lo) e2
   have e3':=Rep.int_inv (k:=.i64) (n:=r.hi) e3
   simp at e2' e3'
   subst e2' e3'
   refine ⟨⟨a,r⟩,⟨ha,hr⟩,rfl,fun i hi => ?_⟩
   match i,hi with
   | 0,_ => exact .int _ _
   | 1,_ => exact .int _ _
   | 2,_ => exact .int _ _⟩
theorem cells_sl1:Tryz.prog.cellsOf 26 = 1:=by kernel_rfl
theorem bytes_1:Tryz.prog.bytesOf 69 = 24:=by kernel_rfl
structure ShIn (s:Sh):Prop where
 st:∀ k ∈ s.stacks,SkIn k
 hands:InR .i64 s.hands
 rain:RgIn s.rain
 len:s.stacks.length * 24 ≤ reachBytes
theorem rdV_sh:RdV Tryz.prog 30 Sh ShIn:=fun enc w base v d ps hv ⟨fuel,h⟩ hw => by
 obtain ⟨cs,rfl,hsz,hrow⟩:=ziN Tryz.underlying30 hv
 have hsz:cs.size = 4:=hsz.trans (by kernel_rfl)
 obtain ⟨hl,xs,hx,_,hf⟩:=ze2 Tryz.underlying30 h
 obtain ⟨l⟩:=cs
 match l,hsz with
 | [c0,c1,c2,c3],_ =>
  obtain ⟨n0,y0,q0,h0⟩:=hf 0 _ rfl
  obtain ⟨n1,y1,_,h1⟩:=hf 1 _ rfl
  obtain ⟨n2,y2,_,h2⟩:=hf 2 _ rfl
  simp only [Value.cells,zdw,cells_sl1,zoP,List.getElem_toArray,List.getElem_cons_zero,List.getElem_cons_succ,List.drop_zero,List.drop_succ_cons,List.take_succ_cons,List.take_zero] at h0 h1 h2
  have hwt:(y0.1.weights Tryz.prog 26).all (· ≤ reachBytes) = true:=by
   rw [czG] at hw ⊢
   intro n hn
   apply hw
   simp only at hx
   rw [hx]
   simp only [DataW.weights,Tryz.underlying30]
   exact DataW.weights_mem_each (ts:=[26,3,28]) (j:=0) rfl (by rw [List.getElem?_map,q0]; rfl) n hn
  obtain ⟨b,rfl,hb⟩:=zcl h1
  obtain ⟨lh,g1,g2,g3⟩:=zju rdE_sk Tryz.underlying26 h0 (fun a l c e => zf8 hrow (i:=0) (by rw [e]; rfl))
  have r1:=g3 reachBytes hwt
  rw [bytes_1] at r1
  obtain ⟨r,hr,hr2⟩:=rdE_rg.rd _ _ _ _ _ _ _ _ h2
  have e2:=hr2.2 0 (by show 0 < 2; omega)
  have e3:=hr2.2 1 (by show 1 < 2; omega)
  have e2':=Rep.int_inv (k:=.i64) (n:=r.lo) e2
  have e3':=Rep.int_inv (k:=.i64) (n:=r.hi) e3
  simp at e2' e3'
  subst e2' e3'
  refine ⟨⟨lh,b,r⟩,⟨g1,hb,hr,r1⟩,.agg _ _ rfl fun i hi => ?_⟩
  match i,hi with
  | 0,_ => exact g2
  | 1,_ => exact .int _ _
  | 2,_ => exact .int _ _
  | 3,_ => exact .int _ _
theorem cells_3i:Tryz.prog.cellsOf 63 = 3:=by kernel_rfl
theorem rdE_rg7:RdE Tryz.prog 66 Rg RgIn :=
 ⟨by kernel_rfl,fun enc w base spare held fuel cs x h => by
  obtain ⟨hl,xs,_,_,hf⟩:=ze2 Tryz.underlying66 h
  have hl:cs.length = 2:=hl.trans (by kernel_rfl)
  match cs,hl with
  | [c0,c1],_ =>
   obtain ⟨n0,y0,_,h0⟩:=hf 0 _ rfl
   obtain ⟨n1,y1,_,h1⟩:=hf 1 _ rfl
   simp only [zdw,List.getElem_toArray,List.getElem_cons_zero,List.getElem_cons_succ,List.drop_zero,List.drop_succ_cons,List.take_succ_cons,List.take_zero] at h0 h1
   obtain ⟨a,rfl,ha⟩:=zcl h0
   obtain ⟨b,rfl,hb⟩:=zcl h1
   refine ⟨⟨a,b⟩,⟨ha,hb⟩,rfl,fun i hi => ?_⟩
   match i,hi with
   | 0,_ => exact .int _ _
   | 1,_ => exact .int _ _⟩
def PtIn (p:Pt):Prop:=InR .i64 p.a ∧ InR .i64 p.b ∧ InR .i64 p.c
def McIn (c:Mc):Prop:=InR .i64 c.size ∧ PtIn c.p
theorem trod_pt {H:Type} {enc:TypeId × Value → H} {w:World} {base:Nat} {spare:Nat → Bool} {held:Bool} {n:Nat} {c0 c1 c2:Value} {y:DataW H × List MemPlace}
  (h:DataW.trod enc Tryz.prog w base spare held n 63 [c0,c1,c2] = some y):∃ p:Pt,PtIn p ∧ c0 = .int .i64 p.a ∧ c1 = .int .i64 p.b ∧ c2 = .int .i64 p.c:=by
 obtain ⟨xs,m,_,_,_,hl,hel⟩:=DataW.trod_array Tryz.underlying63 h
 have h0:=hel 0 (by omega)
 have h1:=hel 1 (by omega)
 have h2:=hel 2 (by omega)
 rw [czw (by omega)] at h0 h1 h2
 simp only [zdw,Nat.zero_mul,Nat.one_mul,Nat.mul_one,List.drop_zero,List.drop_succ_cons,List.take_succ_cons,List.take_zero] at h0 h1 h2
 obtain ⟨a,rfl,ha⟩:=zcl h0
 obtain ⟨b,rfl,hb⟩:=zcl h1
 obtain ⟨c,rfl,hc⟩:=zcl h2
 exact ⟨⟨a,b,c⟩,⟨ha,hb,hc⟩,rfl,rfl,rfl⟩
theorem rdE_mc:RdE Tryz.prog 65 Mc McIn :=
 ⟨by kernel_rfl,fun enc w base spare held fuel cs x h => by
  obtain ⟨hl,xs,_,_,hf⟩:=ze2 Tryz.underlying65 h
  have hl:cs.length = 4:=hl.trans (by kernel_rfl)
  match cs,hl with
  | [c0,c1,c2,c3],_ =>
   obtain ⟨n0,y0,_,h0⟩:=hf 0 _ rfl
   obtain ⟨n1,y1,_,h1⟩:=hf 1 _ rfl
   simp only [zdw,cells_3i,List.getElem_toArray,List.getElem_cons_zero,List.getElem_cons_succ,List.drop_zero,List.drop_succ_cons,List.take_succ_cons,List.take_zero] at h0 h1
   obtain ⟨a,rfl,ha⟩:=zcl h0
   obtain ⟨p,hp,rfl,rfl,rfl⟩:=trod_pt h1
   refine ⟨⟨a,p⟩,⟨ha,hp⟩,rfl,fun i hi => ?_⟩
   match i,hi with
   | 0,_ => exact .int _ _
   | 1,_ => exact .int _ _
   | 2,_ => exact .int _ _
   | 3,_ => exact .int _ _⟩
theorem cells_sl3:Tryz.prog.cellsOf 22 = 1:=by kernel_rfl
theorem cells_sl4:Tryz.prog.cellsOf 23 = 1:=by kernel_rfl
theorem bytes_3:Tryz.prog.bytesOf 65 = 32:=by kernel_rfl
theorem bytes_4:Tryz.prog.bytesOf 66 = 16:=by kernel_rfl
structure MyIn (y:My):Prop where
 ch:∀ c ∈ y.chairs,McIn c
 fit:InR .i64 y.fit
 cl:∀ r ∈ y.claims,RgIn r
 len:y.chairs.length * 32 ≤ reachBytes
 lc:y.claims.length * 16 ≤ reachBytes
theorem rdV_my:RdV Tryz.prog 25 My MyIn:=fun enc w base v d ps hv ⟨fuel,h⟩ hw => by
 obtain ⟨cs,rfl,hsz,hrow⟩:=ziN Tryz.underlying25 hv
 have hsz:cs.size = 3:=hsz.trans (by kernel_rfl)
 obtain ⟨hl,xs,hx,_,hf⟩:=ze2 Tryz.underlying25 h
 obtain ⟨l⟩:=cs
 match l,hsz with
 | [c0,c1,c2],_ =>
  obtain ⟨n0,y0,q0,h0⟩:=hf 0 _ rfl
  obtain ⟨n1,y1,_,h1⟩:=hf 1 _ rfl
  obtain ⟨n2,y2,q2,h2⟩:=hf 2 _ rfl
  simp only [Value.cells,zdw,cells_sl3,cells_sl4,List.getElem_toArray,List.getElem_cons_zero,List.getElem_cons_succ,List.drop_zero,List.drop_succ_cons,List.take_succ_cons,List.take_zero] at h0 h1 h2
  have hwt:(y0.1.weights Tryz.prog 22).all (· ≤ reachBytes) = true:=by
   rw [czG] at hw ⊢
   intro n hn
   apply hw
   simp only at hx
   rw [hx]
   simp only [DataW.weights,Tryz.underlying25]
   exact DataW.weights_mem_each (ts:=[22,3,23]) (j:=0) rfl (by rw [List.getElem?_map,q0]; rfl) n hn
  have hwt2:(y2.1.weights Tryz.prog 23).all (· ≤ reachBytes) = true:=by
   rw [czG] at hw ⊢
   intro n hn
   apply hw
   simp only at hx
   rw [hx]
   simp only [DataW.weights,Tryz.underlying25]
   exact DataW.weights_mem_each (ts:=[22,3,23]) (j:=2) rfl (by rw [List.getElem?_map,q2]; rfl) n hn
  obtain ⟨b,rfl,hb⟩:=zcl h1
  obtain ⟨lh,g1,g2,g3⟩:=zju rdE_mc Tryz.underlying22 h0 (fun a l c e => zf8 hrow (i:=0) (by rw [e]; rfl))
  obtain ⟨lr,k1,k2,k3⟩:=zju rdE_rg7 Tryz.underlying23 h2 (fun a l c e => zf8 hrow (i:=2) (by rw [e]; rfl))
  have r1:=g3 reachBytes hwt
  have r2:=k3 reachBytes hwt2
  rw [bytes_3] at r1
  rw [bytes_4] at r2
  refine ⟨⟨lh,b,lr⟩,⟨g1,hb,k1,r1,r2⟩,.agg _ _ rfl fun i hi => ?_⟩
  match i,hi with
  | 0,_ => exact g2
  | 1,_ => exact .int _ _
  | 2,_ => exact k2
theorem own:ownKnob Tryz.prog.godebug = none:=by kernel_rfl
theorem laidOut:laidOutB Tryz.prog = true:=by kernel_rfl
end Go.Proofs
