/- Plain: a yard with one hire more. -/
import Derived.Test.YtilbconikmpadaaGreatCH52
set_option linter.all false
namespace Go.Proofs
open Go.Fs
set_option maxHeartbeats 1000000
set_option maxRecDepth 8000
def zcv (y:Yd) (m:Rg):Yd:={ y with hires:=y.hires ++ [m] }
theorem zhg {y:Yd} {m:Rg} {p:List Int} {k:Nat} (h:k < y.hires.length):zcx (zcv y m) p k = zcx y p k:=by
 show zfO y y.order p (at_ (y.hires ++ [m]) k).lo (at_ (y.hires ++ [m]) k).hi.toNat = _
 rw [zlD h]
 rfl
theorem more_last {y:Yd} {m:Rg} {p:List Int}:zcx (zcv y m) p y.hires.length = zfO y y.order p m.lo m.hi.toNat:=by
 show zfO y y.order p (at_ (y.hires ++ [m]) y.hires.length).lo (at_ (y.hires ++ [m]) y.hires.length).hi.toNat = _
 rw [zjk]
theorem zit (y:Yd) (m:Rg):(zcv y m).hires.length = y.hires.length + 1:=by simp [zcv]
theorem zrQ {y:Yd} {m:Rg} {p:List Int}:zcG (zcv y m) p = true ↔ zcG y p = true ∧ zfO y y.order p m.lo m.hi.toNat = true:=by
 unfold zcG
 rw [zit,List.range_succ,List.all_append,czl]
 have e:(List.range y.hires.length).all (zcx (zcv y m) p) = (List.range y.hires.length).all (zcx y p):=by
  rw [Bool.eq_iff_iff,czG,czG]
  exact ⟨fun h k hk => by rw [← zhg (m:=m) (List.mem_range.1 hk)]; exact h k hk,fun h k hk => by rw [zhg (List.mem_range.1 hk)]; exact h k hk⟩
 rw [e]
 simp only [List.all_cons,List.all_nil,Bool.and_true,more_last]
theorem zeh {y:Yd} {m:Rg} {p:List Int}:p ∈ zaJ (zcv y m) ↔ p ∈ zaJ y ∧ zfO y y.order p m.lo m.hi.toNat = true:=by
 rw [zb3,zb3,zrQ]
 exact ⟨fun h => ⟨⟨h.1,h.2.1⟩,h.2.2⟩,fun h => ⟨h.1.1,h.1.2,h.2⟩⟩
theorem zfU {a b:List Nat} (h:zcA (zbQ a) (zbQ b) = false):b.length ≤ a.length:=by
 apply Classical.byContradiction
 intro q
 have:zcA (zbQ a) (zbQ b) = true:=(zeZ _ _).2 (.inl (by simp [zbQ]; omega))
 rw [this] at h; cases h
theorem zv0 {y:Yd} {m:Rg} {ls lx:List Nat} (h1:LeastG y.hires.length (zn7 y) ls) (h2:LeastG (zcv y m).hires.length (zn7 (zcv y m)) lx) :
  ls.length ≤ lx.length ∧ lx.length ≤ ls.length + 1:=by
 rw [zit] at h2
 constructor
 ·have hi:Inc 0 y.hires.length (lx.filter fun k => decide (k ≠ y.hires.length)):=by
   refine zmP (h2.inc.pair.filter _) fun k hk => ?_
   rw [List.mem_filter] at hk
   have:=h2.inc.mem k hk.1
   have h3:k ≠ y.hires.length:=by simpa using hk.2
   omega
  have hp:zn7 y (fun k => k ∉ lx.filter fun k => decide (k ≠ y.hires.length)):=by
   obtain ⟨p,hp,hr⟩:=h2.poss
   refine ⟨p,hp,fun k hk hn => ?_⟩
   rw [← zhg (m:=m) hk]
   refine hr k (by rw [zit]; omega) fun q => hn ?_
   rw [List.mem_filter]
   exact ⟨q,by simp; omega⟩
  have:=zfU (h1.least _ hi hp)
  have h4:=List.length_filter_le (fun k => decide (k ≠ y.hires.length)) lx
  omega
 ·have hi:Inc 0 (y.hires.length + 1) (ls ++ [y.hires.length]):=by
   refine zmP (List.pairwise_append.2 ⟨h1.inc.pair,List.pairwise_singleton _ _,fun a ha b hb => ?_⟩) fun k hk => ?_
   ·rw [czC] at hb
    subst hb
    exact (h1.inc.mem a ha).2
   ·rcases czv.1 hk with q | q
    ·have:=h1.inc.mem k q
     omega
    ·rw [czC] at q
     omega
  have hp:zn7 (zcv y m) (fun k => k ∉ ls ++ [y.hires.length]):=by
   obtain ⟨p,hp,hr⟩:=h1.poss
   refine ⟨p,hp,fun k hk hn => ?_⟩
   rw [zit] at hk
   have hne:k ≠ y.hires.length:=fun e => hn (by rw [e]; simp)
   rw [zhg (by omega)]
   exact hr k (by omega) fun q => hn (czv.2 (.inl q))
  have:=zfU (h2.least _ hi hp)
  rw [czc] at this
  exact this
theorem more_poss {y:Yd} {lx:List Nat} (h:LeastG y.hires.length (zn7 y) lx) (h0:lx = []):zaJ y ≠ []:=by
 obtain ⟨p,hp,hr⟩:=h.poss
 intro e
 have:p ∈ zaJ y:=zb3.2 ⟨hp,czG.2 fun k hk => hr k (List.mem_range.1 hk) (by rw [h0]; simp)⟩
 rw [e] at this; cases this
theorem zv1 {y:Yd} {m:Rg} (hv:VY y) (hx:VY (zcv y m)) (ht:zaJ (zcv y m) ≠ []) (hy:zaJ y ≠ []) (o:List Int) {c:Int} (h0:0 ≤ c) (h1:c < y.chairs.length) :
  (zeG y (zaJ y) o c).lo ≤ (zeG (zcv y m) (zaJ (zcv y m)) o c).lo ∧ (zeG (zcv y m) (zaJ (zcv y m)) o c).hi ≤ (zeG y (zaJ y) o c).hi:=by
 have hb:=zen hv hy .free o h0 h1
 rw [zgS hv hy o h0 h1] at hb
 have hc:=zen hx ht .free o h0 h1
 rw [zgS hx ht o h0 h1] at hc
 exact hc.sub hb fun z ⟨p,hp,e⟩ => ⟨p,(zeh.1 hp).1,e⟩
theorem zlg {y:Yd} {ls:List (List Int)} {o:List Int} {c k:Int} (h:∀ p ∈ ls,zfO y o p c k.toNat = true):zdR y ls o c k = 1:=by
 unfold zdR
 rw [if_pos ((zgO _ _).2 h)]
theorem zmR {y:Yd} {ls:List (List Int)} {o:List Int} {c k:Int} (h0:ls ≠ []) (h:∀ p ∈ ls,zfO y o p c k.toNat = false):zdR y ls o c k = 2:=by
 unfold zdR
 have h1:¬ zkZ (fun hs => zfO y o hs c k.toNat) ls = ls.length:=by
  rw [zgO]
  intro q
  obtain ⟨p,hp⟩:=List.exists_mem_of_ne_nil _ h0
  have:=h p hp
  rw [q p hp] at this; cases this
 rw [if_neg h1,if_pos ((zhi _ _).2 h)]
theorem zf3 {y:Yd} {ls:List (List Int)} {o:List Int} {c k:Int} (h0:ls ≠ []):(zdR y ls o c k = 1 ∧ ∀ p ∈ ls,zfO y o p c k.toNat = true) ∨ (zdR y ls o c k = 2 ∧ ∀ p ∈ ls,zfO y o p c k.toNat = false) ∨ zdR y ls o c k = 3:=by
 by_cases a:∀ p ∈ ls,zfO y o p c k.toNat = true
 ·exact .inl ⟨zlg a,a⟩
 ·by_cases b:∀ p ∈ ls,zfO y o p c k.toNat = false
  ·exact .inr (.inl ⟨zmR h0 b,b⟩)
  ·refine .inr (.inr ?_)
   unfold zdR
   rw [if_neg (by rw [zgO]; exact a),if_neg (by rw [zhi]; exact b)]
theorem more_free {y:Yd} {m:Rg} (ht:zaJ (zcv y m) ≠ []) (hy:zaJ y ≠ []) (o:List Int) (c k:Int) :
  zdR y (zaJ y) o c k = 3 ∨ zdR y (zaJ y) o c k = zdR (zcv y m) (zaJ (zcv y m)) o c k:=by
 rcases zf3 (y:=y) (o:=o) (c:=c) (k:=k) hy with ⟨h1,h2⟩ | ⟨h1,h2⟩ | h1
 ·exact .inr (by rw [h1,zlg]; exact fun p hp => h2 p (zeh.1 hp).1)
 ·exact .inr (by rw [h1,zmR ht]; exact fun p hp => h2 p (zeh.1 hp).1)
 ·exact .inl h1
theorem zrR {y:Yd} {m:Rg}:zdR (zcv y m) (zaJ (zcv y m)) y.order m.lo m.hi = 1 :=
 zlg fun p hp => (zeh.1 hp).2
theorem zf4 (f:List Int → Int):∀ (l:List (List Int)) (n:Int),n ≤ l.foldl (fun n p => max n (f p)) n ∧ (∀ p ∈ l,f p ≤ l.foldl (fun n p => max n (f p)) n) ∧ ∀ b,n ≤ b → (∀ p ∈ l,f p ≤ b) → l.foldl (fun n p => max n (f p)) n ≤ b
 | [],n => ⟨Int.le_refl _,fun _ h => (czk h).elim,fun b h _ => h⟩
 | a :: l,n => by
  obtain ⟨h1,h2,h3⟩:=zf4 f l (max n (f a))
  rw [List.foldl_cons]
  refine ⟨by omega,fun p hp => ?_,fun b h0 hb => h3 b ?_ fun p hp => hb p (List.mem_cons_of_mem _ hp)⟩
  ·rcases czn.1 hp with q | q
   ·subst q; omega
   ·exact h2 p q
  ·have:=hb a (List.mem_cons_self ..)
   omega
theorem more_loss {y:Yd} {m:Rg} (o:List Int):zgQ (zcv y m) (zaJ (zcv y m)) o ≤ zgQ y (zaJ y) o:=by
 obtain ⟨h1,h2,_⟩:=zf4 (zb7 y o) (zaJ y) 0
 obtain ⟨_,_,h3⟩:=zf4 (zb7 (zcv y m) o) (zaJ (zcv y m)) 0
 exact h3 _ h1 fun p hp => h2 p (zeh.1 hp).1
theorem loss_of {y:Yd} {ls:List (List Int)} {o p:List Int} (h:p ∈ ls):zb7 y o p ≤ zgQ y ls o:=(zf4 (zb7 y o) ls 0).2.1 p h
end Go.Proofs
