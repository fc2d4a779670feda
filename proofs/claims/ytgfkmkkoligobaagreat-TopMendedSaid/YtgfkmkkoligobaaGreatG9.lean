/- The texts S11, S12, S13, S14, S15, S16, S17, S18, S19, joined. -/
import Derived.Test.YtgfkmkkoligobaaGreatG8
import Derived.OwnWalkIn
import Derived.TacticsInMore
import Derived.RegionIn
set_option linter.all false
namespace Go.Proofs
open Go.Fs
set_option maxHeartbeats 32000000
set_option maxRecDepth 8000
theorem zkP (w:WkS) (l:List Int) (h:ShOk w.s ∧ (∀ x ∈ l,zcO w.s x) ∧ l.length ≤ 8):zaH Tryz.prog 66 [Enc.enc w,Enc.enc l] (· = Enc.enc (zaY (spS w.s) l)):=by
 obtain ⟨hs,hl,hn⟩:=h
 have hm:∀ K es st,mS w K es st = [.cells [.ref [.sl (w.s.stacks.map EncE.cs) .no,.int .i64 w.s.hands,.int .i64 w.s.rain.lo,.int .i64 w.s.rain.hi,.mpr w.ks (w.vs.map (AV.int .i64))] 0],.vec (es.map EncE.cs) 1 st,.cells [.fn (.func K) [] []]]:=fun _ _ _ => rfl
 have hw:wkC w = [.sl (w.s.stacks.map EncE.cs) .no,.int .i64 w.s.hands,.int .i64 w.s.rain.lo,.int .i64 w.s.rain.hi,.mpr w.ks (w.vs.map (AV.int .i64))]:=rfl
 by_cases h0:l = []
 ·subst h0
  have hc:=zkf w
  rw [hw] at hc
  have e0:zaY (spS w.s) [] = []:=rfl
  have s1:=sortNil .full 88 1 0 [.cells [.ref [.sl (w.s.stacks.map EncE.cs) .no,.int .i64 w.s.hands,.int .i64 w.s.rain.lo,.int .i64 w.s.rain.hi,.mpr w.ks (w.vs.map (AV.int .i64))] 0],.cells [.fn (.func 87) [] []]] (by simp) (by simp) (by simp [AV.bare,zal,zaF,zaI,zak,zas,zai,tokz1,lk,zaa,zcs]) (by simp [AV.bare,zal,zaF,zaI,zak,zas,zai,tokz1,lk,zaa,zcs,-List.map_map])
  have s2:=sortNil (.own 1) 88 2 0 [.cells [.ref [.sl (w.s.stacks.map EncE.cs) .no,.int .i64 w.s.hands,.int .i64 w.s.rain.lo,.int .i64 w.s.rain.hi,.mpr w.ks (w.vs.map (AV.int .i64))] 0],.tok 0 1,.cells [.fn (.func 87) [] []]] (by simp) (by simp) (by simp [AV.bare,zal,zaF,zaI,zak,zas,zai,tokz1,lk,zaa,zcs]) (by simp [AV.bare,zal,zaF,zaI,zak,zas,zai,tokz1,lk,zaa,zcs,-List.map_map])
  rw [e0]
  simp only [zd3]
  refine cpz zgB Tryz.func66 zaA ?_
  rw [Tryz.ntmps66]
  simp only [Tryz.f66,zaj,zao]
  simp (maxSteps:=4000000) only [go_sem,AV.one,zae,zab,zac,zan,zaq,zaa,czb,cza,↓reduceIte,zaf,onz]
  all_goals (repeat' first | (with_reducible first | rfl | apply And.intro | assumption) | ((with_reducible show zad _ _ = true); rfl)) <;> try first | omega | (simp only [InR]; omega)
  refine ⟨_,hc,?_⟩
  rintro r mem' (⟨rfl,rfl⟩ | ⟨rfl,rfl⟩) _
  ·simp (maxSteps:=4000000) only [go_sem,AV.one,zae,zab,zac,zan,zaq,zaa,czb,cza,↓reduceIte,zaf,onz]
   all_goals (repeat' first | (with_reducible first | rfl | apply And.intro | assumption) | ((with_reducible show zad _ _ = true); rfl)) <;> try first | omega | (simp only [InR]; omega)
   exact ⟨_,s1⟩
  ·simp (maxSteps:=4000000) only [go_sem,AV.one,zae,zab,zac,zan,zaq,zaa,czb,cza,↓reduceIte,zaf,onz]
   all_goals (repeat' first | (with_reducible first | rfl | apply And.intro | assumption) | ((with_reducible show zad _ _ = true); rfl)) <;> try first | omega | (simp only [InR]; omega)
   exact ⟨_,s2⟩
 ·have hc:=zoa w l (by omega) h0
  have hd:=zjl w hs l hl hn 1
  rw [hw] at hc
  have hlen:(zaY (spS w.s) l).length = l.length:=zcL _ _
  obtain ⟨S,hS⟩:∃ S,zaY (spS w.s) l = S:=⟨_,rfl⟩
  rw [hS] at hd hlen ⊢
  simp only [hm] at hd
  simp only [zd3]
  refine cpz zgB Tryz.func66 zaA ?_
  rw [Tryz.ntmps66]
  simp only [Tryz.f66,zaj,zao]
  simp (maxSteps:=4000000) only [go_sem,AV.one,zae,zab,zac,zan,zaq,zaa,czb,cza,↓reduceIte,zaf,onz]
  all_goals (repeat' first | (with_reducible first | rfl | apply And.intro | assumption) | ((with_reducible show zad _ _ = true); rfl)) <;> try first | omega | (simp only [InR]; omega)
  refine ⟨_,hc,?_⟩
  rintro r mem' ⟨rfl,rfl⟩ _
  simp (maxSteps:=4000000) only [go_sem,AV.one,zae,zab,zac,zan,zaq,zaa,czb,cza,↓reduceIte,zaf,onz]
  all_goals (repeat' first | (with_reducible first | rfl | apply And.intro | assumption) | ((with_reducible show zad _ _ = true); rfl)) <;> try first | omega | (simp only [InR]; omega)
  refine ⟨_,hd,?_⟩
  rintro r mem' ⟨rfl,rfl⟩ _
  have htk:List.take l.length (S.map EncE.cs) = S.map EncE.cs:=cze (by simp [hlen])
  simp (maxSteps:=4000000) only [go_sem,AV.one,zae,zab,zac,zan,zaq,zaa,czb,cza,↓reduceIte,zaf,onz,htk]
  all_goals exact auz
def P27 (g:FuncId):=(zat 66 (zbD (fun (w:WkS) (l:List Int) => ShOk w.s ∧ (∀ x ∈ l,zcO w.s x) ∧ l.length ≤ 8) (fun w l => zaY (spS w.s) l)) (P26):zay) g
theorem P27_ok:zam Tryz.prog P27:=zah (zaK zkP) (zgB)
theorem zpj (d:Option Nat):zaw P27 d = none:=(zag (by decide) d).trans (zpk d)
attribute [go_sem] P27 zpj
theorem fits_call (w:WkS) (l:List Int) (h:ShOk w.s ∧ (∀ x ∈ l,zcO w.s x) ∧ l.length ≤ 8):zaH Tryz.prog 65 [Enc.enc w,Enc.enc l] (· = Enc.enc (zir w.s.hands (spS w.s) (zaY (spS w.s) l))):=by
 obtain ⟨hs,hl,hn⟩:=h
 have h0:=hs.h0
 have hlen:(zaY (spS w.s) l).length = l.length:=zcL _ _
 have hmem:∀ x ∈ zaY (spS w.s) l,zcO w.s x:=fun x hx => hl x ((zdi _ _ _).1 hx)
 obtain ⟨o,ho⟩:∃ o,zaY (spS w.s) l = o:=⟨_,rfl⟩
 rw [ho] at hlen hmem
 rw [ho]
 unfold zir
 simp only [zd3]
 refine cpz P27_ok Tryz.func65 zaA ?_
 rw [Tryz.ntmps65]
 simp only [Tryz.f65,zaj,zao]
 simp (maxSteps:=4000000) only [go_sem,AV.one,zae,zab,zac,zan,zaq,zaa,czb,cza,↓reduceIte,zaf,onz,ho]
 all_goals (repeat' first | (with_reducible first | rfl | apply And.intro | assumption) | ((with_reducible show zad _ _ = true); rfl)) <;> try first | omega | (simp only [InR]; omega)
 refine zbg (o.length) [] [0,4,9,10] (fun i => [(11,.int .i64 i)]) (fun _ m => m) (fun i => (List.range i).all (fun k => decide (w.s.hands ≠ 0) && decide ((k:Int) / w.s.hands < spS w.s (at_ o k))) = true) ?_ ?_ ?_ ?_
 ·rfl
 ·simp [AV.bare,zal,zaF,zaI,zak,zas,zai,tokz1,lk,zaa,zcs,-List.map_map]
 ·intro i hi hI
  have hi':=czH.2 hi
  have hx:=hmem _ (zaS hi)
  have hsp:=(hs.nat hx).1
  obtain ⟨hx1,hx2⟩:0 ≤ at_ o i ∧ at_ o i < w.s.stacks.length:=hx
  cases c1:decide (w.s.hands = 0)
  ·have hne:decide (w.s.hands ≠ 0) = true:=by simpa using c1
   have hH:1 ≤ w.s.hands:=by simp at c1; omega
   have hq0:0 ≤ (i:Int) / w.s.hands:=Int.ediv_nonneg (by omega) (by omega)
   have hq1:(i:Int) / w.s.hands ≤ i:=Int.ediv_le_self _ (by omega)
   cases c2:decide ((i:Int) / w.s.hands ≥ spS w.s (at_ o i))
   ·simp (maxSteps:=4000000) only [go_sem,AV.one,zae,zab,zac,zan,zaq,zaa,czb,cza,↓reduceIte,zaf,onz,zar hi,hi',c1,c2]
    all_goals (repeat' first | (with_reducible first | rfl | apply And.intro | assumption) | ((with_reducible show zad _ _ = true); rfl)) <;> try first | omega | (simp only [InR]; omega)
    ·have e:decide ((i:Int) / w.s.hands < spS w.s (at_ o i)) = true:=by simp at c2 ⊢; omega
     refine nxt hi (by rw [zij,hI,hne,e]; rfl) ?_
     simp [AV.bare,zal,zaF,zaI,zak,zas,zai,tokz1,lk,zaa,zcs,-List.map_map]
   ·simp (maxSteps:=4000000) only [go_sem,AV.one,zae,zab,zac,zan,zaq,zaa,czb,cza,↓reduceIte,zaf,onz,zar hi,hi',c1,c2]
    all_goals (repeat' first | (with_reducible first | rfl | apply And.intro | assumption) | ((with_reducible show zad _ _ = true); rfl)) <;> try first | omega | (simp only [InR]; omega)
    have e:decide ((i:Int) / w.s.hands < spS w.s (at_ o i)) = false:=by simp at c2 ⊢; omega
    rw [zeE hi (p:=fun k => decide (w.s.hands ≠ 0) && decide ((k:Int) / w.s.hands < spS w.s (at_ o k))) (by rw [e,Bool.and_false])]
  ·simp (maxSteps:=4000000) only [go_sem,AV.one,zae,zab,zac,zan,zaq,zaa,czb,cza,↓reduceIte,zaf,onz,zar hi,hi',c1]
   all_goals (repeat' first | (with_reducible first | rfl | apply And.intro | assumption) | ((with_reducible show zad _ _ = true); rfl)) <;> try first | omega | (simp only [InR]; omega)
   have hne:decide (w.s.hands ≠ 0) = false:=by simpa using c1
   rw [zeE hi (p:=fun k => decide (w.s.hands ≠ 0) && decide ((k:Int) / w.s.hands < spS w.s (at_ o k))) (by rw [hne,Bool.false_and])]
 ·intro hI
  simp (maxSteps:=4000000) only [go_sem,AV.one,zae,zab,zac,zan,zaq,zaa,czb,cza,↓reduceIte,zaf,onz,czA]
  rw [hI]
theorem zrj (l:List Int) (h:l.length ≤ 4096):zfD Tryz.prog 64 [Enc.enc l] 1 (l.map EncE.cs):=by
 simp only [zd3]
 refine zhU (Φ:=P27) Tryz.func64 rfl (by rfl) (by rw [Tryz.ntmps64]; simp) zaA P27_ok (by simp [AV.strip,AV.strip1,Tk.strip]) (by decide) ?_
 rw [Tryz.ntmps64]
 simp only [Tryz.f64,zaj,zao]
 simp (maxSteps:=4000000) only [go_sem,AV.one,zae,zab,zac,zan,zaq,zaa,czb,cza,↓reduceIte,zaf,onz,frR]
 intro b hb
 cases b
 ·simp (maxSteps:=4000000) only [go_sem,AV.one,zae,zab,zac,zan,zaq,zaa,czb,cza,↓reduceIte,zaf,onz,frR]
  all_goals (repeat' first | (with_reducible first | rfl | apply And.intro | assumption) | ((with_reducible show zad _ _ = true); rfl)) <;> try first | omega | (simp only [InR]; omega)
  simp [zlf,AV.one]
 ·have:l = []:=by simpa using hb
  subst this
  simp (maxSteps:=4000000) only [go_sem,AV.one,zae,zab,zac,zan,zaq,zaa,czb,cza,↓reduceIte,zaf,onz,frR]
def P28 (g:FuncId):=(zat 65 (zbD (fun (w:WkS) (l:List Int) => ShOk w.s ∧ (∀ x ∈ l,zcO w.s x) ∧ l.length ≤ 8) (fun w l => zir w.s.hands (spS w.s) (zaY (spS w.s) l))) (zat 64 (zku (fun l:List Int => l.length ≤ 4096) (fun l => l)) (P27)):zay) g
theorem P28_ok:zam Tryz.prog P28:=zah (zaK fits_call) (zah (zkt zrj) (P27_ok))
theorem zpi (d:Option Nat):zaw P28 d = none:=(zag (by decide) d).trans ((zag (by decide) d).trans (zpj d))
attribute [go_sem] P28 zpi
def zdE (H:Int) (o:List Int) (n k:Nat):List Int:=(List.range k).foldl (fun p k => p.set (at_ o k).toNat ((k:Int) / H)) (List.replicate n (-1))
theorem zeG (H:Int) (o:List Int) (n:Nat):∀ k,(zdE H o n k).length = n
 | 0 => by simp [zdE]
 | k + 1 => by
  have:=zeG H o n k
  unfold zdE at *
  rw [List.range_succ,List.foldl_append]
  simpa using this
theorem zga (H:Int) (o:List Int) (n k:Nat):zdE H o n (k + 1) = (zdE H o n k).set (at_ o k).toNat ((k:Int) / H):=by
 unfold zdE; rw [List.range_succ,List.foldl_append]; rfl
def zhZ (s:Sh):List Int:=zdE s.hands (zaY (spS s) (zc0 s)) s.stacks.length (zaY (spS s) (zc0 s)).length
theorem zfK:∀ n,zbh [AV.int .i64 0] n = (List.replicate n (0:Int)).map (AV.int .i64)
 | 0 => rfl
 | n + 1 => by simp only [zbh,zfK n,List.replicate_succ,czb]; rfl
theorem rep_set {n i:Nat} (hi:i < n):(List.replicate i (-1:Int) ++ List.replicate (n - i) 0).set i (-1) = List.replicate (i + 1) (-1) ++ List.replicate (n - (i + 1)) 0:=by
 have e:n - i = (n - (i + 1)) + 1:=by omega
 rw [List.set_append_right _ _ (by simp),e,List.replicate_succ]
 simp [List.replicate_succ']
theorem ziU {s:Sh} (h:ShOk s) (hne:zc0 s ≠ []):1 ≤ s.hands:=by
 obtain ⟨_,h2,h3,_⟩:=zdR h
 obtain ⟨x,hx⟩:=List.exists_mem_of_ne_nil _ hne
 have hr:=h2 x hx
 have hsp:=(h.nat hr).1
 obtain ⟨k,rfl⟩:=czu hr.1
 have h4:=h3 18 (czf _)
 have h5:=cnt_pos (n:=s.stacks.length) (i:=k) (p:=fun i => zeb (zc0 s) i && decide (spS s i ≤ ((18:Nat):Int))) (by omega) (by
  simp only [czl,decide_eq_true_eq]
  exact ⟨(zea _ _).2 hx,by omega⟩)
 by_cases c:s.hands ≤ 0
 ·have:=h.h0
  have e:s.hands = 0:=by omega
  rw [e] at h4
  exact absurd (Int.le_trans h5 h4) (by simp)
 ·omega
theorem rep_len (i n:Nat) (h:i ≤ n):(List.replicate i (-1:Int) ++ List.replicate (n - i) 0).length = n:=by simp; omega
theorem best_call (w:WkS) (hs:ShOk w.s):zaH Tryz.prog 43 [Enc.enc w] (· = Enc.enc (zhZ w.s)):=by
 have h8:=hs.len
 have h0:=hs.h0
 have hkh:=ziU hs
 obtain ⟨hv,hhv⟩:∃ hv,zdV w.s = hv:=⟨_,rfl⟩
 have hvm:∀ x ∈ hv,zcO w.s x:=fun x hx => (zeL _ _).1 (by rw [hhv]; exact hx)
 have hvl:hv.length = w.s.stacks.length:=by rw [← hhv]; unfold zdV; rw [zcL,zdQ]
 have hk:=zdR hs
 unfold zhZ
 obtain ⟨K0,hK0⟩:∃ K0,zc0 w.s = K0:=⟨_,rfl⟩
 have hK0':zcH w.s.hands (spS w.s) (chS w.s) hv [] = K0:=by rw [← hK0,← hhv]; rfl
 rw [hK0] at hk hkh ⊢
 have hK0m:∀ x ∈ K0,zcO w.s x:=hk.2.1
 obtain ⟨o,ho⟩:∃ o,zaY (spS w.s) K0 = o:=⟨_,rfl⟩
 have hom:∀ x ∈ o,zcO w.s x:=fun x hx => hK0m x (by rw [← ho] at hx; exact (zdi _ _ _).1 hx)
 have hol:o.length = K0.length:=by rw [← ho,zcL]
 rw [ho]
 obtain ⟨n,hn⟩:∃ n,w.s.stacks.length = n:=⟨_,rfl⟩
 rw [hn] at h8 hvl
 rw [hn]
 have hrep:(zbh [AV.int .i64 0] n) = (List.replicate n (0:Int)).map (AV.int .i64):=zfK n
 simp only [zd3]
 refine cpz P28_ok Tryz.func43 zaA ?_
 rw [Tryz.ntmps43]
 simp only [Tryz.f43,zaj,zao]
 simp (maxSteps:=4000000) only [go_sem,AV.one,zae,zab,zac,zan,zaq,zaa,czb,cza,↓reduceIte,zaf,onz,hhv,hn]
 all_goals (repeat' first | (with_reducible first | rfl | apply And.intro | assumption) | ((with_reducible show zad _ _ = true); rfl)) <;> try first | omega | (simp only [InR]; omega)
 refine zqn [] [0,2,12,13] (fun b:Nat × List Int => [(14,.int .i64 b.1),(3,.sl (b.2.map EncE.cs) .no)]) (fun b m => m) (fun b => (b.1 ≤ hv.length ∧ b.2.length ≤ b.1 ∧ ∀ x ∈ b.2,zcO w.s x) ∧ zcH w.s.hands (spS w.s) (chS w.s) (hv.drop b.1) b.2 = K0) (fun b => hv.length - b.1) (((0,[]):Nat × List Int)) ?_ ?_ ?_
 ·exact ⟨⟨Nat.zero_le _,czf _,fun x hx => by cases hx⟩,by simpa using hK0'⟩
 ·simp [AV.bare,zal,zaF,zaI,zak,zas,zai,tokz1,lk,zaa,zcs,-List.map_map]
 ·rintro ⟨i,K⟩ ⟨⟨hi0,hKl,hKm⟩,hG⟩
  simp only at hi0 hKl hKm hG
  by_cases hi:i < hv.length
  ·have hx:=hvm _ (zaS hi)
   have hi':=czH.2 hi
   rw [zhS hi] at hG
   obtain ⟨x,hxe⟩:∃ x,at_ hv i = x:=⟨_,rfl⟩
   rw [hxe] at hx hG
   obtain ⟨k,rfl⟩:=czu hx.1
   have hk2:k < w.s.stacks.length:=by have:=hx.2; omega
   rw [show zcH w.s.hands (spS w.s) (chS w.s) ((k:Int) :: hv.drop (i + 1)) K = if chS w.s k = 0 then K else zcH w.s.hands (spS w.s) (chS w.s) (hv.drop (i + 1)) (if zir w.s.hands (spS w.s) (zaY (spS w.s) (K ++ [(k:Int)])) = true then K ++ [(k:Int)] else K) from rfl,zqQ] at hG
   have hKm2:∀ x ∈ K ++ [(k:Int)],zcO w.s x:=fun x hx' => by
    rcases czv.1 hx' with q | q
    ·exact hKm x q
    ·simp at q; rw [q]; exact hx
   have hKl8:(K ++ [(k:Int)]).length ≤ 8:=by simp; omega
   cases c1:decide ((at_ w.s.stacks k).chairs = 0)
   ·have c1':¬ (at_ w.s.stacks k).chairs = 0:=by simpa using c1
    rw [if_neg c1'] at hG
    cases c2:zir w.s.hands (spS w.s) (zaY (spS w.s) (K ++ [(k:Int)]))
    all_goals
     simp (maxSteps:=4000000) only [go_sem,AV.one,zae,zab,zac,zan,zaq,zaa,czb,cza,↓reduceIte,zaf,onz,hi',hn,zar hi,hxe,zar hk2,c1,c2]
     all_goals (repeat' first | (with_reducible first | rfl | apply And.intro | assumption) | ((with_reducible show zad _ _ = true); rfl)) <;> try first | omega | (simp only [InR]; omega)
    ·refine ⟨(i + 1,K),⟨⟨by dsimp only; omega,by dsimp only; omega,hKm⟩,?_⟩,by dsimp only; omega,zbj ?_⟩
     ·rw [c2] at hG; simpa using hG
     ·simp [AV.bare,zal,zaF,zaI,zak,zas,zai,tokz1,lk,zaa,zcs,-List.map_map]
    ·refine ⟨(i + 1,K ++ [(k:Int)]),⟨⟨by dsimp only; omega,by simp; omega,hKm2⟩,?_⟩,by dsimp only; omega,zbj ?_⟩
     ·rw [c2] at hG; simpa using hG
     ·simp [AV.bare,zal,zaF,zaI,zak,zas,zai,tokz1,lk,zaa,zcs,-List.map_map]
   ·have c1':(at_ w.s.stacks k).chairs = 0:=by simpa using c1
    rw [if_pos c1'] at hG
    simp (maxSteps:=4000000) only [go_sem,AV.one,zae,zab,zac,zan,zaq,zaa,czb,cza,↓reduceIte,zaf,onz,hi',hn,hrep,zar hi,hxe,zar hk2,c1]
    all_goals (repeat' first | (with_reducible first | rfl | apply And.intro | assumption) | ((with_reducible show zad _ _ = true); rfl)) <;> try first | omega | (simp only [InR]; omega)
    subst hG
    refine zbg (n) [] [0,2,3,7,46] (fun i => [(47,.int .i64 i)]) (fun i m => m.set 0 (.cells ((List.replicate i (-1) ++ List.replicate (n - i) 0).map (AV.int .i64)))) (fun _ => True) ?_ ?_ ?_ ?_
    ·trivial
    ·simp [AV.bare,zal,zaF,zaI,zak,zas,zai,tokz1,lk,zaa,zcs,hrep]
    ·intro i hi _
     have hi':=czH.2 hi
     have hll:=rep_len i n (by omega)
     have hov:=zeJ (l:=List.replicate i (-1) ++ List.replicate (n - i) 0) (i:=i) (by omega) (-1)
     have hst:=rep_set (n:=n) hi
     obtain ⟨L,hL⟩:∃ L,List.replicate i (-1) ++ List.replicate (n - i) (0:Int) = L:=⟨_,rfl⟩
     rw [hL] at hll hov hst
     rw [hL]
     obtain ⟨L2,hL2⟩:∃ L2,List.replicate (i + 1) (-1) ++ List.replicate (n - (i + 1)) (0:Int) = L2:=⟨_,rfl⟩
     rw [hL2] at hst
     simp (maxSteps:=4000000) only [go_sem,zae,zab,zac,zaq,zaa,czb,cza,↓reduceIte,zaf,onz,hi',hov,hst,hll,zfP]
     all_goals (repeat' first | (with_reducible first | rfl | apply And.intro | assumption) | ((with_reducible show zad _ _ = true); rfl)) <;> try first | omega | (simp only [InR]; omega)
     refine nxt hi trivial ?_
     rw [hL2]
     simp [AV.bare,zal,zaF,zaI,zak,zas,zai,tokz1,lk,zaa,zcs]
    ·intro _
     have hrn:List.replicate n (-1) ++ List.replicate (n - n) (0:Int) = zdE w.s.hands o n 0:=by simp [zdE]
     rw [hrn]
     have hpl:=zeG w.s.hands o n
     simp (maxSteps:=4000000) only [go_sem,AV.one,zae,zab,zac,zan,zaq,zaa,czb,cza,↓reduceIte,zaf,onz,czA,ho]
     all_goals (repeat' first | (with_reducible first | rfl | apply And.intro | assumption) | ((with_reducible show zad _ _ = true); rfl)) <;> try first | omega | (simp only [InR]; omega)
     refine zbg (o.length) [] [0,2,7,56,57] (fun k => [(58,.int .i64 k)]) (fun k m => m.set 0 (.cells ((zdE w.s.hands o n k).map (AV.int .i64)))) (fun _ => True) ?_ ?_ ?_ ?_
     ·trivial
     ·simp [AV.bare,zal,zaF,zaI,zak,zas,zai,tokz1,lk,zaa,zcs]
     ·intro j hj _
      have hj':=czH.2 hj
      have hpj:=hpl j
      have hx:=hom _ (zaS hj)
      have hH:1 ≤ w.s.hands:=hkh (fun e => by rw [e] at hol; simp at hol; rw [hol] at hj; simp at hj)
      have hq0:0 ≤ (j:Int) / w.s.hands:=Int.ediv_nonneg (by omega) (by omega)
      have hq1:(j:Int) / w.s.hands ≤ j:=Int.ediv_le_self _ (by omega)
      obtain ⟨x,hxe⟩:∃ x,at_ o j = x:=⟨_,rfl⟩
      rw [hxe] at hx
      obtain ⟨k2,rfl⟩:=czu hx.1
      have hk2:k2 < n:=by have:=hx.2; omega
      have hov:=zeJ (l:=zdE w.s.hands o n j) (i:=k2) (by omega) ((j:Int) / w.s.hands)
      have hsu:=zga w.s.hands o n j
      rw [hxe,czF] at hsu
      rw [← hsu] at hov
      simp (maxSteps:=4000000) only [go_sem,zae,zab,zac,zaq,zaa,czb,cza,↓reduceIte,zaf,onz,hj',hov,hpj,hxe,zar hj,zfP]
      all_goals (repeat' first | (with_reducible first | rfl | apply And.intro | assumption) | ((with_reducible show zad _ _ = true); rfl)) <;> try first | omega | (simp only [InR]; omega)
      refine nxt hj trivial ?_
      simp [AV.bare,zal,zaF,zaI,zak,zas,zai,tokz1,lk,zaa,zcs]
     ·intro _
      simp (maxSteps:=4000000) only [go_sem,AV.one,zae,zab,zac,zan,zaq,zaa,czb,cza,↓reduceIte,zaf,onz,czA,hpl,zeg]
      all_goals exact auz
  ·have hie:i = hv.length:=by omega
   have hKK:K = K0:=by rw [hie,List.drop_eq_nil_of_le (czf _)] at hG; exact hG
   have hi':¬ ((i:Int) < (hv.length:Int)):=by omega
   subst hKK
   simp (maxSteps:=4000000) only [go_sem,AV.one,zae,zab,zac,zan,zaq,zaa,czb,cza,↓reduceIte,zaf,onz,hi',hn,hrep]
   all_goals (repeat' first | (with_reducible first | rfl | apply And.intro | assumption) | ((with_reducible show zad _ _ = true); rfl)) <;> try first | omega | (simp only [InR]; omega)
   refine zbg (n) [] [0,2,3,7,46] (fun i => [(47,.int .i64 i)]) (fun i m => m.set 0 (.cells ((List.replicate i (-1) ++ List.replicate (n - i) 0).map (AV.int .i64)))) (fun _ => True) ?_ ?_ ?_ ?_
   ·trivial
   ·simp [AV.bare,zal,zaF,zaI,zak,zas,zai,tokz1,lk,zaa,zcs,hrep]
   ·intro i hi _
    have hi':=czH.2 hi
    have hll:=rep_len i n (by omega)
    have hov:=zeJ (l:=List.replicate i (-1) ++ List.replicate (n - i) 0) (i:=i) (by omega) (-1)
    have hst:=rep_set (n:=n) hi
    obtain ⟨L,hL⟩:∃ L,List.replicate i (-1) ++ List.replicate (n - i) (0:Int) = L:=⟨_,rfl⟩
    rw [hL] at hll hov hst
    rw [hL]
    obtain ⟨L2,hL2⟩:∃ L2,List.replicate (i + 1) (-1) ++ List.replicate (n - (i + 1)) (0:Int) = L2:=⟨_,rfl⟩
    rw [hL2] at hst
    simp (maxSteps:=4000000) only [go_sem,zae,zab,zac,zaq,zaa,czb,cza,↓reduceIte,zaf,onz,hi',hov,hst,hll,zfP]
    all_goals (repeat' first | (with_reducible first | rfl | apply And.intro | assumption) | ((with_reducible show zad _ _ = true); rfl)) <;> try first | omega | (simp only [InR]; omega)
    refine nxt hi trivial ?_
    rw [hL2]
    simp [AV.bare,zal,zaF,zaI,zak,zas,zai,tokz1,lk,zaa,zcs]
   ·intro _
    have hrn:List.replicate n (-1) ++ List.replicate (n - n) (0:Int) = zdE w.s.hands o n 0:=by simp [zdE]
    rw [hrn]
    have hpl:=zeG w.s.hands o n
    simp (maxSteps:=4000000) only [go_sem,AV.one,zae,zab,zac,zan,zaq,zaa,czb,cza,↓reduceIte,zaf,onz,czA,ho]
    all_goals (repeat' first | (with_reducible first | rfl | apply And.intro | assumption) | ((with_reducible show zad _ _ = true); rfl)) <;> try first | omega | (simp only [InR]; omega)
    refine zbg (o.length) [] [0,2,7,56,57] (fun k => [(58,.int .i64 k)]) (fun k m => m.set 0 (.cells ((zdE w.s.hands o n k).map (AV.int .i64)))) (fun _ => True) ?_ ?_ ?_ ?_
    ·trivial
    ·simp [AV.bare,zal,zaF,zaI,zak,zas,zai,tokz1,lk,zaa,zcs]
    ·intro j hj _
     have hj':=czH.2 hj
     have hpj:=hpl j
     have hx:=hom _ (zaS hj)
     have hH:1 ≤ w.s.hands:=hkh (fun e => by rw [e] at hol; simp at hol; rw [hol] at hj; simp at hj)
     have hq0:0 ≤ (j:Int) / w.s.hands:=Int.ediv_nonneg (by omega) (by omega)
     have hq1:(j:Int) / w.s.hands ≤ j:=Int.ediv_le_self _ (by omega)
     obtain ⟨x,hxe⟩:∃ x,at_ o j = x:=⟨_,rfl⟩
     rw [hxe] at hx
     obtain ⟨k2,rfl⟩:=czu hx.1
     have hk2:k2 < n:=by have:=hx.2; omega
     have hov:=zeJ (l:=zdE w.s.hands o n j) (i:=k2) (by omega) ((j:Int) / w.s.hands)
     have hsu:=zga w.s.hands o n j
     rw [hxe,czF] at hsu
     rw [← hsu] at hov
     simp (maxSteps:=4000000) only [go_sem,zae,zab,zac,zaq,zaa,czb,cza,↓reduceIte,zaf,onz,hj',hov,hpj,hxe,zar hj,zfP]
     all_goals (repeat' first | (with_reducible first | rfl | apply And.intro | assumption) | ((with_reducible show zad _ _ = true); rfl)) <;> try first | omega | (simp only [InR]; omega)
     refine nxt hj trivial ?_
     simp [AV.bare,zal,zaF,zaI,zak,zas,zai,tokz1,lk,zaa,zcs]
    ·intro _
     simp (maxSteps:=4000000) only [go_sem,AV.one,zae,zab,zac,zan,zaq,zaa,czb,cza,↓reduceIte,zaf,onz,czA,hpl,zeg]
     all_goals exact auz
def P29 (g:FuncId):=(zat 43 (zbN (fun w:WkS => ShOk w.s) (fun w => zhZ w.s)) (P28):zay) g
theorem P29_ok:zam Tryz.prog P29:=zah (zaN best_call) (P28_ok)
theorem zph (d:Option Nat):zaw P29 d = none:=(zag (by decide) d).trans (zpi d)
attribute [go_sem] P29 zph
theorem work_call (s:Sh):zaH Tryz.prog 42 [Enc.enc s] (· = Enc.enc (WkS.mk s [] [])):=by
 simp only [zd3]
 refine cpz P29_ok Tryz.func42 zaA ?_
 rw [Tryz.ntmps42]
 simp only [Tryz.f42,zaj,zao]
 simp (maxSteps:=4000000) only [go_sem,AV.one,zae,zab,zac,zan,zaq,zaa,czb,cza,↓reduceIte,zaf,onz]
def P30 (g:FuncId):=(zat 42 (zbN (fun _:Sh => True) (fun s => WkS.mk s [] [])) (P29):zay) g
theorem P30_ok:zam Tryz.prog P30:=zah (zaN fun s _ => work_call s) (P29_ok)
theorem zpg (d:Option Nat):zaw P30 d = none:=(zag (by decide) d).trans (zph d)
attribute [go_sem] P30 zpg
theorem decI_nil:decI [] = some []:=rfl
attribute [go_sem] decI_nil
theorem zot {H:Int} {o:List Int} {n:Nat} (hd:o.Nodup) (hr:∀ x ∈ o,0 ≤ x ∧ x < n):∀ m,m ≤ o.length → ∀ i:Nat,i < n →
  (∀ k,k < m → at_ o k = (i:Int) → at_ (zdE H o n m) i = (k:Int) / H) ∧ ((∀ k,k < m → at_ o k ≠ (i:Int)) → at_ (zdE H o n m) i = -1)
 | 0,_,i,hi => by
  refine ⟨fun k hk => by omega,fun _ => ?_⟩
  simp [zdE,at_,List.getD,hi]
 | m + 1,hm,i,hi => by
  obtain ⟨h1,h2⟩:=zot hd hr m (by omega) i hi
  have hx:=hr _ (zaS (show m < o.length by omega))
  have hl:=zeG H o n m
  rw [zga]
  by_cases c:at_ o m = (i:Int)
  ·have e:(at_ o m).toNat = i:=by omega
   rw [e]
   have hv:at_ ((zdE H o n m).set i ((m:Int) / H)) i = (m:Int) / H:=by simp [at_,List.getD,hl,hi]
   rw [hv]
   refine ⟨fun k hk hk2 => ?_,fun h => absurd c (h m (by omega))⟩
   have hkl:k < o.length:=by omega
   rw [zcW hkl] at hk2
   rw [zcW (show m < o.length by omega)] at c
   by_cases e:k = m
   ·rw [e]
   ·exact absurd (hk2.trans c.symm) (List.pairwise_iff_getElem.1 hd k m hkl (show m < o.length by omega) (by omega))
  ·have e:(at_ o m).toNat ≠ i:=by omega
   have hv:∀ v,at_ ((zdE H o n m).set (at_ o m).toNat v) i = at_ (zdE H o n m) i:=fun v => zh5 e v
   rw [hv]
   refine ⟨fun k hk hk2 => h1 k ?_ hk2,fun h => h2 fun k hk => h k (by omega)⟩
   have:k ≠ m:=fun e => c (e ▸ hk2)
   omega
theorem zoS (s:Sh):(zhZ s).length = s.stacks.length:=zeG _ _ _ _
theorem best_at {s:Sh} (h:ShOk s) {i:Nat} (hi:i < s.stacks.length):(zeb (zc0 s) i = true → 0 ≤ at_ (zhZ s) i ∧ at_ (zhZ s) i < spS s i) ∧ (zeb (zc0 s) i = false → at_ (zhZ s) i = -1):=by
 obtain ⟨k1,k2,k3,_⟩:=zdR h
 have hH:=ziU h
 have hfit:=(zlc (n:=s.stacks.length) (sp:=spS s) h.h0 k1 k2 (fun x hx => (h.nat (k2 x hx)).1)).2 k3
 have hmem:=zdi (spS s) (zc0 s)
 have hnd:=zfq (key:=spS s) k1
 have hol:=zcL (spS s) (zc0 s)
 unfold zhZ
 obtain ⟨o,ho⟩:∃ o,zaY (spS s) (zc0 s) = o:=⟨_,rfl⟩
 rw [ho] at hfit hmem hnd hol
 rw [ho]
 obtain ⟨p1,p2⟩:=zot (H:=s.hands) hnd (fun x hx => k2 x ((hmem x).1 hx)) o.length (czf _) i hi
 constructor
 ·intro hm
  obtain ⟨k,hk,hk2⟩:=zoz ((hmem _).2 ((zea _ _).1 hm))
  have hne:zc0 s ≠ []:=fun e => by rw [e] at hol; simp at hol; rw [hol] at hk; simp at hk
  have hH1:=hH hne
  rw [p1 k hk hk2]
  unfold zir at hfit
  simp only [czG,List.mem_range,czl,decide_eq_true_eq] at hfit
  have:=(hfit k hk).2
  rw [hk2] at this
  exact ⟨Int.ediv_nonneg (by omega) (by omega),this⟩
 ·intro hm
  refine p2 fun k hk hk2 => ?_
  have:(i:Int) ∈ zc0 s:=(hmem _).1 (hk2 ▸ zaS hk)
  rw [(zea _ _).2 this] at hm
  cases hm
theorem sure_best {s:Sh} (h:ShOk s):sureS s (zhZ s) = zeq s:=by
 unfold sureS zeq zdf
 rw [zoS]
 refine ziv (fun i hi => ?_) fun _ _ _ => rfl
 obtain ⟨h1,h2⟩:=best_at h hi
 cases c:zeb (zc0 s) i
 ·rw [h2 c]; rfl
 ·obtain ⟨a,b⟩:=h1 c
  simp [zgm]
  omega
def zqV (s:Sh):Tri (List Int) Int Int:=if zdt s ≠ 0 then ⟨[],0,zdt s⟩ else ⟨zhZ s,zeq s,0⟩
theorem Best_call (s:Sh) (h:s.stacks.length ≤ 4096):zaH Tryz.prog 22 [Enc.enc s] (· = Enc.enc (zqV s)):=by
 unfold zqV
 cases c0:decide (zdt s = 0)
 ·rw [if_pos (by simpa using c0)]
  simp only [zd3]
  refine cpz P30_ok Tryz.func22 zaA ?_
  rw [Tryz.ntmps22]
  simp only [Tryz.f22,zaj,zao]
  simp (maxSteps:=4000000) only [go_sem,AV.one,zae,zab,zac,zan,zaq,zaa,czb,cza,↓reduceIte,zaf,onz,c0]
  all_goals exact auz
 have hf:zdt s = 0:=by simpa using c0
 have hs:=zoH hf
 have hb:=sure_best hs
 have hbl:=zoS s
 rw [if_neg (by simpa using c0)]
 simp only [zd3]
 refine cpz P30_ok Tryz.func22 zaA ?_
 rw [Tryz.ntmps22]
 simp only [Tryz.f22,zaj,zao]
 simp (maxSteps:=4000000) only [go_sem,AV.one,zae,zab,zac,zan,zaq,zaa,czb,cza,↓reduceIte,zaf,onz,c0,hb,hbl]
 all_goals exact auz
def P31 (g:FuncId):=(zat 22 (zbN (fun s:Sh => s.stacks.length ≤ 4096) zqV) (P30):zay) g
theorem P31_ok:zam Tryz.prog P31:=zah (zaN Best_call) (P30_ok)
theorem zpf (d:Option Nat):zaw P31 d = none:=(zag (by decide) d).trans (zpg d)
attribute [go_sem] P31 zpf
theorem zaE (m r:List AObj) (k:Nat):zaa (m ++ r) (m.length + k) = zaa r k:=by
 simp [zaa,List.getD,czj]
theorem zb8 (m r:List AObj) (k:Nat) (o:AObj):(m ++ r).set (m.length + k) o = m ++ r.set k o:=by
 simp
theorem zff {k k':Nat} (hk:k ≤ k'):∀ (n:Nat) (v:AV),bel k n v → bel k' n v
 | 0,v,h => by simp [bel] at h
 | n + 1,v,h => by
  have ih:∀ c,bel k n c → bel k' n c:=fun c hc => zff hk n c hc
  cases v <;> simp only [bel] at h ⊢
  ·exact fun c hc => ih c (h c hc)
  ·exact fun c hc => ih c (h c hc)
  ·refine ⟨fun e he c hc => ih c (h.1 e he c hc),?_⟩
   have:=h.2
   split <;> simp_all <;> omega
  ·exact fun c hc => ih c (h c hc)
  ·omega
  ·omega
  ·exact ⟨fun c hc => ih c (h.1 c hc),fun c hc => ih c (h.2 c hc)⟩
  ·exact fun c hc => ih c (h c hc)
  ·omega
  ·omega
  ·exact ih _ h
  ·omega
  ·omega
theorem zcQ {k k':Nat} (hk:k ≤ k') (o:AObj) (h:zcK k o):zcK k' o:=by
 cases o <;> simp only [zcK] at h ⊢
 ·exact fun c hc => zff hk 9 c (h c hc)
 ·exact fun c hc => zff hk 9 _ (h c hc)
 ·exact fun c hc => zff hk 9 c (h c hc)
 ·exact zff hk 9 _ h
 ·exact fun e he c hc => zff hk 9 c (h e he c hc)
def xW (r:Rg):List AObj:=[.cells [.int .i64 r.lo,.int .i64 r.hi]]
structure IterW {σ:Type} (M:σ → List AObj) (m0 l:Nat) (s:Sh) (i:Nat) (next:σ → Int → σ):Prop where
 len:∀ a,(M a).length = m0
 lt:l < m0
 ok:∀ a,∀ o ∈ M a,zcK m0 o
 yield:∀ a w,zjd Tryz.prog l [.int .i64 w] (M a ++ xW (at_ s.stacks i).leak) (fun r mem' => r = .bool true ∧ mem' = M (next a w) ++ xW (at_ s.stacks i).leak)
structure IterV where
 s:Sh
 i:Int
instance:Enc IterV where
 enc x:=.fn (.func 9999999) [] [.ref (shC x.s) 0,.ref [.int .i64 x.i] 0]
 dec _:=none
 law v x h:=by cases h
 dep:=4
 ok x:=by
  simp only [za8,shC,czn,czk,or_false,forall_eq_or_imp,forall_eq,true_and,czx,forall_exists_index,and_imp,forall_apply_eq_imp_iff₂]
  exact ⟨fun _ h => h.elim,⟨fun a _ => EncE.ok a,trivial⟩,trivial⟩
def P32:zay:=P31
theorem P32_app (g:FuncId):P32 g = (P31) g:=rfl
theorem P32_ok:zam Tryz.prog P32:=P31_ok
attribute [go_sem] P32_app
theorem zpe (d:Option Nat):zaw P32 d = none:=zpf d
attribute [go_sem] zpe
section
variable (a b c d e f g:AObj) (r:List AObj)
theorem mA0:zaa (a :: r) 0 = a:=rfl
theorem mA1:zaa (a :: b :: r) 1 = b:=rfl
theorem mA2:zaa (a :: b :: c :: r) 2 = c:=rfl
theorem mA3:zaa (a :: b :: c :: d :: r) 3 = d:=rfl
theorem mA4:zaa (a :: b :: c :: d :: e :: r) 4 = e:=rfl
theorem mA5:zaa (a :: b :: c :: d :: e :: f :: r) 5 = f:=rfl
theorem mA6:zaa (a :: b :: c :: d :: e :: f :: g :: r) 6 = g:=rfl
end
attribute [go_sem] mA0 mA1 mA2 mA3 mA4 mA5 mA6
theorem zfk {m r:List AObj} {n0 k:Nat} (h:∀ o ∈ m,zcK n0 o) (hk:n0 ≤ k) (hr:zaI k r):∀ o ∈ m ++ r,zcK k o:=fun o ho => by
 rcases czv.1 ho with q | q
 ·exact zcQ hk o (h o q)
 ·exact zc7 hr o q
/-! A loop whose rounds leave objects and deferred blocks behind. -/
structure JOk (k:Nat) (J:List AObj × List Nat):Prop where
 ok:∀ o ∈ J.1,zcK (k + J.1.length) o
 lt:∀ m ∈ J.2,k ≤ m ∧ m < k + J.1.length
 df:∀ m ∈ J.2,zaa J.1 (m - k) = .deferred
 nd:J.2.Nodup
theorem zaB {m r:List AObj} {k:Nat} (h:k < m.length):zaa (m ++ r) k = zaa m k:=by
 simp [zaa,List.getD,czi h]
theorem JOk.push {k:Nat} {J:List AObj} {mk:List Nat} (h:JOk k (J,mk)) (os:List AObj) (hos:∀ o ∈ os,zcK (k + J.length + os.length) o) (p:Nat) (hp:p < os.length) (hd:zaa os p = .deferred):JOk k (J ++ os,(k + J.length + p) :: mk):=by
 obtain ⟨h1,h2,h3,h4⟩:=h
 simp only at h1 h2 h3 h4
 refine ⟨fun o ho => ?_,fun m hm => ?_,fun m hm => ?_,?_⟩
 ·rw [czc,← Nat.add_assoc]
  rcases czv.1 ho with q | q
  ·exact zcQ (by omega) o (h1 o q)
  ·exact hos o q
 ·rw [czc]
  rcases czn.1 hm with q | q
  ·omega
  ·have:=h2 m q; omega
 ·rcases czn.1 hm with q | q
  ·subst q
   have e:k + J.length + p - k = J.length + p:=by omega
   rw [e,zaE]; exact hd
  ·have:=h2 m q
   rw [zaB (by omega)]; exact h3 m q
 ·refine List.nodup_cons.2 ⟨fun q => ?_,h4⟩
  have:=h2 _ q
  omega
def P33:zay:=P32
theorem P33_app (g:FuncId):P33 g = (P32) g:=rfl
theorem P33_ok:zam Tryz.prog P33:=P32_ok
attribute [go_sem] P33_app
theorem zpd (d:Option Nat):zaw P33 d = none:=zpe d
attribute [go_sem] zpd
def zqj:List Int → Int
 | [] => 0
 | x :: l => l.foldl min x
theorem minL_snoc (l:List Int) (x:Int) (h:l ≠ []):zqj (l ++ [x]) = min (zqj l) x:=by
 cases l with
 | nil => exact absurd rfl h
 | cons y r => simp [zqj,List.foldl_append]
theorem minL_take {l:List Int} {i:Nat} (h:i + 1 < l.length):zqj (l.take (i + 1 + 1)) = min (zqj (l.take (i + 1))) (at_ l (i + 1)):=by
 rw [zaM h,minL_snoc]
 intro e
 have:(l.take (i + 1)).length = 0:=by rw [e]; rfl
 rw [czO] at this
 omega
theorem Min_call (l:List Int) (h:l ≠ [] ∧ l.length ≤ 4096):zaH Tryz.prog 80 [Enc.enc l] (· = Enc.enc (zqj l)):=by
 have hl:0 < l.length:=List.length_pos_iff.2 h.1
 have h2:=h.2
 simp only [zd3]
 refine cpz P33_ok Tryz.func80 zaA ?_
 rw [Tryz.ntmps80]
 simp only [Tryz.f80,zaj,zao]
 simp (maxSteps:=4000000) only [go_sem,AV.one,zae,zab,zac,zan,zaq,zaa,czb,cza,↓reduceIte,zaf,onz,zar hl,show ¬ ((l.length:Int) < 1) by omega,show (0:Int) < l.length by omega]
 refine zbg (l.length - 1) [] [0,2] (fun i => [(4,.int .i64 ((i + 1:Nat):Int)),(3,.int .i64 (zqj (l.take (i + 1))))]) (fun _ m => m) (fun _ => True) ?_ ?_ ?_ ?_
 ·trivial
 ·cases l with
  | nil => simp at hl
  | cons x l => simp [AV.bare,zal,zaF,zaI,zak,zas,zai,tokz1,lk,zaa,zcs,zqj,at_]
 ·intro i hi _
  have hi2:i + 1 < l.length:=by omega
  simp (maxSteps:=4000000) only [go_sem,AV.one,zae,zab,zac,zan,zaq,zaa,czb,cza,↓reduceIte,zaf,onz,zar hi2,czH.2 hi2]
  all_goals (repeat' first | (with_reducible first | rfl | apply And.intro | assumption) | ((with_reducible show zad _ _ = true); rfl)) <;> try first | omega | (simp only [InR]; omega)
  refine nxt hi trivial ?_
  have:=minL_take hi2
  simp [AV.bare,zal,zaF,zaI,zak,zas,zai,tokz1,lk,zaa,zcs,this]
 ·intro _
  have hn:¬ (((l.length - 1 + 1:Nat):Int) < l.length):=by omega
  simp (maxSteps:=4000000) only [go_sem,AV.one,zae,zab,zac,zan,zaq,zaa,czb,cza,↓reduceIte,zaf,onz,hn]
  rw [cze (by omega)]
def P34 (g:FuncId):=(zat 80 (zbN (fun l:List Int => l ≠ [] ∧ l.length ≤ 4096) zqj) (P33):zay) g
theorem P34_ok:zam Tryz.prog P34:=zah (zaN Min_call) (P33_ok)
theorem zpc (d:Option Nat):zaw P34 d = none:=(zag (by decide) d).trans (zpd d)
attribute [go_sem] P34 zpc
def P3401:zay:=zif [7] P34
theorem P3401_app (g:FuncId) (h:¬ (g = 4000000000)):P3401 g = P34 g:=by unfold P3401 zif; rw [if_neg h]
theorem zq8 (d:Nat):zaw P3401 (some d) = if d ∈ ([7]:List Nat) then some d else none:=zbK _ _ d
attribute [go_sem] P3401_app zq8
def P35:zay:=P34
theorem P35_app (g:FuncId):P35 g = (P34) g:=rfl
theorem P35_ok:zam Tryz.prog P35:=P34_ok
attribute [go_sem] P35_app
theorem zpb (d:Option Nat):zaw P35 d = none:=zpc d
attribute [go_sem] zpb
def P36:zay:=P35
theorem P36_app (g:FuncId):P36 g = (P35) g:=rfl
theorem P36_ok:zam Tryz.prog P36:=P35_ok
attribute [go_sem] P36_app
theorem zpa (d:Option Nat):zaw P36 d = none:=zpb d
attribute [go_sem] zpa
set_option maxRecDepth 1000000
def P37:zay:=P36
theorem P37_app (g:FuncId):P37 g = (P36) g:=rfl
theorem P37_ok:zam Tryz.prog P37:=P36_ok
attribute [go_sem] P37_app
theorem zo9 (d:Option Nat):zaw P37 d = none:=zpa d
attribute [go_sem] zo9
def P38:zay:=P37
theorem P38_app (g:FuncId):P38 g = (P37) g:=rfl
theorem P38_ok:zam Tryz.prog P38:=P37_ok
attribute [go_sem] P38_app
theorem zo8 (d:Option Nat):zaw P38 d = none:=zo9 d
attribute [go_sem] zo8
section
variable {mem:List AObj} {v s:Nat}
theorem zbm (hv:v < mem.length) (o:AObj):zaa (mem.set v o) v = o:=by simp [zaa,List.getD,hv]
theorem ziQ {o:AObj} (h:zaa mem v = o) (ho:o ≠ .dead):v < mem.length:=by
 by_cases c:v < mem.length
 ·exact c
 ·exact absurd (by rw [← h]; simp [zaa,List.getD,czB (czE c)]) ho
end
end Go.Proofs
