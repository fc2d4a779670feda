/- The texts H4, H5, H6, HU, HX, joined. -/
import Derived.Test.YtilbconikmpadaaGreatG12
set_option linter.all false
namespace Go.Proofs
open Go.Fs
set_option maxHeartbeats 4000000
set_option maxRecDepth 8000
theorem zly (y:Yd) (h:y.t.heights.length ≤ 4096 ∧ y.order.length ≤ 4096):zaQ Tryz.prog 26 [Enc.enc y] (· = Enc.enc (za9 y)):=by
 have h1:=h.1
 have h2:=h.2
 unfold za9
 by_cases a1:5 < y.chairs.length
 ·rw [if_pos (.inl a1)]
  simp only [zbz]
  refine cpz zf0 Tryz.func26 zaD ?_
  rw [Tryz.ntmps26]
  simp only [Tryz.f26,zag,zap]
  iterate 2 (
   refine zar fun Q1 h1 => ?_
   simp (maxSteps:=4000000) only [go_sem,zae,zac,zad,zaq,zas,zab,czb,cza,↓reduceIte,zaa,onz]
   all_goals (repeat' first | (with_reducible first | rfl | apply And.intro | assumption) | ((with_reducible show zaf _ _ = true); rfl)) <;> try first | omega | (simp only [InR]; omega)
   rw [h1]; clear h1 Q1; simp only [zaE,zam])
  simp (maxSteps:=4000000) only [go_sem,zae,zac,zad,zaq,zas,zab,czb,cza,↓reduceIte,zaa,onz,show ((5:Int) < y.chairs.length) by omega]
 by_cases a2:5 < y.hires.length
 ·rw [if_pos (.inr a2)]
  simp only [zbz]
  refine cpz zf0 Tryz.func26 zaD ?_
  rw [Tryz.ntmps26]
  simp only [Tryz.f26,zag,zap]
  iterate 2 (
   refine zar fun Q1 h1 => ?_
   simp (maxSteps:=4000000) only [go_sem,zae,zac,zad,zaq,zas,zab,czb,cza,↓reduceIte,zaa,onz]
   all_goals (repeat' first | (with_reducible first | rfl | apply And.intro | assumption) | ((with_reducible show zaf _ _ = true); rfl)) <;> try first | omega | (simp only [InR]; omega)
   rw [h1]; clear h1 Q1; simp only [zaE,zam])
  simp (maxSteps:=4000000) only [go_sem,zae,zac,zad,zaq,zas,zab,czb,cza,↓reduceIte,zaa,onz,show ¬ ((5:Int) < y.chairs.length) by omega,show ((5:Int) < y.hires.length) by omega]
 rw [if_neg (show ¬ (5 < y.chairs.length ∨ 5 < y.hires.length) by omega)]
 have a1':¬ ((5:Int) < y.chairs.length):=by omega
 have a2':¬ ((5:Int) < y.hires.length):=by omega
 have hch:y.chairs.length ≤ 4096:=by omega
 have hhi:y.hires.length ≤ 4096:=by omega
 by_cases c:zc0 y.t true = 0
 case neg =>
  have hb:bndQ y.t = ([],zc0 y.t true):=by unfold bndQ; rw [if_neg c]
  have e:(if zbp y.t ≠ 0 then zbp y.t else if zaJ y.t = [] then 11 else if (inB y.hands 0 5 && zaG y.chairs.length y.order) = false then 1 else if y.chairs.all (zdk y.t) = false then 1 else if y.hires.all (zeY y.chairs.length y.t.last) = false then 1 else 0) = zc0 y.t true:=by
   by_cases f0:zbp y.t = 0
   ·rw [if_neg (by simp [f0])]
    by_cases t0:zaJ y.t = []
    ·rw [if_pos t0,zwc f0 t0]
    ·exact absurd (askErr_ok f0 t0) c
   ·rw [if_pos f0,zwd _ f0]
  rw [e]
  obtain ⟨x,hx⟩:∃ x,zc0 y.t true = x:=⟨_,rfl⟩
  rw [hx] at hb c ⊢
  simp only [zbz]
  refine cpz zf0 Tryz.func26 zaD ?_
  rw [Tryz.ntmps26]
  simp only [Tryz.f26,zag,zap]
  iterate 2 (
   refine zar fun Q1 h1 => ?_
   simp (maxSteps:=4000000) only [go_sem,zae,zac,zad,zaq,zas,zab,czb,cza,↓reduceIte,zaa,onz]
   all_goals (repeat' first | (with_reducible first | rfl | apply And.intro | assumption) | ((with_reducible show zaf _ _ = true); rfl)) <;> try first | omega | (simp only [InR]; omega)
   rw [h1]; clear h1 Q1; simp only [zaE,zam])
  iterate 2 (
   refine zar fun Q1 h1 => ?_
   simp (maxSteps:=4000000) only [go_sem,zae,zac,zad,zaq,zas,zab,czb,cza,↓reduceIte,zaa,onz,a1',a2',hb,c]
   all_goals (repeat' first | (with_reducible first | rfl | apply And.intro | assumption) | ((with_reducible show zaf _ _ = true); rfl)) <;> try first | omega | (simp only [InR]; omega)
   rw [h1]; clear h1 Q1; simp only [zaE,zam])
  simp (maxSteps:=4000000) only [go_sem,zae,zac,zad,zaq,zas,zab,czb,cza,↓reduceIte,zaa,onz,hb,c,decide_true,decide_false]
  all_goals exact auz
 obtain ⟨f0,_,t0⟩:=zk1 c
 obtain ⟨bl,hb⟩:∃ bl,bndQ y.t = (bl,0):=⟨_,by unfold bndQ; rw [if_pos c]⟩
 rw [if_neg (by simp [f0]),if_neg t0]
 have hlv:y.t.levels.length ≤ 4096:=by have:=(zcR f0).lv; omega
 cases b1:inB y.hands 0 5
 ·rw [Bool.false_and,if_pos rfl]
  simp only [zbz]
  refine cpz zf0 Tryz.func26 zaD ?_
  rw [Tryz.ntmps26]
  simp only [Tryz.f26,zag,zap]
  iterate 3 (
   refine zar fun Q1 h1 => ?_
   simp (maxSteps:=4000000) only [go_sem,zae,zac,zad,zaq,zas,zab,czb,cza,↓reduceIte,zaa,onz,a1',a2',hb]
   all_goals (repeat' first | (with_reducible first | rfl | apply And.intro | assumption) | ((with_reducible show zaf _ _ = true); rfl)) <;> try first | omega | (simp only [InR]; omega)
   rw [h1]; clear h1 Q1; simp only [zaE,zam])
  simp (maxSteps:=4000000) only [go_sem,zae,zac,zad,zaq,zas,zab,czb,cza,↓reduceIte,zaa,onz,hb,b1]
  all_goals exact auz
 rw [Bool.true_and]
 cases b2:y.chairs.all (zdk y.t)
 ·have e:(if zaG y.chairs.length y.order = false then (1:Int) else if false = false then 1 else if y.hires.all (zeY y.chairs.length y.t.last) = false then 1 else 0) = 1:=by split <;> rfl
  rw [e]
  simp only [zbz]
  refine cpz zf0 Tryz.func26 zaD ?_
  rw [Tryz.ntmps26]
  simp only [Tryz.f26,zag,zap]
  iterate 3 (
   refine zar fun Q1 h1 => ?_
   simp (maxSteps:=4000000) only [go_sem,zae,zac,zad,zaq,zas,zab,czb,cza,↓reduceIte,zaa,onz,a1',a2',hb]
   all_goals (repeat' first | (with_reducible first | rfl | apply And.intro | assumption) | ((with_reducible show zaf _ _ = true); rfl)) <;> try first | omega | (simp only [InR]; omega)
   rw [h1]; clear h1 Q1; simp only [zaE,zam])
  simp (maxSteps:=4000000) only [go_sem,zae,zac,zad,zaq,zas,zab,czb,cza,↓reduceIte,zaa,onz,hb,b1,b2]
  all_goals exact auz
 cases b3:zaG y.chairs.length y.order
 ·rw [if_pos rfl]
  simp only [zbz]
  refine cpz zf0 Tryz.func26 zaD ?_
  rw [Tryz.ntmps26]
  simp only [Tryz.f26,zag,zap]
  iterate 3 (
   refine zar fun Q1 h1 => ?_
   simp (maxSteps:=4000000) only [go_sem,zae,zac,zad,zaq,zas,zab,czb,cza,↓reduceIte,zaa,onz,a1',a2',hb]
   all_goals (repeat' first | (with_reducible first | rfl | apply And.intro | assumption) | ((with_reducible show zaf _ _ = true); rfl)) <;> try first | omega | (simp only [InR]; omega)
   rw [h1]; clear h1 Q1; simp only [zaE,zam])
  simp (maxSteps:=4000000) only [go_sem,zae,zac,zad,zaq,zas,zab,czb,cza,↓reduceIte,zaa,onz,hb,b1,b2,b3]
  all_goals exact auz
 cases b4:y.hires.all (zeY y.chairs.length y.t.last)
 all_goals
  simp only [Bool.true_eq_false,if_false,if_true]
  simp only [zbz]
  refine cpz zf0 Tryz.func26 zaD ?_
  rw [Tryz.ntmps26]
  simp only [Tryz.f26,zag,zap]
  iterate 3 (
   refine zar fun Q1 h1 => ?_
   simp (maxSteps:=4000000) only [go_sem,zae,zac,zad,zaq,zas,zab,czb,cza,↓reduceIte,zaa,onz,a1',a2',hb]
   all_goals (repeat' first | (with_reducible first | rfl | apply And.intro | assumption) | ((with_reducible show zaf _ _ = true); rfl)) <;> try first | omega | (simp only [InR]; omega)
   rw [h1]; clear h1 Q1; simp only [zaE,zam])
  simp (maxSteps:=4000000) only [go_sem,zae,zac,zad,zaq,zas,zab,czb,cza,↓reduceIte,zaa,onz,hb,b1,b2,b3,b4]
  all_goals (repeat' first | (with_reducible first | rfl | apply And.intro | assumption) | ((with_reducible show zaf _ _ = true); rfl)) <;> try first | omega | (simp only [InR]; omega)
def zhZ (y:Yd) (s:Sea) (order:List Int):List Sy:=(List.range y.chairs.length).map fun c:Nat => zfE y s ⟨c,zb1 y order c⟩
def znN:List AV:=[.int .i64 0,.int .i64 0,.sl [] .full]
theorem zhS (z:List AV):∀ n,zcb z n = (List.replicate n z).flatten
 | 0 => rfl
 | n + 1 => by rw [zcb,zhS z n]; rfl
def zgI (L:List Sy) (i:Nat):List AV:=((L.take i).map EncE.cs).flatten ++ (List.replicate (L.length - i) znN).flatten
theorem zoV (l:List Sy):((l.map EncE.cs).flatten).length = l.length * 3:=by
 induction l with
 | nil => rfl
 | cons x l ih => simp only [czb,List.flatten_cons,czc,ih,cza]; rw [cs_sy]; simp; omega
theorem rep_len3 (n:Nat):((List.replicate n znN).flatten).length = n * 3:=by
 induction n with
 | zero => rfl
 | succ n ih => simp only [List.replicate_succ,List.flatten_cons,czc,ih]; show 3 + n * 3 = _; omega
theorem zvW (L:List Sy) {i:Nat} (h:i ≤ L.length):(zgI L i).length = L.length * 3:=by
 unfold zgI
 rw [czc,zoV,rep_len3,czO]
 have:min i L.length = i:=by omega
 rw [this]; omega
theorem zr0 (L:List Sy) {i:Nat} (h:i < L.length):zaq (zgI L i) (i * 3) (EncE.cs (at_ L i)) = zgI L (i + 1):=by
 unfold zgI
 have e1:L.length - i = (L.length - (i + 1)) + 1:=by omega
 have e2:i * 3 = (((L.take i).map EncE.cs).flatten).length:=by rw [zoV,czO]; congr 1; omega
 rw [e1,List.replicate_succ,List.flatten_cons,e2,over_at (by rw [cs_sy]; rfl),zaW h,List.map_append,List.flatten_append]
 simp
theorem zvX (L:List Sy) (i k:Nat):(∀ c ∈ zgI L i,bel k 9 c) = True:=by
 refine eq_true fun c hc => ?_
 unfold zgI at hc
 rcases czv.1 hc with h | h
 ·obtain ⟨e,he,hce⟩:=List.mem_flatten.1 h
  obtain ⟨x,_,rfl⟩:=czx.1 he
  exact zcO _ _ _ (EncE.ok x c hce) (by rw [zts]; omega)
 ·obtain ⟨e,he,hce⟩:=List.mem_flatten.1 h
  rw [(czL.1 he).2] at hce
  simp only [znN,czn,czk,or_false] at hce
  rcases hce with rfl | rfl | rfl <;> simp [bel]
theorem zmm (L:List Sy):zgI L L.length = (L.map EncE.cs).flatten:=by unfold zgI; simp
structure YS (y:Yd) (s:Sea):Prop where
 vy:VY y
 rl:s.rows.length = y.t.levels.length
theorem YS.pre {y:Yd} {s:Sea} (h:YS y s) {c b:Int} (h0:0 ≤ c) (h1:c < y.chairs.length):((0 ≤ y.t.last ∧ y.t.last ≤ 9) ∧ 0 ≤ c ∧ c < y.chairs.length) ∧ (0 ≤ (at_ y.chairs c.toNat).row ∧ (at_ y.chairs c.toNat).row < s.rows.length) ∧ (0 ≤ (at_ y.chairs c.toNat).hours ∧ (at_ y.chairs c.toNat).hours ≤ 5) ∧ 1 ≤ (at_ y.chairs c.toNat).rot ∧ (at_ y.chairs c.toNat).rot ≤ 9:=by
 obtain ⟨g1,g2,g3,g4⟩:=h.vy.at h0 h1
 have:=h.rl
 exact ⟨⟨h.vy.l0,h0,h1⟩,⟨g2.1,by omega⟩,g3,g4⟩
theorem play_call (y:Yd) (s:Sea) (order:List Int) (h:YS y s ∧ order.length ≤ 4096):zaQ Tryz.prog 75 [Enc.enc y,Enc.enc s,Enc.enc order] (· = Enc.enc (zhZ y s order)):=by
 obtain ⟨hy,ho⟩:=h
 have hl:=hy.vy.l0
 have hh0:=hy.vy.h0
 have hh5:=hy.vy.h5
 have hc5:=hy.vy.c5
 obtain ⟨L,hL⟩:∃ L,zhZ y s order = L:=⟨_,rfl⟩
 have hLl:L.length = y.chairs.length:=by rw [← hL]; simp [zhZ]
 have hLa:∀ i,i < y.chairs.length → at_ L i = zfE y s ⟨(i:Int),zb1 y order i⟩:=fun i hi => by rw [← hL]; unfold zhZ; rw [zg6 _ hi]
 rw [hL]
 obtain ⟨n,hn⟩:∃ n,y.chairs.length = n:=⟨_,rfl⟩
 rw [hn] at hLl hLa hc5
 obtain ⟨C,hC⟩:∃ C,zgI L = C:=⟨_,rfl⟩
 have hCl:∀ i,i ≤ n → (C i).length = n * 3:=fun i hi => by rw [← hC,zvW L (by omega),hLl]
 have hCb:∀ i k,(∀ c ∈ C i,bel k 9 c) = True:=fun i k => by rw [← hC]; exact zvX L i k
 have hC0:zcb znN n = C 0:=by rw [← hC,zhS]; unfold zgI; simp [hLl]
 have hCs:∀ i,i < n → zaq (C i) (i * 3) [.int .i64 (at_ L i).wet,.int .i64 (at_ L i).rot,.sl ((at_ L i).free.map EncE.cs) .no] = C (i + 1):=fun i hi => by rw [← hC]; exact zr0 L (by omega)
 have hCn:∀ M,(C n).map (zbV (zb3 8 M) M) = C n:=fun M => by rw [← hC,← hLl,zmm]; exact zuQ (by rw [zts]; omega) L
 have hCc:zc4 3 n (C n) = L.map EncE.cs:=by
  rw [← hC,← hLl,zmm]
  have:=zjf (sz:=3) (L.map EncE.cs) (fun e he => by obtain ⟨x,_,rfl⟩:=czx.1 he; rfl)
  rwa [czz] at this
 unfold znN at hC0
 simp only [zbz]
 refine cpz zf0 Tryz.func75 zaD ?_
 rw [Tryz.ntmps75]
 simp only [Tryz.f75,zag,zap]
 iterate 3 (
  refine zar fun Q1 h1 => ?_
  simp (maxSteps:=4000000) only [go_sem,zae,zac,zad,zaq,zas,zab,czb,cza,↓reduceIte,zaa,onz,hn,hC0]
  all_goals (repeat' first | (with_reducible first | rfl | apply And.intro | assumption) | ((with_reducible show zaf _ _ = true); rfl)) <;> try first | omega | (simp only [InR]; omega)
  rw [h1]; clear h1 Q1; simp only [zaE,zam])
 simp (maxSteps:=4000000) only [go_sem,zae,zac,zad,zaq,zas,zab,czb,cza,↓reduceIte,zaa,onz,hn]
 refine zbv (n) [] [2,3,4,6,7,14] (fun i => [(15,.int .i64 i)]) (fun i m => m.set 2 (.cells (C i))) (fun _ => True) ?_ ?_ ?_ ?_
 ·trivial
 ·simp [AV.bare,zal,zaN,zaS,zak,zat,zah,tokz1,lk,zab,za2,hCb]
 ·intro i hi _
  have hi':=czH.2 hi
  have hp:=hy.pre (c:=(i:Int)) (b:=0) (by omega) (by omega)
  have hat:=hLa i hi
  have hov:=hCs i hi
  have hcl:=hCl i (by omega)
  rw [hat] at hov
  obtain ⟨S,hS⟩:∃ S,zfE y s ⟨(i:Int),zb1 y order i⟩ = S:=⟨_,rfl⟩
  rw [hS] at hov
  unfold zaq at hov
  simp only [cza,czy,Nat.reduceAdd,Nat.zero_add] at hov
  iterate 2 (
   refine zar fun Q1 h1 => ?_
   simp (maxSteps:=4000000) only [go_sem,zae,zac,zad,zaq,zas,zab,czb,cza,↓reduceIte,zaa,onz,hi',hn]
   all_goals (repeat' first | (with_reducible first | rfl | apply And.intro | assumption) | ((with_reducible show zaf _ _ = true); rfl)) <;> try first | omega | (simp only [InR]; omega)
   rw [h1]; clear h1 Q1; simp only [zaE,zam])
  refine zar fun Qb hb => ?_
  rw [ze1]
  try simp only [zam]
  refine zar fun Q1 h1 => ?_
  simp (maxSteps:=4000000) only [go_sem,zae,zac,zad,zaq,zas,zab,czb,cza,↓reduceIte,zaa,onz,hn]
  all_goals (repeat' first | (with_reducible first | rfl | apply And.intro | assumption) | ((with_reducible show zaf _ _ = true); rfl)) <;> try first | omega | (simp only [InR]; omega)
  rw [h1]; clear h1 Q1; simp only [zaE,zam]
  simp only [czF] at hp
  simp (maxSteps:=4000000) only [go_sem,zae,zac,zad,zaq,zas,zab,czb,cza,↓reduceIte,zaa,onz,hS,hcl,hov,hb]
  all_goals (repeat' first | (with_reducible first | rfl | apply And.intro | assumption) | ((with_reducible show zaf _ _ = true); rfl)) <;> try first | omega | (simp only [InR]; omega)
  refine nxt hi trivial ?_
  simp [AV.bare,zal,zaN,zaS,zak,zat,zah,tokz1,lk,zab,za2,hCb]
 ·intro _
  simp (maxSteps:=4000000) only [go_sem,zae,zac,zad,zaq,zas,zab,czb,cza,↓reduceIte,zaa,onz,czA,decide_false,hCl n (czf _),hCn,hCc]
  all_goals exact auz
def P115 (g:FuncId):=(zaw 26 (zct (fun y:Yd => y.t.heights.length ≤ 4096 ∧ y.order.length ≤ 4096) za9) (zaw 75 (zd1 (fun (y:Yd) (s:Sea) (order:List Int) => YS y s ∧ order.length ≤ 4096) zhZ) (P114)):zaL) g
theorem P115_ok:zaC Tryz.prog P115:=zaj (zbf zly) (zaj (zbY play_call) (zf0))
theorem zp4 (d:Option Nat):zaI P115 d = none:=(zai (by decide) d).trans ((zai (by decide) d).trans (zp5 d))
attribute [go_sem] P115 zp4
def zhQ (y:Yd) (s:Sea) (out:List Int) (i:Nat):Bool:=out.contains (i:Int) || (at_ (zhZ y s y.order) (at_ y.hires i).lo.toNat).free.contains (at_ y.hires i).hi
def zcp (y:Yd) (s:Sea) (out:List Int):Bool:=(List.range y.hires.length).all (zhQ y s out)
theorem zlH (y:Yd) (s:Sea) (x:Rg):(zfE y s x).free.length ≤ hrs y:=zim _ _ _ _
theorem zqU (y:Yd) (s:Sea) (out:List Int) (h:YS y s ∧ out.length ≤ 4096):zaQ Tryz.prog 77 [Enc.enc y,Enc.enc s,Enc.enc out] (· = Enc.enc (zcp y s out)):=by
 obtain ⟨hy,ho⟩:=h
 have hr5:=hy.vy.r5
 have hc5:=hy.vy.c5
 have hol:=zcY hy.vy.ord
 have hor:y.order.length ≤ 4096:=by omega
 obtain ⟨L,hL⟩:∃ L,zhZ y s y.order = L:=⟨_,rfl⟩
 have hLl:L.length = y.chairs.length:=by rw [← hL]; simp [zhZ]
 have hfl:∀ i,i < L.length → (at_ L i).free.length ≤ 4096:=fun i hi => by
  rw [← hL] at hi ⊢
  unfold zhZ at hi ⊢
  rw [czz,List.length_range] at hi
  rw [zg6 _ hi]
  have:=zlH y s ⟨(i:Int),zb1 y y.order i⟩
  have:=hy.vy.hrs
  omega
 have hall:∀ i,i < y.hires.length → ((List.range (i + 1)).all (zhQ y s out)) = ((List.range i).all (zhQ y s out) && zhQ y s out i):=fun i hi => by
  rw [List.range_succ,List.all_append]; simp
 have hno:∀ i,i < y.hires.length → zhQ y s out i = false → zcp y s out = false:=fun i hi q => by
  unfold zcp
  rw [List.all_eq_false]
  exact ⟨i,by simpa using hi,by rw [q]; simp⟩
 simp only [zbz]
 refine cpz P115_ok Tryz.func77 zaD ?_
 rw [Tryz.ntmps77]
 simp only [Tryz.f77,zag,zap]
 iterate 3 (
  refine zar fun Q1 h1 => ?_
  simp (maxSteps:=4000000) only [go_sem,zae,zac,zad,zaq,zas,zab,czb,cza,↓reduceIte,zaa,onz,hL,hy,hor]
  all_goals (repeat' first | (with_reducible first | rfl | apply And.intro | assumption) | ((with_reducible show zaf _ _ = true); rfl)) <;> try first | omega | (simp only [InR]; omega)
  rw [h1]; clear h1 Q1; simp only [zaE,zam])
 simp (maxSteps:=4000000) only [go_sem,zae,zac,zad,zaq,zas,zab,czb,cza,↓reduceIte,zaa,onz]
 refine zbv (y.hires.length) [] [2,6,7,16,17] (fun i => [(18,.int .i64 i)]) (fun _ m => m) (fun i => (List.range i).all (zhQ y s out) = true) ?_ ?_ ?_ ?_
 ·rfl
 ·simp [AV.bare,zal,zaN,zaS,zak,zat,zah,tokz1,lk,zab,za2,-List.map_map]
 ·intro i hi hI
  have hi':=czH.2 hi
  have hh:=hy.vy.hi _ (zbh hi)
  have hR:zhQ y s out i = (out.contains (i:Int) || (at_ L (at_ y.hires i).lo.toNat).free.contains (at_ y.hires i).hi):=by rw [← hL]; rfl
  have hn:=hno i hi
  have hA:=hall i hi
  rw [hI,Bool.true_and] at hA
  obtain ⟨hr,hhr⟩:∃ hr,at_ y.hires i = hr:=⟨_,rfl⟩
  rw [hhr] at hh hR
  have hg1:(y.hires.map EncE.cs).getD i [] = EncE.cs hr:=by rw [zax hi,hhr]
  have hk:hr.lo.toNat < L.length:=by omega
  have hg2:=zax (f:=EncE.cs) (l:=L) (i:=hr.lo.toNat) hk
  have hf4:=hfl _ hk
  iterate 2 (
   refine zar fun Q1 h1 => ?_
   simp (maxSteps:=4000000) only [go_sem,zae,zac,zad,zaq,zas,zab,czb,cza,↓reduceIte,zaa,onz,hi',hg1]
   all_goals (repeat' first | (with_reducible first | rfl | apply And.intro | assumption) | ((with_reducible show zaf _ _ = true); rfl)) <;> try first | omega | (simp only [InR]; omega)
   rw [h1]; clear h1 Q1; simp only [zaE,zam])
  refine zar fun Qb hb => ?_
  rw [ze1]
  try simp only [zam]
  refine zar fun Q1 h1 => ?_
  simp (maxSteps:=4000000) only [go_sem,zae,zac,zad,zaq,zas,zab,czb,cza,↓reduceIte,zaa,onz,hg1]
  all_goals (repeat' first | (with_reducible first | rfl | apply And.intro | assumption) | ((with_reducible show zaf _ _ = true); rfl)) <;> try first | omega | (simp only [InR]; omega)
  rw [h1]; clear h1 Q1; simp only [zaE,zam]
  cases c1:out.contains (i:Int)
  ·cases c2:(at_ L hr.lo.toNat).free.contains hr.hi
   all_goals
    rw [c1,c2] at hR
    simp (maxSteps:=4000000) only [go_sem,zae,zac,zad,zaq,zas,zab,czb,cza,↓reduceIte,zaa,onz,hg2,c1,c2,hb]
    all_goals (repeat' first | (with_reducible first | rfl | apply And.intro | assumption) | ((with_reducible show zaf _ _ = true); rfl)) <;> try first | omega | (simp only [InR]; omega)
   ·rw [hn hR]
   ·refine nxt hi (by rw [hA,hR]; rfl) ?_
    simp [AV.bare,zal,zaN,zaS,zak,zat,zah,tokz1,lk,zab,za2,-List.map_map]
  ·rw [c1] at hR
   simp (maxSteps:=4000000) only [go_sem,zae,zac,zad,zaq,zas,zab,czb,cza,↓reduceIte,zaa,onz,hg2,c1,hb]
   all_goals (repeat' first | (with_reducible first | rfl | apply And.intro | assumption) | ((with_reducible show zaf _ _ = true); rfl)) <;> try first | omega | (simp only [InR]; omega)
   refine nxt hi (by rw [hA,hR]; rfl) ?_
   simp [AV.bare,zal,zaN,zaS,zak,zat,zah,tokz1,lk,zab,za2,-List.map_map]
 ·intro hI
  simp (maxSteps:=4000000) only [go_sem,zae,zac,zad,zaq,zas,zab,czb,cza,↓reduceIte,zaa,onz,czA,decide_false]
  all_goals (repeat' first | (with_reducible first | rfl | apply And.intro | assumption) | ((with_reducible show zaf _ _ = true); rfl)) <;> try first | omega | (simp only [InR]; omega)
  unfold zcp
  rw [hI]
def P116 (g:FuncId):=(zaw 77 (zd1 (fun (y:Yd) (s:Sea) (out:List Int) => YS y s ∧ out.length ≤ 4096) zcp) (P115):zaL) g
theorem zhC:zaC Tryz.prog P116:=zaj (zbY zqU) (P115_ok)
theorem zp3 (d:Option Nat):zaI P116 d = none:=(zai (by decide) d).trans (zp4 d)
attribute [go_sem] P116 zp3
theorem ys_of {y:Yd} (h:VY y) (hs:List Int):YS y (zbH y.t hs):=⟨h,by simp [zbH]⟩
theorem seaQ_ok {y:Yd} (h:VY y) {hs:List Int} (c:za4 y.t hs = true):seaQ y.t hs = (zbH y.t hs,true):=by
 unfold seaQ zlk
 rw [if_pos h.f,c]
 rfl
theorem seaQ_bad {t:Tb} {hs:List Int} (c:za4 t hs = false):seaQ t hs = (⟨hs,[]⟩,false):=by
 unfold seaQ zlk
 rw [c]
 by_cases f:zbp t = 0
 ·rw [if_pos f]; rfl
 ·rw [if_neg f,if_neg f]
def zgs (y:Yd) (order hs:List Int):List Sy × Int :=
 if za9 y = 0 then (if (za4 y.t hs && zaG y.chairs.length order) = true then (zhZ y (zbH y.t hs) order,0) else ([],2)) else ([],za9 y)
theorem zwz (y:Yd) (order hs:List Int) (h:(y.t.heights.length ≤ 4096 ∧ y.order.length ≤ 4096) ∧ order.length ≤ 4096 ∧ hs.length ≤ 4096):zaQ Tryz.prog 21 [Enc.enc y,Enc.enc order,Enc.enc hs] (· = Enc.enc (zgs y order hs)):=by
 obtain ⟨⟨h1,h2⟩,h3,h4⟩:=h
 simp only [zaa]
 unfold zgs
 by_cases c:za9 y = 0
 case neg =>
  rw [if_neg c]
  simp only [zbz]
  refine cpz zhC Tryz.func21 zaD ?_
  rw [Tryz.ntmps21]
  simp only [Tryz.f21,zag,zap]
  iterate 2 (
   refine zar fun Q1 h1 => ?_
   simp (maxSteps:=4000000) only [go_sem,zae,zac,zad,zaq,zas,zab,czb,cza,↓reduceIte,zaa,onz]
   all_goals (repeat' first | (with_reducible first | rfl | apply And.intro | assumption) | ((with_reducible show zaf _ _ = true); rfl)) <;> try first | omega | (simp only [InR]; omega)
   rw [h1]; clear h1 Q1; simp only [zaE,zam])
  simp (maxSteps:=4000000) only [go_sem,zae,zac,zad,zaq,zas,zab,czb,cza,↓reduceIte,zaa,onz,c,decide_false]
  all_goals exact auz
 rw [if_pos c]
 have hv:=zg9 c
 have hc5:=hv.c5
 cases b1:za4 y.t hs
 ·have hq:=seaQ_bad b1
  rw [Bool.false_and,if_neg (by simp)]
  simp only [zbz]
  refine cpz zhC Tryz.func21 zaD ?_
  rw [Tryz.ntmps21]
  simp only [Tryz.f21,zag,zap]
  iterate 3 (
   refine zar fun Q1 h1 => ?_
   simp (maxSteps:=4000000) only [go_sem,zae,zac,zad,zaq,zas,zab,czb,cza,↓reduceIte,zaa,onz,c,hq]
   all_goals (repeat' first | (with_reducible first | rfl | apply And.intro | assumption) | ((with_reducible show zaf _ _ = true); rfl)) <;> try first | omega | (simp only [InR]; omega)
   rw [h1]; clear h1 Q1; simp only [zaE,zam])
  simp (maxSteps:=4000000) only [go_sem,zae,zac,zad,zaq,zas,zab,czb,cza,↓reduceIte,zaa,onz,c,hq]
  all_goals exact auz
 have hq:=seaQ_ok hv b1
 have hys:=ys_of hv hs
 obtain ⟨s,hs'⟩:∃ s,zbH y.t hs = s:=⟨_,rfl⟩
 rw [hs'] at hq hys
 rw [hs',Bool.true_and]
 cases b2:zaG y.chairs.length order
 all_goals
  simp only [czp,if_false,if_true]
  simp only [zbz]
  refine cpz zhC Tryz.func21 zaD ?_
  rw [Tryz.ntmps21]
  simp only [Tryz.f21,zag,zap]
  iterate 4 (
   refine zar fun Q1 h1 => ?_
   simp (maxSteps:=4000000) only [go_sem,zae,zac,zad,zaq,zas,zab,czb,cza,↓reduceIte,zaa,onz,c,hq]
   all_goals (repeat' first | (with_reducible first | rfl | apply And.intro | assumption) | ((with_reducible show zaf _ _ = true); rfl)) <;> try first | omega | (simp only [InR]; omega)
   rw [h1]; clear h1 Q1; simp only [zaE,zam])
  simp (maxSteps:=4000000) only [go_sem,zae,zac,zad,zaq,zas,zab,czb,cza,↓reduceIte,zaa,onz,c,hq,b2]
  all_goals (repeat' first | (with_reducible first | rfl | apply And.intro | assumption) | ((with_reducible show zaf _ _ = true); rfl)) <;> try first | omega | (simp only [InR]; omega)
def zhY (y:Yd) (hs:List Int):Bool:=decide (za9 y = 0) && (ze4 y.t hs && zcp y (zbH y.t hs) [])
theorem zjv (y:Yd) (hs:List Int) (h:(y.t.heights.length ≤ 4096 ∧ y.order.length ≤ 4096) ∧ hs.length ≤ 4096):zaQ Tryz.prog 24 [Enc.enc y,Enc.enc hs] (· = Enc.enc (zhY y hs)):=by
 obtain ⟨⟨h1,h2⟩,h4⟩:=h
 unfold zhY
 by_cases c:za9 y = 0
 case neg =>
  rw [decide_eq_false c,Bool.false_and]
  simp only [zbz]
  refine cpz zhC Tryz.func24 zaD ?_
  rw [Tryz.ntmps24]
  simp only [Tryz.f24,zag,zap]
  refine zar fun Q1 h1 => ?_
  simp (maxSteps:=4000000) only [go_sem,zae,zac,zad,zaq,zas,zab,czb,cza,↓reduceIte,zaa,onz]
  all_goals (repeat' first | (with_reducible first | rfl | apply And.intro | assumption) | ((with_reducible show zaf _ _ = true); rfl)) <;> try first | omega | (simp only [InR]; omega)
  rw [h1]; clear h1 Q1; simp only [zaE,zam]
  simp (maxSteps:=4000000) only [go_sem,zae,zac,zad,zaq,zas,zab,czb,cza,↓reduceIte,zaa,onz,c,decide_false]
  all_goals exact auz
 rw [decide_eq_true c,Bool.true_and]
 have hv:=zg9 c
 cases b1:ze4 y.t hs
 ·rw [Bool.false_and]
  simp only [zbz]
  refine cpz zhC Tryz.func24 zaD ?_
  rw [Tryz.ntmps24]
  simp only [Tryz.f24,zag,zap]
  refine zar fun Q1 h1 => ?_
  simp (maxSteps:=4000000) only [go_sem,zae,zac,zad,zaq,zas,zab,czb,cza,↓reduceIte,zaa,onz]
  all_goals (repeat' first | (with_reducible first | rfl | apply And.intro | assumption) | ((with_reducible show zaf _ _ = true); rfl)) <;> try first | omega | (simp only [InR]; omega)
  rw [h1]; clear h1 Q1; simp only [zaE,zam]
  simp (maxSteps:=4000000) only [go_sem,zae,zac,zad,zaq,zas,zab,czb,cza,↓reduceIte,zaa,onz,c,b1,decide_true]
  all_goals exact auz
 have hl:za4 y.t hs = true:=by
  unfold ze4 zby at b1
  simp only [czl] at b1
  exact b1.2.1
 have hq:=seaQ_ok hv hl
 have hys:=ys_of hv hs
 obtain ⟨s,hs'⟩:∃ s,zbH y.t hs = s:=⟨_,rfl⟩
 rw [hs'] at hq hys
 rw [hs',Bool.true_and]
 simp only [zbz]
 refine cpz zhC Tryz.func24 zaD ?_
 rw [Tryz.ntmps24]
 simp only [Tryz.f24,zag,zap]
 refine zar fun Q1 h1 => ?_
 simp (maxSteps:=4000000) only [go_sem,zae,zac,zad,zaq,zas,zab,czb,cza,↓reduceIte,zaa,onz]
 all_goals (repeat' first | (with_reducible first | rfl | apply And.intro | assumption) | ((with_reducible show zaf _ _ = true); rfl)) <;> try first | omega | (simp only [InR]; omega)
 rw [h1]; clear h1 Q1; simp only [zaE,zam]
 simp (maxSteps:=4000000) only [go_sem,zae,zac,zad,zaq,zas,zab,czb,cza,↓reduceIte,zaa,onz,c,b1,hq,decide_true]
 all_goals exact auz
def P117 (g:FuncId):=(zaw 21 (zd1 (fun (y:Yd) (order hs:List Int) => (y.t.heights.length ≤ 4096 ∧ y.order.length ≤ 4096) ∧ order.length ≤ 4096 ∧ hs.length ≤ 4096) zgs) (zaw 24 (zbC (fun (y:Yd) (hs:List Int) => (y.t.heights.length ≤ 4096 ∧ y.order.length ≤ 4096) ∧ hs.length ≤ 4096) zhY) (P116)):zaL) g
theorem zi0:zaC Tryz.prog P117:=zaj (zbY zwz) (zaj (zaM zjv) (zhC))
theorem zld (d:Option Nat):zaI P117 d = none:=(zai (by decide) d).trans ((zai (by decide) d).trans (zp3 d))
attribute [go_sem] P117 zld
theorem one_yld (a):(AV.yld a).one = true:=rfl
theorem one_arr (a b c d):(AV.arr a b c d).one = true:=rfl
theorem one_vec (a b c d e):(AV.vec a b c d e).one = true:=rfl
theorem one_vp (a b c d):(AV.vp a b c d).one = true:=rfl
attribute [go_sem] one_yld one_arr one_vec one_vp
section
variable (a b c d e f g:AObj) (r:List AObj)
theorem mA0:zab (a :: r) 0 = a:=rfl
theorem mA1:zab (a :: b :: r) 1 = b:=rfl
theorem mA2:zab (a :: b :: c :: r) 2 = c:=rfl
theorem mA3:zab (a :: b :: c :: d :: r) 3 = d:=rfl
theorem mA4:zab (a :: b :: c :: d :: e :: r) 4 = e:=rfl
theorem mA5:zab (a :: b :: c :: d :: e :: f :: r) 5 = f:=rfl
theorem mA6:zab (a :: b :: c :: d :: e :: f :: g :: r) 6 = g:=rfl
end
attribute [go_sem] mA0 mA1 mA2 mA3 mA4 mA5 mA6
theorem zce {m r:List AObj} {n0 k:Nat} (h:∀ o ∈ m,zb6 n0 o) (hk:n0 ≤ k) (hr:zaS k r):∀ o ∈ m ++ r,zb6 k o:=fun o ho => by
 rcases czv.1 ho with q | q
 ·exact zda hk o (h o q)
 ·exact zcU hr o q
/-! A loop whose rounds leave objects and deferred blocks behind. -/
structure JOk (k:Nat) (J:List AObj × List Nat):Prop where
 ok:∀ o ∈ J.1,zb6 (k + J.1.length) o
 lt:∀ m ∈ J.2,k ≤ m ∧ m < k + J.1.length
 df:∀ m ∈ J.2,zab J.1 (m - k) = .deferred
 nd:J.2.Nodup
theorem zaX {m r:List AObj} {k:Nat} (h:k < m.length):zab (m ++ r) k = zab m k:=by
 simp [zab,List.getD,czi h]
theorem JOk.push {k:Nat} {J:List AObj} {mk:List Nat} (h:JOk k (J,mk)) (os:List AObj) (hos:∀ o ∈ os,zb6 (k + J.length + os.length) o) (p:Nat) (hp:p < os.length) (hd:zab os p = .deferred):JOk k (J ++ os,(k + J.length + p) :: mk):=by
 obtain ⟨h1,h2,h3,h4⟩:=h
 simp only at h1 h2 h3 h4
 refine ⟨fun o ho => ?_,fun m hm => ?_,fun m hm => ?_,?_⟩
 ·rw [czc,← Nat.add_assoc]
  rcases czv.1 ho with q | q
  ·exact zda (by omega) o (h1 o q)
  ·exact hos o q
 ·rw [czc]
  rcases czn.1 hm with q | q
  ·omega
  ·have:=h2 m q; omega
 ·rcases czn.1 hm with q | q
  ·subst q
   have e:k + J.length + p - k = J.length + p:=by omega
   rw [e,zaP]; exact hd
  ·have:=h2 m q
   rw [zaX (by omega)]; exact h3 m q
 ·refine List.nodup_cons.2 ⟨fun q => ?_,h4⟩
  have:=h2 _ q
  omega
section
variable {mem:List AObj} {v s:Nat}
theorem zec (hv:v < mem.length) (o:AObj):zab (mem.set v o) v = o:=by simp [zab,List.getD,hv]
theorem zn0 (o o':AObj):(mem.set v o).set v o' = mem.set v o':=List.set_set _
theorem zmL {o:AObj} (h:zab mem v = o):mem.set v o = mem:=by
 apply List.ext_getElem
 ·simp
 ·intro i h1 h2
  rw [List.getElem_set]
  split
  ·rename_i q; subst q; rw [← h]; simp [zab,List.getD,h2]
  ·rfl
theorem zbg {o:AObj} (h:zab mem v = o) (ho:o ≠ .dead):v < mem.length:=by
 by_cases c:v < mem.length
 ·exact c
 ·exact absurd (by rw [← h]; simp [zab,List.getD,czB (czE c)]) ho
end
theorem zmt {r r':List AObj} (h:zak r r'):∀ m:List AObj,zak (m ++ r) (m ++ r')
 | [] => h
 | a :: m => ⟨rfl,zmt h m⟩
def P118:zaL:=ze8 58 P117
theorem P118_app (g:FuncId):P118 g = if g = 58 then none else P117 g:=rfl
theorem P118_ok:zaC Tryz.prog P118:=zfT zi0
theorem zp2 (d:Option Nat):zaI P118 d = none:=(zfR (by decide) d).trans (zld d)
attribute [go_sem] P118_app zp2
def P119:zaL:=ze8 105 P118
theorem P119_app (g:FuncId):P119 g = if g = 105 then none else P118 g:=rfl
theorem P119_ok:zaC Tryz.prog P119:=zfT P118_ok
theorem P119_flag (d:Option Nat):zaI P119 d = none:=(zfR (by decide) d).trans (zp2 d)
attribute [go_sem] P119_app P119_flag
def P120:zaL:=ze8 73 P117
theorem P120_app (g:FuncId):P120 g = if g = 73 then none else P117 g:=rfl
theorem ziZ:zaC Tryz.prog P120:=zfT zi0
theorem zp1 (d:Option Nat):zaI P120 d = none:=(zfR (by decide) d).trans (zld d)
attribute [go_sem] P120_app zp1
def seaC (s:Sea):AV:=.agg [.sl (s.hs.map EncE.cs) .no,.sl (s.rows.map EncE.cs) .no]
section
variable {mem:List AObj} {L:Nat}
theorem zsI (s:List Int) (hL:zab mem L = .cells (s.map (AV.int .i64))) (hm:∀ o ∈ mem,zb6 mem.length o) (h:s.length ≤ 4096) :
  zff Tryz.prog 105 [.arr L 0 s.length 1] mem (fun r m => r = .sl (s.map EncE.cs) (.own mem.length) ∧ m = mem ++ [.tok s.length 1]):=by
 have hch:zc4 1 s.length (s.map (AV.int .i64)) = s.map EncE.cs:=by rw [zfW s _ (czf _),czm]
 refine zb0 (Φ:=P117) Tryz.func105 rfl (by rfl) (by rw [Tryz.ntmps105]; simp) zaD zi0 ?_
 rw [Tryz.ntmps105]
 simp only [Tryz.f105,zag,zap]
 simp (maxSteps:=4000000) only [go_sem,zae,zac,zad,zaq,zas,czb,cza,↓reduceIte,zao,zaa,onz,hL,hch]
 all_goals (repeat' first | (with_reducible first | rfl | apply And.intro | assumption) | ((with_reducible show zaf _ _ = true); rfl)) <;> try first | omega | (simp only [InR]; omega)
 ·simp [zel,AV.one]
 ·refine ⟨mem.length + 1,by omega,by simp,cze (by simp),by simp [AV.bare,zal,zaN,zaS,zak,zat,zah,tokz1,lk,zab,za2],?_⟩
  rw [cze (by simp)]
  exact zce hm (by omega) (by simp [AV.bare,zal,zaN,zaS,zak,zat,zah,tokz1,lk,zab,za2])
theorem zwA (t:Tb) (s:List Int) (hf:zbp t = 0) (hl:za4 t s = true) (hL:zab mem L = .cells (s.map (AV.int .i64))) (hm:∀ o ∈ mem,zb6 mem.length o) :
  zff Tryz.prog 58 [Enc.enc t,.arr L 0 s.length 1] mem
   (fun r m => r = .tup [.arr (mem.length + 2) 0 t.levels.length 1,.int .i64 0] ∧ m = mem ++ [.cells [.int .i64 t.last,.sl (t.heights.map EncE.cs) .no,.int .i64 t.step,.sl (t.levels.map EncE.cs) .no,.sl (t.marks.map EncE.cs) .no],.cells ((zfg s).l.map (AV.int .i64)),.cells (t.levels.map fun lv => .sl ((zhd s lv).map EncE.cs) .no)]):=by
 have hv:=zcR hf
 have hok:=hv.hok
 have hlast:=hv.last
 have hl0:=znh hf
 have hl9:=hv.l9
 have hlv:=hv.lv
 have hll:=zbI hl
 have hch:zc4 1 s.length (s.map (AV.int .i64)) = s.map EncE.cs:=by rw [zfW s _ (czf _),czm]
 have hlp:zdg t s = (zfg s,true):=by unfold zdg; rw [if_pos (by omega),hl]
 have hs:=(zfg s).h
 have hw:∀ level,zlB (zfg s).l level (t.last + 1).toNat = zhd s level:=fun level => by
  rw [show (t.last + 1).toNat = s.length by omega]
  exact zqt level (by have:=hok.len; omega)
 have hLl:=zbg hL (by simp)
 obtain ⟨n0,hn0⟩:∃ n0,mem.length = n0:=⟨_,rfl⟩
 rw [hn0] at hm hLl
 have gL:∀ r,zab (mem ++ r) L = .cells (s.map (AV.int .i64)):=fun r => by rw [zaX (by omega),hL]
 have g0:∀ r,zab (mem ++ r) n0 = zab r 0:=fun r => by rw [← hn0]; exact zaP _ _ 0
 have gk:∀ r k,zab (mem ++ r) (n0 + k) = zab r k:=fun r k => by rw [← hn0]; exact zaP _ _ k
 have s0:∀ r o,(mem ++ r).set n0 o = mem ++ r.set 0 o:=fun r o => by rw [← hn0]; exact zbW _ _ 0 _
 have sk:∀ r k o,(mem ++ r).set (n0 + k) o = mem ++ r.set k o:=fun r k o => by rw [← hn0]; exact zbW _ _ k _
 rw [hn0]
 simp only [zoW]
 refine zb0 (Φ:=P117) Tryz.func58 rfl (by rfl) (by rw [Tryz.ntmps58]; simp) zaD zi0 ?_
 rw [Tryz.ntmps58]
 simp only [Tryz.f58,zag,zap]
 iterate 3 (
  refine zar fun Q1 h1 => ?_
  simp (maxSteps:=4000000) only [go_sem,zae,zac,zad,zaq,zas,czb,cza,↓reduceIte,zao,zaa,onz,hL,gL,g0,gk,s0,sk,hn0,hf,hlp,hs,hch,czd,czc]
  all_goals (repeat' first | (with_reducible first | rfl | apply And.intro | assumption) | ((with_reducible show zaf _ _ = true); rfl)) <;> try first | omega | (simp only [InR]; omega)
  rw [h1]; clear h1 Q1; simp only [zaE,zam])
 simp (maxSteps:=4000000) only [go_sem,zae,zac,zad,zaq,zas,czb,cza,↓reduceIte,zao,zaa,onz,hL,gL,g0,gk,s0,sk,hn0,hf,hlp,hs,hch,zeg,czd,czc]
 all_goals (repeat' first | (with_reducible first | rfl | apply And.intro | assumption) | ((with_reducible show zaf _ _ = true); rfl)) <;> try first | omega | (simp only [InR]; omega)
 obtain ⟨C,hC⟩:∃ C:Nat → List AV,∀ i,C i = (t.levels.take i).map (fun lv => .sl ((zhd s lv).map EncE.cs) .no) ++ List.replicate (t.levels.length - i) (.sl [] .full):=⟨_,fun _ => rfl⟩
 have hCl:∀ i,i ≤ t.levels.length → (C i).length = t.levels.length:=fun i hi => by rw [hC]; simp; omega
 have hCb:∀ i k,(∀ c ∈ C i,bel k 9 c) = True:=fun i k => eq_true fun c hc => by
  rw [hC] at hc
  rcases czv.1 hc with q | q
  ·obtain ⟨lv,_,rfl⟩:=czx.1 q; simp [AV.bare,zal,zaN,zaS,zak,zat,zah,tokz1,lk,zab,za2]
  ·rw [(czL.1 q).2]; simp [AV.bare,zal,zaN,zaS,zak,zat,zah,tokz1,lk,zab,za2]
 have hC0:List.replicate t.levels.length (.sl [] .full) = C 0:=by rw [hC]; simp
 have hCn:C t.levels.length = t.levels.map fun lv => .sl ((zhd s lv).map EncE.cs) .no:=by rw [hC]; simp
 rw [hC0]
 refine zbv (t.levels.length) [] [2,4,5,7,9,30,31] (fun i => [(32,.int .i64 i)]) (fun i _ => mem ++ [.cells [.int .i64 t.last,.sl (t.heights.map EncE.cs) .no,.int .i64 t.step,.sl (t.levels.map EncE.cs) .no,.sl (t.marks.map EncE.cs) .no],.cells ((zfg s).l.map (AV.int .i64)),.cells (C i)]) (fun _ => True) ?_ ?_ ?_ ?_
 ·trivial
 ·refine ⟨rfl,rfl,rfl,by show n0 ≤ (mem ++ _).length; rw [czc,hn0]; omega,?_,?_,zbu ?_,trivial⟩
  ·simp only [zah,zch]; exact za0 _
  ·show zaN _ (mem ++ [_,_,_]).length _
   rw [czc,hn0]
   simp [AV.bare,zal,zaN,zaS,zak,zat,zah,tokz1,lk,zab,za2]
  ·simp only [zah,zch]
   rw [czc,hn0]
   exact zce hm (by simp) (by simp [AV.bare,zal,zaN,zaS,zak,zat,zah,tokz1,lk,zab,za2,hCb])
 ·intro i hi _
  have hi':=czH.2 hi
  have hge:(t.levels.map EncE.cs).getD i [] = [AV.int IntKind.i64 (at_ t.levels i)]:=by rw [zax hi]; rfl
  have hov:=zop (fun lv => AV.sl ((zhd s lv).map EncE.cs) .no) (.sl [] .full) hi
  rw [← hC,← hC] at hov
  have hcl:=hCl i (by omega)
  simp (maxSteps:=4000000) only [go_sem,zae,zac,zad,zas,czb,cza,↓reduceIte,zao,zaa,onz,hL,gL,g0,gk,s0,sk,hn0,hi',hge,hw,hov,hcl,hs,czd,czc]
  all_goals (repeat' first | (with_reducible first | rfl | apply And.intro | assumption) | ((with_reducible show zaf _ _ = true); rfl)) <;> try first | omega | (simp only [InR]; omega)
  refine nxt hi trivial ⟨rfl,rfl,rfl,by show n0 ≤ (mem ++ _).length; rw [czc,hn0]; omega,za0 _,?_,zbu ?_,trivial⟩
  ·show zaN _ (mem ++ [_,_,_]).length _
   rw [czc,hn0]
   simp [AV.bare,zal,zaN,zaS,zak,zat,zah,tokz1,lk,zab,za2]
  ·dsimp only [zah]
   rw [czc,hn0]
   exact zce hm (by simp) (by simp [AV.bare,zal,zaN,zaS,zak,zat,zah,tokz1,lk,zab,za2,hCb])
 ·intro _
  simp (maxSteps:=4000000) only [go_sem,zae,zac,zad,zaq,zas,czb,cza,↓reduceIte,zao,zaa,onz,hn0,czA,decide_false,hCn,czd,czc]
  all_goals (repeat' first | (with_reducible first | rfl | apply And.intro | assumption) | ((with_reducible show zaf _ _ = true); rfl)) <;> try first | omega | (simp only [InR]; omega)
  refine ⟨n0 + 3,by omega,by simp [hn0],cze (by simp [hn0]),by simp [AV.bare,zal,zaN,zaS,zak,zat,zah,tokz1,lk,zab,za2],?_⟩
  rw [cze (by simp [hn0])]
  refine zce hm (by omega) ?_
  rw [← hCn]
  simp [AV.bare,zal,zaN,zaS,zak,zat,zah,tokz1,lk,zab,za2,hCb]
theorem seaX_call (y:Yd) (s:List Int) (hv:VY y) (hl:za4 y.t s = true) (hL:zab mem L = .cells (s.map (AV.int .i64))) (hm:∀ o ∈ mem,zb6 mem.length o) (hs4:s.length ≤ 4096) :
  zff Tryz.prog 73 [.agg (ydC y),.arr L 0 s.length 1] mem (fun r m => r = .tup [seaC (zbH y.t s),.bool true] ∧ m = mem):=by
 have hf:=hv.f
 have hok:=hv.fok
 have hlv:=hok.lv
 have h10:s.length ≤ 10:=by have:=zbI hl; have:=hok.len; have:=hv.l0; omega
 have hLl:=zbg hL (by simp)
 obtain ⟨n0,hn0⟩:∃ n0,mem.length = n0:=⟨_,rfl⟩
 rw [hn0] at hm hLl
 have gL:∀ r,zab (mem ++ r) L = .cells (s.map (AV.int .i64)):=fun r => by rw [zaX (by omega),hL]
 have g0:∀ r,zab (mem ++ r) n0 = zab r 0:=fun r => by rw [← hn0]; exact zaP _ _ 0
 have gk:∀ r k,zab (mem ++ r) (n0 + k) = zab r k:=fun r k => by rw [← hn0]; exact zaP _ _ k
 have s0:∀ r o,(mem ++ r).set n0 o = mem ++ r.set 0 o:=fun r o => by rw [← hn0]; exact zbW _ _ 0 _
 have sk:∀ r k o,(mem ++ r).set (n0 + k) o = mem ++ r.set k o:=fun r k o => by rw [← hn0]; exact zbW _ _ k _
 have hso:seaC (zbH y.t s) = .agg [.sl (s.map EncE.cs) .no,.sl ((y.t.levels.map (zqo s)).map EncE.cs) .no]:=rfl
 rw [hso]
 obtain ⟨R,hR⟩:∃ R:Nat → List (BA 10),∀ i,R i = (y.t.levels.take i).map (zqo s):=⟨_,fun _ => rfl⟩
 have hRl:∀ i,i ≤ y.t.levels.length → (R i).length = i:=fun i hi => by rw [hR]; simp; omega
 have hRs:∀ i,i < y.t.levels.length → R (i + 1) = R i ++ [zqo s (at_ y.t.levels i)]:=fun i hi => by rw [hR,hR,zaW hi,List.map_append]; rfl
 have hRf:R y.t.levels.length = y.t.levels.map (zqo s):=by rw [hR,czm]
 rw [← hRf]
 have hR0:R 0 = []:=by rw [hR]; rfl
 have hP:=zwA (mem:=mem ++ [.cells (ydC y),.cells [.sl [] .full,.sl [] .full]]) y.t s hf hl (gL _) (by
  rw [czc,hn0]
  refine zce hm (by simp) ?_
  simp [AV.bare,zal,zaN,zaS,zak,zat,zah,tokz1,lk,zab,za2,ydC])
 rw [zoW,czc,hn0] at hP
 unfold ydC at hP ⊢
 simp only [cza,czy,Nat.reduceAdd,Nat.zero_add,Nat.add_assoc] at hP
 refine zb0 (Φ:=P119) Tryz.func73 rfl (by rfl) (by rw [Tryz.ntmps73]; simp) zaD P119_ok ?_
 rw [Tryz.ntmps73]
 simp only [Tryz.f73,zag,zap]
 refine zar fun Q1 h1 => ?_
 simp (maxSteps:=4000000) only [go_sem,zae,zac,zad,zaq,zas,czb,cza,↓reduceIte,zao,zaa,onz,hL,gL,g0,gk,s0,sk,hn0,czd,czc]
 all_goals (repeat' first | (with_reducible first | rfl | apply And.intro | assumption) | ((with_reducible show zaf _ _ = true); rfl)) <;> try first | omega | (simp only [InR]; omega)
 rw [h1]; clear h1 Q1; simp only [zaE,zam]
 refine zar fun Q1 h1 => ?_
 simp (maxSteps:=4000000) only [go_sem,zae,zac,zad,zaq,zas,czb,cza,↓reduceIte,zao,zaa,onz,hL,gL,g0,gk,s0,sk,hn0,czd,czc]
 refine ⟨_,hP,?_⟩
 rintro r mem' ⟨rfl,rfl⟩ _
 simp (maxSteps:=4000000) only [go_sem,zae,zac,zad,zaq,zas,czb,cza,↓reduceIte,zao,zaa,onz,hn0,czd,czc]
 rw [h1]; clear h1 Q1; simp only [zaE,zam]
 simp (maxSteps:=4000000) only [go_sem,zae,zac,zad,zaq,zas,czb,cza,↓reduceIte,zao,zaa,onz,hL,gL,g0,gk,s0,sk,hn0,czd,czc]
 all_goals (repeat' first | (with_reducible first | rfl | apply And.intro | assumption) | ((with_reducible show zaf _ _ = true); rfl)) <;> try first | omega | (simp only [InR]; omega)
 obtain ⟨O,hO⟩:∃ O:List AV,(y.t.levels.map fun lv => AV.sl ((zhd s lv).map EncE.cs) .no) = O:=⟨_,rfl⟩
 have hOb:∀ k,(∀ c ∈ O,bel k 9 c) = True:=fun k => eq_true fun c hc => by
  rw [← hO] at hc
  obtain ⟨lv,_,rfl⟩:=czx.1 hc
  simp [AV.bare,zal,zaN,zaS,zak,zat,zah,tokz1,lk,zab,za2]
 have hOl:O.length = y.t.levels.length:=by rw [← hO]; simp
 have hOa:∀ i,i < y.t.levels.length → O.getD i .undef = .sl ((zhd s (at_ y.t.levels i)).map EncE.cs) .no:=fun i hi => by rw [← hO]; simp [at_,List.getD,hi]
 rw [hO]
 refine zbv (y.t.levels.length) [.cell (n0 + 1) 1 10] [1,4,5,7,20,21] (fun i => [(22,.int .i64 i)]) (fun i _ => mem ++ [.cells [.int .i64 y.t.last,.sl (y.t.heights.map EncE.cs) .no,.int .i64 y.t.step,.sl (y.t.levels.map EncE.cs) .no,.sl (y.t.marks.map EncE.cs) .no,.int .i64 y.hands,.sl (y.chairs.map EncE.cs) .no,.sl (y.order.map EncE.cs) .no,.sl (y.hires.map EncE.cs) .no],.cells [.sl [] .full,.sl ((R i).map EncE.cs) (.own (n0 + 5))],.cells [.int .i64 y.t.last,.sl (y.t.heights.map EncE.cs) .no,.int .i64 y.t.step,.sl (y.t.levels.map EncE.cs) .no,.sl (y.t.marks.map EncE.cs) .no],.cells ((zfg s).l.map (AV.int .i64)),.cells O,.tok i 10]) (fun _ => True) ?_ ?_ ?_ ?_
 ·trivial
 ·simp only [zdJ,zch,tokz1,lk,mA0,mA1,mA2,mA3,mA4,mA5,mA6,List.getD_cons_zero,List.getD_cons_succ,List.set_cons_succ,List.set_cons_zero,czc,czd,czs,List.nil_append,cza,czy,Nat.reduceAdd,Nat.zero_add,List.map_nil,Nat.reduceEqDiff,↓reduceIte,gk,sk,hn0,hR0]
  refine ⟨rfl,rfl,rfl,by show n0 ≤ (mem ++ _).length; rw [czc,hn0]; omega,za0 _,?_,zbu ?_,trivial⟩
  ·dsimp only [zah]
   rw [czc,hn0]
   simp [AV.bare,zal,zaN,zaS,zak,zat,zah,tokz1,lk,zab,za2]
   omega
  ·dsimp only [zah]
   rw [czc,hn0]
   exact zce hm (by simp) (by simp [AV.bare,zal,zaN,zaS,zak,zat,zah,tokz1,lk,zab,za2,hOb])
 ·intro i hi _
  have hi':=czH.2 hi
  obtain ⟨w,hw⟩:∃ w,zhd s (at_ y.t.levels i) = w:=⟨_,rfl⟩
  have hge:=hOa i hi
  rw [hw] at hge
  have hwl:∀ x ∈ w,0 ≤ x ∧ x < 10:=fun x hx => wetL_lt h10 (by rw [hw]; exact hx)
  have hwn:w.length ≤ s.length:=by rw [← hw]; exact zmA _ _ _
  have hrow:zeL w w.length = (zqo s (at_ y.t.levels i)).l:=by rw [← hw]; exact zoy h10 _
  have hm0:[AV.bool false,AV.bool false,AV.bool false,AV.bool false,AV.bool false,AV.bool false,AV.bool false,AV.bool false,AV.bool false,AV.bool false] = (zeL w 0).map AV.bool:=rfl
  have hrl:=hRl i (by omega)
  simp only [zdJ,zch,tokz1,lk,mA0,mA1,mA2,mA3,mA4,mA5,mA6,List.getD_cons_zero,List.getD_cons_succ,List.set_cons_succ,List.set_cons_zero,czc,czd,czs,List.nil_append,cza,czy,Nat.reduceAdd,Nat.zero_add,List.map_nil,Nat.reduceEqDiff,↓reduceIte,gk,sk,hn0,hR0]
  iterate 2 (
   refine zar fun Q1 h1 => ?_
   simp (maxSteps:=4000000) only [go_sem,zae,zac,zad,zaq,zas,zab,czb,cza,↓reduceIte,zao,zaa,onz,hi']
   all_goals (repeat' first | (with_reducible first | rfl | apply And.intro | assumption) | ((with_reducible show zaf _ _ = true); rfl)) <;> try first | omega | (simp only [InR]; omega)
   rw [h1]; clear h1 Q1; simp only [zaE,zam])
  refine zar fun Qb hb => ?_
  rw [ze1]
  try simp only [zam]
  iterate 3 (
   refine zar fun Q1 h1 => ?_
   simp (maxSteps:=4000000) only [go_sem,zae,zac,zad,zaq,zas,czb,cza,↓reduceIte,zao,zaa,onz,gk,sk,hn0,hge,hm0,hOl,czd,czc]
   all_goals (repeat' first | (with_reducible first | rfl | apply And.intro | assumption) | ((with_reducible show zaf _ _ = true); rfl)) <;> try first | omega | (simp only [InR]; omega)
   rw [h1]; clear h1 Q1; simp only [zaE,zam])
  simp (maxSteps:=4000000) only [go_sem,zae,zac,zad,zaq,zas,czb,cza,↓reduceIte,zao,zaa,onz]
  refine zbv (w.length) [] [1,4,5,7,9,10,20,21,22,24,25,26,27] (fun k => [(28,.int .i64 k)]) (fun k _ => mem ++ [.cells [.int .i64 y.t.last,.sl (y.t.heights.map EncE.cs) .no,.int .i64 y.t.step,.sl (y.t.levels.map EncE.cs) .no,.sl (y.t.marks.map EncE.cs) .no,.int .i64 y.hands,.sl (y.chairs.map EncE.cs) .no,.sl (y.order.map EncE.cs) .no,.sl (y.hires.map EncE.cs) .no],.cells [.sl [] .full,.sl ((R i).map EncE.cs) (.own (n0 + 5))],.cells [.int .i64 y.t.last,.sl (y.t.heights.map EncE.cs) .no,.int .i64 y.t.step,.sl (y.t.levels.map EncE.cs) .no,.sl (y.t.marks.map EncE.cs) .no],.cells ((zfg s).l.map (AV.int .i64)),.cells O,.tok i 10,.cells ((zeL w k).map AV.bool)]) (fun _ => True) ?_ ?_ ?_ ?_
  ·trivial
  ·refine ⟨rfl,rfl,rfl,by show n0 ≤ (mem ++ _).length; rw [czc,hn0]; omega,za0 _,?_,zbu ?_,trivial⟩
   ·dsimp only [zah]
    rw [czc,hn0]
    simp [AV.bare,zal,zaN,zaS,zak,zat,zah,tokz1,lk,zab,za2]
    omega
   ·dsimp only [zah]
    rw [czc,hn0]
    exact zce hm (by simp) (by simp [AV.bare,zal,zaN,zaS,zak,zat,zah,tokz1,lk,zab,za2,hOb])
  ·intro k hk _
   have hk':=czH.2 hk
   have hkx:=hwl _ (zbh hk)
   obtain ⟨x,hx⟩:=czu hkx.1
   have hge2:(w.map EncE.cs).getD k [] = [AV.int .i64 (x:Int)]:=by rw [zax hk,hx]; rfl
   have hml:=zdO w k
   have hov:=zlS (l:=zeL w k) (i:=x) (by omega) true
   have hms:(zeL w k).set x true = zeL w (k + 1):=by
    show _ = (zeL w k).set (at_ w k).toNat true
    rw [hx]; rfl
   rw [hms] at hov
   have hx10:x < 10:=by omega
   simp only [zch]
   simp (maxSteps:=4000000) only [go_sem,zae,zac,zad,zas,czb,cza,↓reduceIte,zao,zaa,onz,gk,sk,hn0,hk',hge2,hml,hov,czd,czc]
   all_goals (repeat' first | (with_reducible first | rfl | apply And.intro | assumption) | ((with_reducible show zaf _ _ = true); rfl)) <;> try first | omega | (simp only [InR]; omega)
   refine nxt hk trivial ⟨rfl,rfl,rfl,by show n0 ≤ (mem ++ _).length; rw [czc,hn0]; omega,za0 _,?_,zbu ?_,trivial⟩
   ·dsimp only [zah]
    rw [czc,hn0]
    simp [AV.bare,zal,zaN,zaS,zak,zat,zah,tokz1,lk,zab,za2]
    omega
   ·dsimp only [zah]
    rw [czc,hn0]
    exact zce hm (by simp) (by simp [AV.bare,zal,zaN,zaS,zak,zat,zah,tokz1,lk,zab,za2,hOb])
  ·intro _
   have hra:=(zqo s (at_ y.t.levels i)).h
   simp only [zch]
   simp (maxSteps:=4000000) only [go_sem,zae,zac,zad,zaq,zas,czb,cza,↓reduceIte,zao,zaa,onz,gk,sk,hn0,czA,decide_false,hrow,hra,hrl,hb,czd,czc]
   all_goals (repeat' first | (with_reducible first | rfl | apply And.intro | assumption) | ((with_reducible show zaf _ _ = true); rfl)) <;> try first | omega | (simp only [InR]; omega)
   refine nxt hi trivial ?_
   have hRm:(R (i + 1)).map EncE.cs = (R i).map EncE.cs ++ [(zqo s (at_ y.t.levels i)).l.map AV.bool]:=by rw [hRs i hi,List.map_append]; rfl
   simp only [hRm]
   refine ⟨rfl,rfl,rfl,by show n0 ≤ (mem ++ _).length; rw [czc,hn0]; omega,zmt (r:=[_,_,_,_,_,_]) (r':=[_,_,_,_,_,_,_]) ⟨rfl,rfl,rfl,rfl,rfl,rfl,trivial⟩ mem,?_,zbu ?_,trivial⟩
   ·dsimp only [zah]
    rw [czc,hn0]
    simp [AV.bare,zal,zaN,zaS,zak,zat,zah,tokz1,lk,zab,za2]
    omega
   ·dsimp only [zah]
    rw [czc,hn0,← hRm]
    exact zce hm (by simp) (by simp [AV.bare,zal,zaN,zaS,zak,zat,zah,tokz1,lk,zab,za2,hOb])
 ·intro _
  simp only [zdJ,zch,tokz1,lk,mA0,mA1,mA2,mA3,mA4,mA5,mA6,List.getD_cons_zero,List.getD_cons_succ,List.set_cons_succ,List.set_cons_zero,czc,czd,czs,List.nil_append,cza,czy,Nat.reduceAdd,Nat.zero_add,List.map_nil,Nat.reduceEqDiff,↓reduceIte,gk,sk,hn0,hR0]
  simp (maxSteps:=4000000) only [go_sem,zae,zac,zad,zaq,zas,czb,cza,↓reduceIte,zao,zaa,onz,gk,sk,hn0,czA,decide_false]
  all_goals (repeat' first | (with_reducible first | rfl | apply And.intro | assumption) | ((with_reducible show zaf _ _ = true); rfl)) <;> try first | omega | (simp only [InR]; omega)
  obtain ⟨X,hX⟩:∃ X:List AObj,[AObj.cells [.int .i64 y.t.last,.sl (y.t.heights.map EncE.cs) .no,.int .i64 y.t.step,.sl (y.t.levels.map EncE.cs) .no,.sl (y.t.marks.map EncE.cs) .no,.int .i64 y.hands,.sl (y.chairs.map EncE.cs) .no,.sl (y.order.map EncE.cs) .no,.sl (y.hires.map EncE.cs) .no],.cells [.sl [] .full,.sl ((R y.t.levels.length).map EncE.cs) (.own (n0 + 5))],.cells [.int .i64 y.t.last,.sl (y.t.heights.map EncE.cs) .no,.int .i64 y.t.step,.sl (y.t.levels.map EncE.cs) .no,.sl (y.t.marks.map EncE.cs) .no],.cells ((zfg s).l.map (AV.int .i64)),.cells O,.tok y.t.levels.length 10] = X:=⟨_,rfl⟩
  have hCl:=zsI (mem:=mem ++ X) s (gL _) (by
   rw [czc,hn0,← hX]
   exact zce hm (by simp) (by simp [AV.bare,zal,zaN,zaS,zak,zat,zah,tokz1,lk,zab,za2,hOb])) hs4
  rw [czd,← hX] at hCl
  refine ⟨_,hCl,?_⟩
  rintro r mem' ⟨rfl,rfl⟩ _
  simp (maxSteps:=4000000) only [go_sem,zae,zac,zad,zaq,zas,czb,cza,↓reduceIte,zao,zaa,onz,gk,sk,hn0,czd,czc]
  all_goals (repeat' first | (with_reducible first | rfl | apply And.intro | assumption) | ((with_reducible show zaf _ _ = true); rfl)) <;> try first | omega | (simp only [InR]; omega)
  refine ⟨n0,czf _,by omega,List.take_left' hn0,by simp [AV.bare,zal,zaN,zaS,zak,zat,zah,tokz1,lk,zab,za2],?_⟩
  rw [List.take_left' hn0]
  exact hm
end
end Go.Proofs
