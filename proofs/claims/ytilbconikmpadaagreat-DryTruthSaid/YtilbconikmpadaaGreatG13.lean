/- The texts H4, H5, H6, HU, HX, joined. -/
import Derived.Test.YtilbconikmpadaaGreatG12
set_option linter.all false
namespace Go.Proofs
open Go.Fs
set_option maxHeartbeats 4000000
set_option maxRecDepth 8000
theorem zme (y:Yd) (h:y.t.heights.length ≤ 4096 ∧ y.order.length ≤ 4096):zaU Tryz.prog 26 [Enc.enc y] (· = Enc.enc (zbB y)):=by
 have h1:=h.1
 have h2:=h.2
 unfold zbB
 by_cases a1:5 < y.chairs.length
 ·rw [if_pos (.inl a1)]
  simp only [zbY]
  refine cpz zgf Tryz.func26 zaF ?_
  rw [Tryz.ntmps26]
  simp only [Tryz.f26,zah,zaq]
  iterate 2 (
   refine zar fun Q1 h1 => ?_
   simp (maxSteps:=4000000) only [go_sem,zae,zac,zad,zap,zas,zab,czb,cza,↓reduceIte,zaa,onz]
   all_goals (repeat' first | (with_reducible first | rfl | apply And.intro | assumption) | ((with_reducible show zaf _ _ = true); rfl)) <;> try first | omega | (simp only [InR]; omega)
   rw [h1]; clear h1 Q1; simp only [zaG,zan])
  simp (maxSteps:=4000000) only [go_sem,zae,zac,zad,zap,zas,zab,czb,cza,↓reduceIte,zaa,onz,show ((5:Int) < y.chairs.length) by omega]
 by_cases a2:5 < y.hires.length
 ·rw [if_pos (.inr a2)]
  simp only [zbY]
  refine cpz zgf Tryz.func26 zaF ?_
  rw [Tryz.ntmps26]
  simp only [Tryz.f26,zah,zaq]
  iterate 2 (
   refine zar fun Q1 h1 => ?_
   simp (maxSteps:=4000000) only [go_sem,zae,zac,zad,zap,zas,zab,czb,cza,↓reduceIte,zaa,onz]
   all_goals (repeat' first | (with_reducible first | rfl | apply And.intro | assumption) | ((with_reducible show zaf _ _ = true); rfl)) <;> try first | omega | (simp only [InR]; omega)
   rw [h1]; clear h1 Q1; simp only [zaG,zan])
  simp (maxSteps:=4000000) only [go_sem,zae,zac,zad,zap,zas,zab,czb,cza,↓reduceIte,zaa,onz,show ¬ ((5:Int) < y.chairs.length) by omega,show ((5:Int) < y.hires.length) by omega]
 rw [if_neg (show ¬ (5 < y.chairs.length ∨ 5 < y.hires.length) by omega)]
 have a1':¬ ((5:Int) < y.chairs.length):=by omega
 have a2':¬ ((5:Int) < y.hires.length):=by omega
 have hch:y.chairs.length ≤ 4096:=by omega
 have hhi:y.hires.length ≤ 4096:=by omega
 by_cases c:zcS y.t true = 0
 case neg =>
  have hb:bndQ y.t = ([],zcS y.t true):=by unfold bndQ; rw [if_neg c]
  have e:(if zbl y.t ≠ 0 then zbl y.t else if zaC y.t = [] then 11 else if (inB y.hands 0 5 && za2 y.chairs.length y.order) = false then 1 else if y.chairs.all (zdw y.t) = false then 1 else if y.hires.all (zfd y.chairs.length y.t.last) = false then 1 else 0) = zcS y.t true:=by
   by_cases f0:zbl y.t = 0
   ·rw [if_neg (by simp [f0])]
    by_cases t0:zaC y.t = []
    ·rw [if_pos t0,zwT f0 t0]
    ·exact absurd (zlH f0 t0) c
   ·rw [if_pos f0,zwU _ f0]
  rw [e]
  obtain ⟨x,hx⟩:∃ x,zcS y.t true = x:=⟨_,rfl⟩
  rw [hx] at hb c ⊢
  simp only [zbY]
  refine cpz zgf Tryz.func26 zaF ?_
  rw [Tryz.ntmps26]
  simp only [Tryz.f26,zah,zaq]
  iterate 2 (
   refine zar fun Q1 h1 => ?_
   simp (maxSteps:=4000000) only [go_sem,zae,zac,zad,zap,zas,zab,czb,cza,↓reduceIte,zaa,onz]
   all_goals (repeat' first | (with_reducible first | rfl | apply And.intro | assumption) | ((with_reducible show zaf _ _ = true); rfl)) <;> try first | omega | (simp only [InR]; omega)
   rw [h1]; clear h1 Q1; simp only [zaG,zan])
  iterate 2 (
   refine zar fun Q1 h1 => ?_
   simp (maxSteps:=4000000) only [go_sem,zae,zac,zad,zap,zas,zab,czb,cza,↓reduceIte,zaa,onz,a1',a2',hb,c]
   all_goals (repeat' first | (with_reducible first | rfl | apply And.intro | assumption) | ((with_reducible show zaf _ _ = true); rfl)) <;> try first | omega | (simp only [InR]; omega)
   rw [h1]; clear h1 Q1; simp only [zaG,zan])
  simp (maxSteps:=4000000) only [go_sem,zae,zac,zad,zap,zas,zab,czb,cza,↓reduceIte,zaa,onz,hb,c,decide_true,decide_false]
  all_goals exact auz
 obtain ⟨f0,_,t0⟩:=zg6 c
 obtain ⟨bl,hb⟩:∃ bl,bndQ y.t = (bl,0):=⟨_,by unfold bndQ; rw [if_pos c]⟩
 rw [if_neg (by simp [f0]),if_neg t0]
 have hlv:y.t.levels.length ≤ 4096:=by have:=(zcC f0).lv; omega
 cases b1:inB y.hands 0 5
 ·rw [Bool.false_and,if_pos rfl]
  simp only [zbY]
  refine cpz zgf Tryz.func26 zaF ?_
  rw [Tryz.ntmps26]
  simp only [Tryz.f26,zah,zaq]
  iterate 3 (
   refine zar fun Q1 h1 => ?_
   simp (maxSteps:=4000000) only [go_sem,zae,zac,zad,zap,zas,zab,czb,cza,↓reduceIte,zaa,onz,a1',a2',hb]
   all_goals (repeat' first | (with_reducible first | rfl | apply And.intro | assumption) | ((with_reducible show zaf _ _ = true); rfl)) <;> try first | omega | (simp only [InR]; omega)
   rw [h1]; clear h1 Q1; simp only [zaG,zan])
  simp (maxSteps:=4000000) only [go_sem,zae,zac,zad,zap,zas,zab,czb,cza,↓reduceIte,zaa,onz,hb,b1]
  all_goals exact auz
 rw [Bool.true_and]
 cases b2:y.chairs.all (zdw y.t)
 ·have e:(if za2 y.chairs.length y.order = false then (1:Int) else if false = false then 1 else if y.hires.all (zfd y.chairs.length y.t.last) = false then 1 else 0) = 1:=by split <;> rfl
  rw [e]
  simp only [zbY]
  refine cpz zgf Tryz.func26 zaF ?_
  rw [Tryz.ntmps26]
  simp only [Tryz.f26,zah,zaq]
  iterate 3 (
   refine zar fun Q1 h1 => ?_
   simp (maxSteps:=4000000) only [go_sem,zae,zac,zad,zap,zas,zab,czb,cza,↓reduceIte,zaa,onz,a1',a2',hb]
   all_goals (repeat' first | (with_reducible first | rfl | apply And.intro | assumption) | ((with_reducible show zaf _ _ = true); rfl)) <;> try first | omega | (simp only [InR]; omega)
   rw [h1]; clear h1 Q1; simp only [zaG,zan])
  simp (maxSteps:=4000000) only [go_sem,zae,zac,zad,zap,zas,zab,czb,cza,↓reduceIte,zaa,onz,hb,b1,b2]
  all_goals exact auz
 cases b3:za2 y.chairs.length y.order
 ·rw [if_pos rfl]
  simp only [zbY]
  refine cpz zgf Tryz.func26 zaF ?_
  rw [Tryz.ntmps26]
  simp only [Tryz.f26,zah,zaq]
  iterate 3 (
   refine zar fun Q1 h1 => ?_
   simp (maxSteps:=4000000) only [go_sem,zae,zac,zad,zap,zas,zab,czb,cza,↓reduceIte,zaa,onz,a1',a2',hb]
   all_goals (repeat' first | (with_reducible first | rfl | apply And.intro | assumption) | ((with_reducible show zaf _ _ = true); rfl)) <;> try first | omega | (simp only [InR]; omega)
   rw [h1]; clear h1 Q1; simp only [zaG,zan])
  simp (maxSteps:=4000000) only [go_sem,zae,zac,zad,zap,zas,zab,czb,cza,↓reduceIte,zaa,onz,hb,b1,b2,b3]
  all_goals exact auz
 cases b4:y.hires.all (zfd y.chairs.length y.t.last)
 all_goals
  simp only [Bool.true_eq_false,if_false,if_true]
  simp only [zbY]
  refine cpz zgf Tryz.func26 zaF ?_
  rw [Tryz.ntmps26]
  simp only [Tryz.f26,zah,zaq]
  iterate 3 (
   refine zar fun Q1 h1 => ?_
   simp (maxSteps:=4000000) only [go_sem,zae,zac,zad,zap,zas,zab,czb,cza,↓reduceIte,zaa,onz,a1',a2',hb]
   all_goals (repeat' first | (with_reducible first | rfl | apply And.intro | assumption) | ((with_reducible show zaf _ _ = true); rfl)) <;> try first | omega | (simp only [InR]; omega)
   rw [h1]; clear h1 Q1; simp only [zaG,zan])
  simp (maxSteps:=4000000) only [go_sem,zae,zac,zad,zap,zas,zab,czb,cza,↓reduceIte,zaa,onz,hb,b1,b2,b3,b4]
  all_goals (repeat' first | (with_reducible first | rfl | apply And.intro | assumption) | ((with_reducible show zaf _ _ = true); rfl)) <;> try first | omega | (simp only [InR]; omega)
def zin (y:Yd) (s:Sea) (order:List Int):List Sy:=(List.range y.chairs.length).map fun c:Nat => zfT y s ⟨c,zb6 y order c⟩
def zoj:List AV:=[.int .i64 0,.int .i64 0,.sl [] .full]
theorem zie (z:List AV):∀ n,zci z n = (List.replicate n z).flatten
 | 0 => rfl
 | n + 1 => by rw [zci,zie z n]; rfl
def zg2 (L:List Sy) (i:Nat):List AV:=((L.take i).map EncE.cs).flatten ++ (List.replicate (L.length - i) zoj).flatten
theorem zpt (l:List Sy):((l.map EncE.cs).flatten).length = l.length * 3:=by
 induction l with
 | nil => rfl
 | cons x l ih => simp only [czb,List.flatten_cons,czc,ih,cza]; rw [cs_sy]; simp; omega
theorem rep_len3 (n:Nat):((List.replicate n zoj).flatten).length = n * 3:=by
 induction n with
 | zero => rfl
 | succ n ih => simp only [List.replicate_succ,List.flatten_cons,czc,ih]; show 3 + n * 3 = _; omega
theorem zwE (L:List Sy) {i:Nat} (h:i ≤ L.length):(zg2 L i).length = L.length * 3:=by
 unfold zg2
 rw [czc,zpt,rep_len3,czO]
 have:min i L.length = i:=by omega
 rw [this]; omega
theorem zsG (L:List Sy) {i:Nat} (h:i < L.length):zap (zg2 L i) (i * 3) (EncE.cs (at_ L i)) = zg2 L (i + 1):=by
 unfold zg2
 have e1:L.length - i = (L.length - (i + 1)) + 1:=by omega
 have e2:i * 3 = (((L.take i).map EncE.cs).flatten).length:=by rw [zpt,czO]; congr 1; omega
 rw [e1,List.replicate_succ,List.flatten_cons,e2,over_at (by rw [cs_sy]; rfl),zaX h,List.map_append,List.flatten_append]
 simp
theorem zwF (L:List Sy) (i k:Nat):(∀ c ∈ zg2 L i,bel k 9 c) = True:=by
 refine eq_true fun c hc => ?_
 unfold zg2 at hc
 rcases czv.1 hc with h | h
 ·obtain ⟨e,he,hce⟩:=List.mem_flatten.1 h
  obtain ⟨x,_,rfl⟩:=czx.1 he
  exact zc1 _ _ _ (EncE.ok x c hce) (by rw [zui]; omega)
 ·obtain ⟨e,he,hce⟩:=List.mem_flatten.1 h
  rw [(czL.1 he).2] at hce
  simp only [zoj,czn,czk,or_false] at hce
  rcases hce with rfl | rfl | rfl <;> simp [bel]
theorem zm3 (L:List Sy):zg2 L L.length = (L.map EncE.cs).flatten:=by unfold zg2; simp
structure YS (y:Yd) (s:Sea):Prop where
 vy:VY y
 rl:s.rows.length = y.t.levels.length
theorem YS.pre {y:Yd} {s:Sea} (h:YS y s) {c b:Int} (h0:0 ≤ c) (h1:c < y.chairs.length):((0 ≤ y.t.last ∧ y.t.last ≤ 9) ∧ 0 ≤ c ∧ c < y.chairs.length) ∧ (0 ≤ (at_ y.chairs c.toNat).row ∧ (at_ y.chairs c.toNat).row < s.rows.length) ∧ (0 ≤ (at_ y.chairs c.toNat).hours ∧ (at_ y.chairs c.toNat).hours ≤ 5) ∧ 1 ≤ (at_ y.chairs c.toNat).rot ∧ (at_ y.chairs c.toNat).rot ≤ 9:=by
 obtain ⟨g1,g2,g3,g4⟩:=h.vy.at h0 h1
 have:=h.rl
 exact ⟨⟨h.vy.l0,h0,h1⟩,⟨g2.1,by omega⟩,g3,g4⟩
theorem play_call (y:Yd) (s:Sea) (order:List Int) (h:YS y s ∧ order.length ≤ 4096):zaU Tryz.prog 75 [Enc.enc y,Enc.enc s,Enc.enc order] (· = Enc.enc (zin y s order)):=by
 obtain ⟨hy,ho⟩:=h
 have hl:=hy.vy.l0
 have hh0:=hy.vy.h0
 have hh5:=hy.vy.h5
 have hc5:=hy.vy.c5
 obtain ⟨L,hL⟩:∃ L,zin y s order = L:=⟨_,rfl⟩
 have hLl:L.length = y.chairs.length:=by rw [← hL]; simp [zin]
 have hLa:∀ i,i < y.chairs.length → at_ L i = zfT y s ⟨(i:Int),zb6 y order i⟩:=fun i hi => by rw [← hL]; unfold zin; rw [zhu _ hi]
 rw [hL]
 obtain ⟨n,hn⟩:∃ n,y.chairs.length = n:=⟨_,rfl⟩
 rw [hn] at hLl hLa hc5
 obtain ⟨C,hC⟩:∃ C,zg2 L = C:=⟨_,rfl⟩
 have hCl:∀ i,i ≤ n → (C i).length = n * 3:=fun i hi => by rw [← hC,zwE L (by omega),hLl]
 have hCb:∀ i k,(∀ c ∈ C i,bel k 9 c) = True:=fun i k => by rw [← hC]; exact zwF L i k
 have hC0:zci zoj n = C 0:=by rw [← hC,zie]; unfold zg2; simp [hLl]
 have hCs:∀ i,i < n → zap (C i) (i * 3) [.int .i64 (at_ L i).wet,.int .i64 (at_ L i).rot,.sl ((at_ L i).free.map EncE.cs) .no] = C (i + 1):=fun i hi => by rw [← hC]; exact zsG L (by omega)
 have hCn:∀ M,(C n).map (zb1 (zcb 8 M) M) = C n:=fun M => by rw [← hC,← hLl,zm3]; exact zvG (by rw [zui]; omega) L
 have hCc:zdc 3 n (C n) = L.map EncE.cs:=by
  rw [← hC,← hLl,zm3]
  have:=zjL (sz:=3) (L.map EncE.cs) (fun e he => by obtain ⟨x,_,rfl⟩:=czx.1 he; rfl)
  rwa [czz] at this
 unfold zoj at hC0
 simp only [zbY]
 refine cpz zgf Tryz.func75 zaF ?_
 rw [Tryz.ntmps75]
 simp only [Tryz.f75,zah,zaq]
 iterate 3 (
  refine zar fun Q1 h1 => ?_
  simp (maxSteps:=4000000) only [go_sem,zae,zac,zad,zap,zas,zab,czb,cza,↓reduceIte,zaa,onz,hn,hC0]
  all_goals (repeat' first | (with_reducible first | rfl | apply And.intro | assumption) | ((with_reducible show zaf _ _ = true); rfl)) <;> try first | omega | (simp only [InR]; omega)
  rw [h1]; clear h1 Q1; simp only [zaG,zan])
 simp (maxSteps:=4000000) only [go_sem,zae,zac,zad,zap,zas,zab,czb,cza,↓reduceIte,zaa,onz,hn]
 refine zbA (n) [] [2,3,4,6,7,14] (fun i => [(15,.int .i64 i)]) (fun i m => m.set 2 (.cells (C i))) (fun _ => True) ?_ ?_ ?_ ?_
 ·trivial
 ·simp [AV.bare,zal,zaP,zaS,zak,zau,zag,tokz1,lk,zab,za4,hCb]
 ·intro i hi _
  have hi':=czH.2 hi
  have hp:=hy.pre (c:=(i:Int)) (b:=0) (by omega) (by omega)
  have hat:=hLa i hi
  have hov:=hCs i hi
  have hcl:=hCl i (by omega)
  rw [hat] at hov
  obtain ⟨S,hS⟩:∃ S,zfT y s ⟨(i:Int),zb6 y order i⟩ = S:=⟨_,rfl⟩
  rw [hS] at hov
  unfold zap at hov
  simp only [cza,czy,Nat.reduceAdd,Nat.zero_add] at hov
  iterate 2 (
   refine zar fun Q1 h1 => ?_
   simp (maxSteps:=4000000) only [go_sem,zae,zac,zad,zap,zas,zab,czb,cza,↓reduceIte,zaa,onz,hi',hn]
   all_goals (repeat' first | (with_reducible first | rfl | apply And.intro | assumption) | ((with_reducible show zaf _ _ = true); rfl)) <;> try first | omega | (simp only [InR]; omega)
   rw [h1]; clear h1 Q1; simp only [zaG,zan])
  refine zar fun Qb hb => ?_
  rw [zff]
  try simp only [zan]
  refine zar fun Q1 h1 => ?_
  simp (maxSteps:=4000000) only [go_sem,zae,zac,zad,zap,zas,zab,czb,cza,↓reduceIte,zaa,onz,hn]
  all_goals (repeat' first | (with_reducible first | rfl | apply And.intro | assumption) | ((with_reducible show zaf _ _ = true); rfl)) <;> try first | omega | (simp only [InR]; omega)
  rw [h1]; clear h1 Q1; simp only [zaG,zan]
  simp only [czF] at hp
  simp (maxSteps:=4000000) only [go_sem,zae,zac,zad,zap,zas,zab,czb,cza,↓reduceIte,zaa,onz,hS,hcl,hov,hb]
  all_goals (repeat' first | (with_reducible first | rfl | apply And.intro | assumption) | ((with_reducible show zaf _ _ = true); rfl)) <;> try first | omega | (simp only [InR]; omega)
  refine nxt hi trivial ?_
  simp [AV.bare,zal,zaP,zaS,zak,zau,zag,tokz1,lk,zab,za4,hCb]
 ·intro _
  simp (maxSteps:=4000000) only [go_sem,zae,zac,zad,zap,zas,zab,czb,cza,↓reduceIte,zaa,onz,czA,decide_false,hCl n (czf _),hCn,hCc]
  all_goals exact auz
def P115 (g:FuncId):=(zax 26 (zcU (fun y:Yd => y.t.heights.length ≤ 4096 ∧ y.order.length ≤ 4096) zbB) (zax 75 (zeB (fun (y:Yd) (s:Sea) (order:List Int) => YS y s ∧ order.length ≤ 4096) zin) (P114)):zaN) g
theorem P115_ok:zaD Tryz.prog P115:=zaj (zbm zme) (zaj (zcc play_call) (zgf))
theorem zqF (d:Option Nat):zaK P115 d = none:=(zai (by decide) d).trans ((zai (by decide) d).trans (zqG d))
attribute [go_sem] P115 zqF
def zic (y:Yd) (s:Sea) (out:List Int) (i:Nat):Bool:=out.contains (i:Int) || (at_ (zin y s y.order) (at_ y.hires i).lo.toNat).free.contains (at_ y.hires i).hi
def zcB (y:Yd) (s:Sea) (out:List Int):Bool:=(List.range y.hires.length).all (zic y s out)
theorem zmn (y:Yd) (s:Sea) (x:Rg):(zfT y s x).free.length ≤ hrs y:=zlf _ _ _ _
theorem zrx (y:Yd) (s:Sea) (out:List Int) (h:YS y s ∧ out.length ≤ 4096):zaU Tryz.prog 77 [Enc.enc y,Enc.enc s,Enc.enc out] (· = Enc.enc (zcB y s out)):=by
 obtain ⟨hy,ho⟩:=h
 have hr5:=hy.vy.r5
 have hc5:=hy.vy.c5
 have hol:=zev hy.vy.ord
 have hor:y.order.length ≤ 4096:=by omega
 obtain ⟨L,hL⟩:∃ L,zin y s y.order = L:=⟨_,rfl⟩
 have hLl:L.length = y.chairs.length:=by rw [← hL]; simp [zin]
 have hfl:∀ i,i < L.length → (at_ L i).free.length ≤ 4096:=fun i hi => by
  rw [← hL] at hi ⊢
  unfold zin at hi ⊢
  rw [czz,List.length_range] at hi
  rw [zhu _ hi]
  have:=zmn y s ⟨(i:Int),zb6 y y.order i⟩
  have:=hy.vy.hrs
  omega
 have hall:∀ i,i < y.hires.length → ((List.range (i + 1)).all (zic y s out)) = ((List.range i).all (zic y s out) && zic y s out i):=fun i hi => by
  rw [List.range_succ,List.all_append]; simp
 have hno:∀ i,i < y.hires.length → zic y s out i = false → zcB y s out = false:=fun i hi q => by
  unfold zcB
  rw [List.all_eq_false]
  exact ⟨i,by simpa using hi,by rw [q]; simp⟩
 simp only [zbY]
 refine cpz P115_ok Tryz.func77 zaF ?_
 rw [Tryz.ntmps77]
 simp only [Tryz.f77,zah,zaq]
 iterate 3 (
  refine zar fun Q1 h1 => ?_
  simp (maxSteps:=4000000) only [go_sem,zae,zac,zad,zap,zas,zab,czb,cza,↓reduceIte,zaa,onz,hL,hy,hor]
  all_goals (repeat' first | (with_reducible first | rfl | apply And.intro | assumption) | ((with_reducible show zaf _ _ = true); rfl)) <;> try first | omega | (simp only [InR]; omega)
  rw [h1]; clear h1 Q1; simp only [zaG,zan])
 simp (maxSteps:=4000000) only [go_sem,zae,zac,zad,zap,zas,zab,czb,cza,↓reduceIte,zaa,onz]
 refine zbA (y.hires.length) [] [2,6,7,16,17] (fun i => [(18,.int .i64 i)]) (fun _ m => m) (fun i => (List.range i).all (zic y s out) = true) ?_ ?_ ?_ ?_
 ·rfl
 ·simp [AV.bare,zal,zaP,zaS,zak,zau,zag,tokz1,lk,zab,za4,-List.map_map]
 ·intro i hi hI
  have hi':=czH.2 hi
  have hh:=hy.vy.hi _ (zbb hi)
  have hR:zic y s out i = (out.contains (i:Int) || (at_ L (at_ y.hires i).lo.toNat).free.contains (at_ y.hires i).hi):=by rw [← hL]; rfl
  have hn:=hno i hi
  have hA:=hall i hi
  rw [hI,Bool.true_and] at hA
  obtain ⟨hr,hhr⟩:∃ hr,at_ y.hires i = hr:=⟨_,rfl⟩
  rw [hhr] at hh hR
  have hg1:(y.hires.map EncE.cs).getD i [] = EncE.cs hr:=by rw [zat hi,hhr]
  have hk:hr.lo.toNat < L.length:=by omega
  have hg2:=zat (f:=EncE.cs) (l:=L) (i:=hr.lo.toNat) hk
  have hf4:=hfl _ hk
  iterate 2 (
   refine zar fun Q1 h1 => ?_
   simp (maxSteps:=4000000) only [go_sem,zae,zac,zad,zap,zas,zab,czb,cza,↓reduceIte,zaa,onz,hi',hg1]
   all_goals (repeat' first | (with_reducible first | rfl | apply And.intro | assumption) | ((with_reducible show zaf _ _ = true); rfl)) <;> try first | omega | (simp only [InR]; omega)
   rw [h1]; clear h1 Q1; simp only [zaG,zan])
  refine zar fun Qb hb => ?_
  rw [zff]
  try simp only [zan]
  refine zar fun Q1 h1 => ?_
  simp (maxSteps:=4000000) only [go_sem,zae,zac,zad,zap,zas,zab,czb,cza,↓reduceIte,zaa,onz,hg1]
  all_goals (repeat' first | (with_reducible first | rfl | apply And.intro | assumption) | ((with_reducible show zaf _ _ = true); rfl)) <;> try first | omega | (simp only [InR]; omega)
  rw [h1]; clear h1 Q1; simp only [zaG,zan]
  cases c1:out.contains (i:Int)
  ·cases c2:(at_ L hr.lo.toNat).free.contains hr.hi
   all_goals
    rw [c1,c2] at hR
    simp (maxSteps:=4000000) only [go_sem,zae,zac,zad,zap,zas,zab,czb,cza,↓reduceIte,zaa,onz,hg2,c1,c2,hb]
    all_goals (repeat' first | (with_reducible first | rfl | apply And.intro | assumption) | ((with_reducible show zaf _ _ = true); rfl)) <;> try first | omega | (simp only [InR]; omega)
   ·rw [hn hR]
   ·refine nxt hi (by rw [hA,hR]; rfl) ?_
    simp [AV.bare,zal,zaP,zaS,zak,zau,zag,tokz1,lk,zab,za4,-List.map_map]
  ·rw [c1] at hR
   simp (maxSteps:=4000000) only [go_sem,zae,zac,zad,zap,zas,zab,czb,cza,↓reduceIte,zaa,onz,hg2,c1,hb]
   all_goals (repeat' first | (with_reducible first | rfl | apply And.intro | assumption) | ((with_reducible show zaf _ _ = true); rfl)) <;> try first | omega | (simp only [InR]; omega)
   refine nxt hi (by rw [hA,hR]; rfl) ?_
   simp [AV.bare,zal,zaP,zaS,zak,zau,zag,tokz1,lk,zab,za4,-List.map_map]
 ·intro hI
  simp (maxSteps:=4000000) only [go_sem,zae,zac,zad,zap,zas,zab,czb,cza,↓reduceIte,zaa,onz,czA,decide_false]
  all_goals (repeat' first | (with_reducible first | rfl | apply And.intro | assumption) | ((with_reducible show zaf _ _ = true); rfl)) <;> try first | omega | (simp only [InR]; omega)
  unfold zcB
  rw [hI]
def P116 (g:FuncId):=(zax 77 (zeB (fun (y:Yd) (s:Sea) (out:List Int) => YS y s ∧ out.length ≤ 4096) zcB) (P115):zaN) g
theorem zhY:zaD Tryz.prog P116:=zaj (zcc zrx) (P115_ok)
theorem zqE (d:Option Nat):zaK P116 d = none:=(zai (by decide) d).trans (zqF d)
attribute [go_sem] P116 zqE
theorem ys_of {y:Yd} (h:VY y) (hs:List Int):YS y (zbP y.t hs):=⟨h,by simp [zbP]⟩
theorem seaQ_ok {y:Yd} (h:VY y) {hs:List Int} (c:za3 y.t hs = true):seaQ y.t hs = (zbP y.t hs,true):=by
 unfold seaQ zim
 rw [if_pos h.f,c]
 rfl
theorem seaQ_bad {t:Tb} {hs:List Int} (c:za3 t hs = false):seaQ t hs = (⟨hs,[]⟩,false):=by
 unfold seaQ zim
 rw [c]
 by_cases f:zbl t = 0
 ·rw [if_pos f]; rfl
 ·rw [if_neg f,if_neg f]
def zkR (y:Yd) (order hs:List Int):List Sy × Int :=
 if zbB y = 0 then (if (za3 y.t hs && za2 y.chairs.length order) = true then (zin y (zbP y.t hs) order,0) else ([],2)) else ([],zbB y)
theorem zxh (y:Yd) (order hs:List Int) (h:(y.t.heights.length ≤ 4096 ∧ y.order.length ≤ 4096) ∧ order.length ≤ 4096 ∧ hs.length ≤ 4096):zaU Tryz.prog 21 [Enc.enc y,Enc.enc order,Enc.enc hs] (· = Enc.enc (zkR y order hs)):=by
 obtain ⟨⟨h1,h2⟩,h3,h4⟩:=h
 simp only [zaa]
 unfold zkR
 by_cases c:zbB y = 0
 case neg =>
  rw [if_neg c]
  simp only [zbY]
  refine cpz zhY Tryz.func21 zaF ?_
  rw [Tryz.ntmps21]
  simp only [Tryz.f21,zah,zaq]
  iterate 2 (
   refine zar fun Q1 h1 => ?_
   simp (maxSteps:=4000000) only [go_sem,zae,zac,zad,zap,zas,zab,czb,cza,↓reduceIte,zaa,onz]
   all_goals (repeat' first | (with_reducible first | rfl | apply And.intro | assumption) | ((with_reducible show zaf _ _ = true); rfl)) <;> try first | omega | (simp only [InR]; omega)
   rw [h1]; clear h1 Q1; simp only [zaG,zan])
  simp (maxSteps:=4000000) only [go_sem,zae,zac,zad,zap,zas,zab,czb,cza,↓reduceIte,zaa,onz,c,decide_false]
  all_goals exact auz
 rw [if_pos c]
 have hv:=zhG c
 have hc5:=hv.c5
 cases b1:za3 y.t hs
 ·have hq:=seaQ_bad b1
  rw [Bool.false_and,if_neg (by simp)]
  simp only [zbY]
  refine cpz zhY Tryz.func21 zaF ?_
  rw [Tryz.ntmps21]
  simp only [Tryz.f21,zah,zaq]
  iterate 3 (
   refine zar fun Q1 h1 => ?_
   simp (maxSteps:=4000000) only [go_sem,zae,zac,zad,zap,zas,zab,czb,cza,↓reduceIte,zaa,onz,c,hq]
   all_goals (repeat' first | (with_reducible first | rfl | apply And.intro | assumption) | ((with_reducible show zaf _ _ = true); rfl)) <;> try first | omega | (simp only [InR]; omega)
   rw [h1]; clear h1 Q1; simp only [zaG,zan])
  simp (maxSteps:=4000000) only [go_sem,zae,zac,zad,zap,zas,zab,czb,cza,↓reduceIte,zaa,onz,c,hq]
  all_goals exact auz
 have hq:=seaQ_ok hv b1
 have hys:=ys_of hv hs
 obtain ⟨s,hs'⟩:∃ s,zbP y.t hs = s:=⟨_,rfl⟩
 rw [hs'] at hq hys
 rw [hs',Bool.true_and]
 cases b2:za2 y.chairs.length order
 all_goals
  simp only [czp,if_false,if_true]
  simp only [zbY]
  refine cpz zhY Tryz.func21 zaF ?_
  rw [Tryz.ntmps21]
  simp only [Tryz.f21,zah,zaq]
  iterate 4 (
   refine zar fun Q1 h1 => ?_
   simp (maxSteps:=4000000) only [go_sem,zae,zac,zad,zap,zas,zab,czb,cza,↓reduceIte,zaa,onz,c,hq]
   all_goals (repeat' first | (with_reducible first | rfl | apply And.intro | assumption) | ((with_reducible show zaf _ _ = true); rfl)) <;> try first | omega | (simp only [InR]; omega)
   rw [h1]; clear h1 Q1; simp only [zaG,zan])
  simp (maxSteps:=4000000) only [go_sem,zae,zac,zad,zap,zas,zab,czb,cza,↓reduceIte,zaa,onz,c,hq,b2]
  all_goals (repeat' first | (with_reducible first | rfl | apply And.intro | assumption) | ((with_reducible show zaf _ _ = true); rfl)) <;> try first | omega | (simp only [InR]; omega)
def zik (y:Yd) (hs:List Int):Bool:=decide (zbB y = 0) && (zfi y.t hs && zcB y (zbP y.t hs) [])
theorem zjZ (y:Yd) (hs:List Int) (h:(y.t.heights.length ≤ 4096 ∧ y.order.length ≤ 4096) ∧ hs.length ≤ 4096):zaU Tryz.prog 24 [Enc.enc y,Enc.enc hs] (· = Enc.enc (zik y hs)):=by
 obtain ⟨⟨h1,h2⟩,h4⟩:=h
 unfold zik
 by_cases c:zbB y = 0
 case neg =>
  rw [decide_eq_false c,Bool.false_and]
  simp only [zbY]
  refine cpz zhY Tryz.func24 zaF ?_
  rw [Tryz.ntmps24]
  simp only [Tryz.f24,zah,zaq]
  refine zar fun Q1 h1 => ?_
  simp (maxSteps:=4000000) only [go_sem,zae,zac,zad,zap,zas,zab,czb,cza,↓reduceIte,zaa,onz]
  all_goals (repeat' first | (with_reducible first | rfl | apply And.intro | assumption) | ((with_reducible show zaf _ _ = true); rfl)) <;> try first | omega | (simp only [InR]; omega)
  rw [h1]; clear h1 Q1; simp only [zaG,zan]
  simp (maxSteps:=4000000) only [go_sem,zae,zac,zad,zap,zas,zab,czb,cza,↓reduceIte,zaa,onz,c,decide_false]
  all_goals exact auz
 rw [decide_eq_true c,Bool.true_and]
 have hv:=zhG c
 cases b1:zfi y.t hs
 ·rw [Bool.false_and]
  simp only [zbY]
  refine cpz zhY Tryz.func24 zaF ?_
  rw [Tryz.ntmps24]
  simp only [Tryz.f24,zah,zaq]
  refine zar fun Q1 h1 => ?_
  simp (maxSteps:=4000000) only [go_sem,zae,zac,zad,zap,zas,zab,czb,cza,↓reduceIte,zaa,onz]
  all_goals (repeat' first | (with_reducible first | rfl | apply And.intro | assumption) | ((with_reducible show zaf _ _ = true); rfl)) <;> try first | omega | (simp only [InR]; omega)
  rw [h1]; clear h1 Q1; simp only [zaG,zan]
  simp (maxSteps:=4000000) only [go_sem,zae,zac,zad,zap,zas,zab,czb,cza,↓reduceIte,zaa,onz,c,b1,decide_true]
  all_goals exact auz
 have hl:za3 y.t hs = true:=by
  unfold zfi zbE at b1
  simp only [czl] at b1
  exact b1.2.1
 have hq:=seaQ_ok hv hl
 have hys:=ys_of hv hs
 obtain ⟨s,hs'⟩:∃ s,zbP y.t hs = s:=⟨_,rfl⟩
 rw [hs'] at hq hys
 rw [hs',Bool.true_and]
 simp only [zbY]
 refine cpz zhY Tryz.func24 zaF ?_
 rw [Tryz.ntmps24]
 simp only [Tryz.f24,zah,zaq]
 refine zar fun Q1 h1 => ?_
 simp (maxSteps:=4000000) only [go_sem,zae,zac,zad,zap,zas,zab,czb,cza,↓reduceIte,zaa,onz]
 all_goals (repeat' first | (with_reducible first | rfl | apply And.intro | assumption) | ((with_reducible show zaf _ _ = true); rfl)) <;> try first | omega | (simp only [InR]; omega)
 rw [h1]; clear h1 Q1; simp only [zaG,zan]
 simp (maxSteps:=4000000) only [go_sem,zae,zac,zad,zap,zas,zab,czb,cza,↓reduceIte,zaa,onz,c,b1,hq,decide_true]
 all_goals exact auz
def P117 (g:FuncId):=(zax 21 (zeB (fun (y:Yd) (order hs:List Int) => (y.t.heights.length ≤ 4096 ∧ y.order.length ≤ 4096) ∧ order.length ≤ 4096 ∧ hs.length ≤ 4096) zkR) (zax 24 (zbL (fun (y:Yd) (hs:List Int) => (y.t.heights.length ≤ 4096 ∧ y.order.length ≤ 4096) ∧ hs.length ≤ 4096) zik) (P116)):zaN) g
theorem zjq:zaD Tryz.prog P117:=zaj (zcc zxh) (zaj (zaR zjZ) (zhY))
theorem zlQ (d:Option Nat):zaK P117 d = none:=(zai (by decide) d).trans ((zai (by decide) d).trans (zqE d))
attribute [go_sem] P117 zlQ
theorem one_yld (a):(AV.yld a).one = true:=rfl
theorem one_arr (a b c d):(AV.arr a b c d).one = true:=rfl
theorem one_vec (a b c d e):(AV.vec a b c d e).one = true:=rfl
theorem one_vp (a b c d):(AV.vp a b c d).one = true:=rfl
attribute [go_sem] one_yld one_arr one_vec one_vp
section
variable (a b c d e f g:AObj) (r:List AObj)
theorem mA0:zab (a :: r) 0 = a:=rfl
theorem mA1:zab (a :: b :: r) 1 = b:=rfl
theorem mA2:zab (a :: b :: c :: r) 2 = c:=rfl
theorem mA3:zab (a :: b :: c :: d :: r) 3 = d:=rfl
theorem mA4:zab (a :: b :: c :: d :: e :: r) 4 = e:=rfl
theorem mA5:zab (a :: b :: c :: d :: e :: f :: r) 5 = f:=rfl
theorem mA6:zab (a :: b :: c :: d :: e :: f :: g :: r) 6 = g:=rfl
end
attribute [go_sem] mA0 mA1 mA2 mA3 mA4 mA5 mA6
theorem zcl {m r:List AObj} {n0 k:Nat} (h:∀ o ∈ m,zcd n0 o) (hk:n0 ≤ k) (hr:zaS k r):∀ o ∈ m ++ r,zcd k o:=fun o ho => by
 rcases czv.1 ho with q | q
 ·exact zdi hk o (h o q)
 ·exact zc6 hr o q
/-! A loop whose rounds leave objects and deferred blocks behind. -/
structure JOk (k:Nat) (J:List AObj × List Nat):Prop where
 ok:∀ o ∈ J.1,zcd (k + J.1.length) o
 lt:∀ m ∈ J.2,k ≤ m ∧ m < k + J.1.length
 df:∀ m ∈ J.2,zab J.1 (m - k) = .deferred
 nd:J.2.Nodup
theorem zaW {m r:List AObj} {k:Nat} (h:k < m.length):zab (m ++ r) k = zab m k:=by
 simp [zab,List.getD,czi h]
theorem JOk.push {k:Nat} {J:List AObj} {mk:List Nat} (h:JOk k (J,mk)) (os:List AObj) (hos:∀ o ∈ os,zcd (k + J.length + os.length) o) (p:Nat) (hp:p < os.length) (hd:zab os p = .deferred):JOk k (J ++ os,(k + J.length + p) :: mk):=by
 obtain ⟨h1,h2,h3,h4⟩:=h
 simp only at h1 h2 h3 h4
 refine ⟨fun o ho => ?_,fun m hm => ?_,fun m hm => ?_,?_⟩
 ·rw [czc,← Nat.add_assoc]
  rcases czv.1 ho with q | q
  ·exact zdi (by omega) o (h1 o q)
  ·exact hos o q
 ·rw [czc]
  rcases czn.1 hm with q | q
  ·omega
  ·have:=h2 m q; omega
 ·rcases czn.1 hm with q | q
  ·subst q
   have e:k + J.length + p - k = J.length + p:=by omega
   rw [e,zaQ]; exact hd
  ·have:=h2 m q
   rw [zaW (by omega)]; exact h3 m q
 ·refine List.nodup_cons.2 ⟨fun q => ?_,h4⟩
  have:=h2 _ q
  omega
section
variable {mem:List AObj} {v s:Nat}
theorem zeq (hv:v < mem.length) (o:AObj):zab (mem.set v o) v = o:=by simp [zab,List.getD,hv]
theorem zoy (o o':AObj):(mem.set v o).set v o' = mem.set v o':=List.set_set _
theorem znn {o:AObj} (h:zab mem v = o):mem.set v o = mem:=by
 apply List.ext_getElem
 ·simp
 ·intro i h1 h2
  rw [List.getElem_set]
  split
  ·rename_i q; subst q; rw [← h]; simp [zab,List.getD,h2]
  ·rfl
theorem zbi {o:AObj} (h:zab mem v = o) (ho:o ≠ .dead):v < mem.length:=by
 by_cases c:v < mem.length
 ·exact c
 ·exact absurd (by rw [← h]; simp [zab,List.getD,czB (czE c)]) ho
end
theorem zm9 {r r':List AObj} (h:zak r r'):∀ m:List AObj,zak (m ++ r) (m ++ r')
 | [] => h
 | a :: m => ⟨rfl,zm9 h m⟩
def P118:zaN:=zfl 58 P117
theorem P118_app (g:FuncId):P118 g = if g = 58 then none else P117 g:=rfl
theorem P118_ok:zaD Tryz.prog P118:=zf6 zjq
theorem zqD (d:Option Nat):zaK P118 d = none:=(zf5 (by decide) d).trans (zlQ d)
attribute [go_sem] P118_app zqD
def P119:zaN:=zfl 105 P118
theorem P119_app (g:FuncId):P119 g = if g = 105 then none else P118 g:=rfl
theorem P119_ok:zaD Tryz.prog P119:=zf6 P118_ok
theorem P119_flag (d:Option Nat):zaK P119 d = none:=(zf5 (by decide) d).trans (zqD d)
attribute [go_sem] P119_app P119_flag
def P120:zaN:=zfl 73 P117
theorem P120_app (g:FuncId):P120 g = if g = 73 then none else P117 g:=rfl
theorem zjp:zaD Tryz.prog P120:=zf6 zjq
theorem zqC (d:Option Nat):zaK P120 d = none:=(zf5 (by decide) d).trans (zlQ d)
attribute [go_sem] P120_app zqC
def seaC (s:Sea):AV:=.agg [.sl (s.hs.map EncE.cs) .no,.sl (s.rows.map EncE.cs) .no]
section
variable {mem:List AObj} {L:Nat}
theorem ztq (s:List Int) (hL:zab mem L = .cells (s.map (AV.int .i64))) (hm:∀ o ∈ mem,zcd mem.length o) (h:s.length ≤ 4096) :
  zfs Tryz.prog 105 [.arr L 0 s.length 1] mem (fun r m => r = .sl (s.map EncE.cs) (.own mem.length) ∧ m = mem ++ [.tok s.length 1]):=by
 have hch:zdc 1 s.length (s.map (AV.int .i64)) = s.map EncE.cs:=by rw [zf9 s _ (czf _),czm]
 refine zb5 (Φ:=P117) Tryz.func105 rfl (by rfl) (by rw [Tryz.ntmps105]; simp) zaF zjq ?_
 rw [Tryz.ntmps105]
 simp only [Tryz.f105,zah,zaq]
 simp (maxSteps:=4000000) only [go_sem,zae,zac,zad,zap,zas,czb,cza,↓reduceIte,zao,zaa,onz,hL,hch]
 all_goals (repeat' first | (with_reducible first | rfl | apply And.intro | assumption) | ((with_reducible show zaf _ _ = true); rfl)) <;> try first | omega | (simp only [InR]; omega)
 ·simp [zeI,AV.one]
 ·refine ⟨mem.length + 1,by omega,by simp,cze (by simp),by simp [AV.bare,zal,zaP,zaS,zak,zau,zag,tokz1,lk,zab,za4],?_⟩
  rw [cze (by simp)]
  exact zcl hm (by omega) (by simp [AV.bare,zal,zaP,zaS,zak,zau,zag,tokz1,lk,zab,za4])
theorem zxi (t:Tb) (s:List Int) (hf:zbl t = 0) (hl:za3 t s = true) (hL:zab mem L = .cells (s.map (AV.int .i64))) (hm:∀ o ∈ mem,zcd mem.length o) :
  zfs Tryz.prog 58 [Enc.enc t,.arr L 0 s.length 1] mem
   (fun r m => r = .tup [.arr (mem.length + 2) 0 t.levels.length 1,.int .i64 0] ∧ m = mem ++ [.cells [.int .i64 t.last,.sl (t.heights.map EncE.cs) .no,.int .i64 t.step,.sl (t.levels.map EncE.cs) .no,.sl (t.marks.map EncE.cs) .no],.cells ((zft s).l.map (AV.int .i64)),.cells (t.levels.map fun lv => .sl ((zd5 s lv).map EncE.cs) .no)]):=by
 have hv:=zcC hf
 have hok:=hv.hok
 have hlast:=hv.last
 have hl0:=zkl hf
 have hl9:=hv.l9
 have hlv:=hv.lv
 have hll:=zbI hl
 have hch:zdc 1 s.length (s.map (AV.int .i64)) = s.map EncE.cs:=by rw [zf9 s _ (czf _),czm]
 have hlp:zdr t s = (zft s,true):=by unfold zdr; rw [if_pos (by omega),hl]
 have hs:=(zft s).h
 have hw:∀ level,zjr (zft s).l level (t.last + 1).toNat = zd5 s level:=fun level => by
  rw [show (t.last + 1).toNat = s.length by omega]
  exact zq4 level (by have:=hok.len; omega)
 have hLl:=zbi hL (by simp)
 obtain ⟨n0,hn0⟩:∃ n0,mem.length = n0:=⟨_,rfl⟩
 rw [hn0] at hm hLl
 have gL:∀ r,zab (mem ++ r) L = .cells (s.map (AV.int .i64)):=fun r => by rw [zaW (by omega),hL]
 have g0:∀ r,zab (mem ++ r) n0 = zab r 0:=fun r => by rw [← hn0]; exact zaQ _ _ 0
 have gk:∀ r k,zab (mem ++ r) (n0 + k) = zab r k:=fun r k => by rw [← hn0]; exact zaQ _ _ k
 have s0:∀ r o,(mem ++ r).set n0 o = mem ++ r.set 0 o:=fun r o => by rw [← hn0]; exact zb2 _ _ 0 _
 have sk:∀ r k o,(mem ++ r).set (n0 + k) o = mem ++ r.set k o:=fun r k o => by rw [← hn0]; exact zb2 _ _ k _
 rw [hn0]
 simp only [zpv]
 refine zb5 (Φ:=P117) Tryz.func58 rfl (by rfl) (by rw [Tryz.ntmps58]; simp) zaF zjq ?_
 rw [Tryz.ntmps58]
 simp only [Tryz.f58,zah,zaq]
 iterate 3 (
  refine zar fun Q1 h1 => ?_
  simp (maxSteps:=4000000) only [go_sem,zae,zac,zad,zap,zas,czb,cza,↓reduceIte,zao,zaa,onz,hL,gL,g0,gk,s0,sk,hn0,hf,hlp,hs,hch,czd,czc]
  all_goals (repeat' first | (with_reducible first | rfl | apply And.intro | assumption) | ((with_reducible show zaf _ _ = true); rfl)) <;> try first | omega | (simp only [InR]; omega)
  rw [h1]; clear h1 Q1; simp only [zaG,zan])
 simp (maxSteps:=4000000) only [go_sem,zae,zac,zad,zap,zas,czb,cza,↓reduceIte,zao,zaa,onz,hL,gL,g0,gk,s0,sk,hn0,hf,hlp,hs,hch,zet,czd,czc]
 all_goals (repeat' first | (with_reducible first | rfl | apply And.intro | assumption) | ((with_reducible show zaf _ _ = true); rfl)) <;> try first | omega | (simp only [InR]; omega)
 obtain ⟨C,hC⟩:∃ C:Nat → List AV,∀ i,C i = (t.levels.take i).map (fun lv => .sl ((zd5 s lv).map EncE.cs) .no) ++ List.replicate (t.levels.length - i) (.sl [] .full):=⟨_,fun _ => rfl⟩
 have hCl:∀ i,i ≤ t.levels.length → (C i).length = t.levels.length:=fun i hi => by rw [hC]; simp; omega
 have hCb:∀ i k,(∀ c ∈ C i,bel k 9 c) = True:=fun i k => eq_true fun c hc => by
  rw [hC] at hc
  rcases czv.1 hc with q | q
  ·obtain ⟨lv,_,rfl⟩:=czx.1 q; simp [AV.bare,zal,zaP,zaS,zak,zau,zag,tokz1,lk,zab,za4]
  ·rw [(czL.1 q).2]; simp [AV.bare,zal,zaP,zaS,zak,zau,zag,tokz1,lk,zab,za4]
 have hC0:List.replicate t.levels.length (.sl [] .full) = C 0:=by rw [hC]; simp
 have hCn:C t.levels.length = t.levels.map fun lv => .sl ((zd5 s lv).map EncE.cs) .no:=by rw [hC]; simp
 rw [hC0]
 refine zbA (t.levels.length) [] [2,4,5,7,9,30,31] (fun i => [(32,.int .i64 i)]) (fun i _ => mem ++ [.cells [.int .i64 t.last,.sl (t.heights.map EncE.cs) .no,.int .i64 t.step,.sl (t.levels.map EncE.cs) .no,.sl (t.marks.map EncE.cs) .no],.cells ((zft s).l.map (AV.int .i64)),.cells (C i)]) (fun _ => True) ?_ ?_ ?_ ?_
 ·trivial
 ·refine ⟨rfl,rfl,rfl,by show n0 ≤ (mem ++ _).length; rw [czc,hn0]; omega,?_,?_,zbx ?_,trivial⟩
  ·simp only [zag,zcn]; exact za1 _
  ·show zaP _ (mem ++ [_,_,_]).length _
   rw [czc,hn0]
   simp [AV.bare,zal,zaP,zaS,zak,zau,zag,tokz1,lk,zab,za4]
  ·simp only [zag,zcn]
   rw [czc,hn0]
   exact zcl hm (by simp) (by simp [AV.bare,zal,zaP,zaS,zak,zau,zag,tokz1,lk,zab,za4,hCb])
 ·intro i hi _
  have hi':=czH.2 hi
  have hge:(t.levels.map EncE.cs).getD i [] = [AV.int IntKind.i64 (at_ t.levels i)]:=by rw [zat hi]; rfl
  have hov:=zoV (fun lv => AV.sl ((zd5 s lv).map EncE.cs) .no) (.sl [] .full) hi
  rw [← hC,← hC] at hov
  have hcl:=hCl i (by omega)
  simp (maxSteps:=4000000) only [go_sem,zae,zac,zad,zas,czb,cza,↓reduceIte,zao,zaa,onz,hL,gL,g0,gk,s0,sk,hn0,hi',hge,hw,hov,hcl,hs,czd,czc]
  all_goals (repeat' first | (with_reducible first | rfl | apply And.intro | assumption) | ((with_reducible show zaf _ _ = true); rfl)) <;> try first | omega | (simp only [InR]; omega)
  refine nxt hi trivial ⟨rfl,rfl,rfl,by show n0 ≤ (mem ++ _).length; rw [czc,hn0]; omega,za1 _,?_,zbx ?_,trivial⟩
  ·show zaP _ (mem ++ [_,_,_]).length _
   rw [czc,hn0]
   simp [AV.bare,zal,zaP,zaS,zak,zau,zag,tokz1,lk,zab,za4]
  ·dsimp only [zag]
   rw [czc,hn0]
   exact zcl hm (by simp) (by simp [AV.bare,zal,zaP,zaS,zak,zau,zag,tokz1,lk,zab,za4,hCb])
 ·intro _
  simp (maxSteps:=4000000) only [go_sem,zae,zac,zad,zap,zas,czb,cza,↓reduceIte,zao,zaa,onz,hn0,czA,decide_false,hCn,czd,czc]
  all_goals (repeat' first | (with_reducible first | rfl | apply And.intro | assumption) | ((with_reducible show zaf _ _ = true); rfl)) <;> try first | omega | (simp only [InR]; omega)
  refine ⟨n0 + 3,by omega,by simp [hn0],cze (by simp [hn0]),by simp [AV.bare,zal,zaP,zaS,zak,zau,zag,tokz1,lk,zab,za4],?_⟩
  rw [cze (by simp [hn0])]
  refine zcl hm (by omega) ?_
  rw [← hCn]
  simp [AV.bare,zal,zaP,zaS,zak,zau,zag,tokz1,lk,zab,za4,hCb]
theorem seaX_call (y:Yd) (s:List Int) (hv:VY y) (hl:za3 y.t s = true) (hL:zab mem L = .cells (s.map (AV.int .i64))) (hm:∀ o ∈ mem,zcd mem.length o) (hs4:s.length ≤ 4096) :
  zfs Tryz.prog 73 [.agg (ydC y),.arr L 0 s.length 1] mem (fun r m => r = .tup [seaC (zbP y.t s),.bool true] ∧ m = mem):=by
 have hf:=hv.f
 have hok:=hv.fok
 have hlv:=hok.lv
 have h10:s.length ≤ 10:=by have:=zbI hl; have:=hok.len; have:=hv.l0; omega
 have hLl:=zbi hL (by simp)
 obtain ⟨n0,hn0⟩:∃ n0,mem.length = n0:=⟨_,rfl⟩
 rw [hn0] at hm hLl
 have gL:∀ r,zab (mem ++ r) L = .cells (s.map (AV.int .i64)):=fun r => by rw [zaW (by omega),hL]
 have g0:∀ r,zab (mem ++ r) n0 = zab r 0:=fun r => by rw [← hn0]; exact zaQ _ _ 0
 have gk:∀ r k,zab (mem ++ r) (n0 + k) = zab r k:=fun r k => by rw [← hn0]; exact zaQ _ _ k
 have s0:∀ r o,(mem ++ r).set n0 o = mem ++ r.set 0 o:=fun r o => by rw [← hn0]; exact zb2 _ _ 0 _
 have sk:∀ r k o,(mem ++ r).set (n0 + k) o = mem ++ r.set k o:=fun r k o => by rw [← hn0]; exact zb2 _ _ k _
 have hso:seaC (zbP y.t s) = .agg [.sl (s.map EncE.cs) .no,.sl ((y.t.levels.map (zq0 s)).map EncE.cs) .no]:=rfl
 rw [hso]
 obtain ⟨R,hR⟩:∃ R:Nat → List (BA 10),∀ i,R i = (y.t.levels.take i).map (zq0 s):=⟨_,fun _ => rfl⟩
 have hRl:∀ i,i ≤ y.t.levels.length → (R i).length = i:=fun i hi => by rw [hR]; simp; omega
 have hRs:∀ i,i < y.t.levels.length → R (i + 1) = R i ++ [zq0 s (at_ y.t.levels i)]:=fun i hi => by rw [hR,hR,zaX hi,List.map_append]; rfl
 have hRf:R y.t.levels.length = y.t.levels.map (zq0 s):=by rw [hR,czm]
 rw [← hRf]
 have hR0:R 0 = []:=by rw [hR]; rfl
 have hP:=zxi (mem:=mem ++ [.cells (ydC y),.cells [.sl [] .full,.sl [] .full]]) y.t s hf hl (gL _) (by
  rw [czc,hn0]
  refine zcl hm (by simp) ?_
  simp [AV.bare,zal,zaP,zaS,zak,zau,zag,tokz1,lk,zab,za4,ydC])
 rw [zpv,czc,hn0] at hP
 unfold ydC at hP ⊢
 simp only [cza,czy,Nat.reduceAdd,Nat.zero_add,Nat.add_assoc] at hP
 refine zb5 (Φ:=P119) Tryz.func73 rfl (by rfl) (by rw [Tryz.ntmps73]; simp) zaF P119_ok ?_
 rw [Tryz.ntmps73]
 simp only [Tryz.f73,zah,zaq]
 refine zar fun Q1 h1 => ?_
 simp (maxSteps:=4000000) only [go_sem,zae,zac,zad,zap,zas,czb,cza,↓reduceIte,zao,zaa,onz,hL,gL,g0,gk,s0,sk,hn0,czd,czc]
 all_goals (repeat' first | (with_reducible first | rfl | apply And.intro | assumption) | ((with_reducible show zaf _ _ = true); rfl)) <;> try first | omega | (simp only [InR]; omega)
 rw [h1]; clear h1 Q1; simp only [zaG,zan]
 refine zar fun Q1 h1 => ?_
 simp (maxSteps:=4000000) only [go_sem,zae,zac,zad,zap,zas,czb,cza,↓reduceIte,zao,zaa,onz,hL,gL,g0,gk,s0,sk,hn0,czd,czc]
 refine ⟨_,hP,?_⟩
 rintro r mem' ⟨rfl,rfl⟩ _
 simp (maxSteps:=4000000) only [go_sem,zae,zac,zad,zap,zas,czb,cza,↓reduceIte,zao,zaa,onz,hn0,czd,czc]
 rw [h1]; clear h1 Q1; simp only [zaG,zan]
 simp (maxSteps:=4000000) only [go_sem,zae,zac,zad,zap,zas,czb,cza,↓reduceIte,zao,zaa,onz,hL,gL,g0,gk,s0,sk,hn0,czd,czc]
 all_goals (repeat' first | (with_reducible first | rfl | apply And.intro | assumption) | ((with_reducible show zaf _ _ = true); rfl)) <;> try first | omega | (simp only [InR]; omega)
 obtain ⟨O,hO⟩:∃ O:List AV,(y.t.levels.map fun lv => AV.sl ((zd5 s lv).map EncE.cs) .no) = O:=⟨_,rfl⟩
 have hOb:∀ k,(∀ c ∈ O,bel k 9 c) = True:=fun k => eq_true fun c hc => by
  rw [← hO] at hc
  obtain ⟨lv,_,rfl⟩:=czx.1 hc
  simp [AV.bare,zal,zaP,zaS,zak,zau,zag,tokz1,lk,zab,za4]
 have hOl:O.length = y.t.levels.length:=by rw [← hO]; simp
 have hOa:∀ i,i < y.t.levels.length → O.getD i .undef = .sl ((zd5 s (at_ y.t.levels i)).map EncE.cs) .no:=fun i hi => by rw [← hO]; simp [at_,List.getD,hi]
 rw [hO]
 refine zbA (y.t.levels.length) [.cell (n0 + 1) 1 10] [1,4,5,7,20,21] (fun i => [(22,.int .i64 i)]) (fun i _ => mem ++ [.cells [.int .i64 y.t.last,.sl (y.t.heights.map EncE.cs) .no,.int .i64 y.t.step,.sl (y.t.levels.map EncE.cs) .no,.sl (y.t.marks.map EncE.cs) .no,.int .i64 y.hands,.sl (y.chairs.map EncE.cs) .no,.sl (y.order.map EncE.cs) .no,.sl (y.hires.map EncE.cs) .no],.cells [.sl [] .full,.sl ((R i).map EncE.cs) (.own (n0 + 5))],.cells [.int .i64 y.t.last,.sl (y.t.heights.map EncE.cs) .no,.int .i64 y.t.step,.sl (y.t.levels.map EncE.cs) .no,.sl (y.t.marks.map EncE.cs) .no],.cells ((zft s).l.map (AV.int .i64)),.cells O,.tok i 10]) (fun _ => True) ?_ ?_ ?_ ?_
 ·trivial
 ·simp only [zdT,zcn,tokz1,lk,mA0,mA1,mA2,mA3,mA4,mA5,mA6,List.getD_cons_zero,List.getD_cons_succ,List.set_cons_succ,List.set_cons_zero,czc,czd,czs,List.nil_append,cza,czy,Nat.reduceAdd,Nat.zero_add,List.map_nil,Nat.reduceEqDiff,↓reduceIte,gk,sk,hn0,hR0]
  refine ⟨rfl,rfl,rfl,by show n0 ≤ (mem ++ _).length; rw [czc,hn0]; omega,za1 _,?_,zbx ?_,trivial⟩
  ·dsimp only [zag]
   rw [czc,hn0]
   simp [AV.bare,zal,zaP,zaS,zak,zau,zag,tokz1,lk,zab,za4]
   omega
  ·dsimp only [zag]
   rw [czc,hn0]
   exact zcl hm (by simp) (by simp [AV.bare,zal,zaP,zaS,zak,zau,zag,tokz1,lk,zab,za4,hOb])
 ·intro i hi _
  have hi':=czH.2 hi
  obtain ⟨w,hw⟩:∃ w,zd5 s (at_ y.t.levels i) = w:=⟨_,rfl⟩
  have hge:=hOa i hi
  rw [hw] at hge
  have hwl:∀ x ∈ w,0 ≤ x ∧ x < 10:=fun x hx => wetL_lt h10 (by rw [hw]; exact hx)
  have hwn:w.length ≤ s.length:=by rw [← hw]; exact zh1 _ _ _
  have hrow:ze3 w w.length = (zq0 s (at_ y.t.levels i)).l:=by rw [← hw]; exact zo4 h10 _
  have hm0:[AV.bool false,AV.bool false,AV.bool false,AV.bool false,AV.bool false,AV.bool false,AV.bool false,AV.bool false,AV.bool false,AV.bool false] = (ze3 w 0).map AV.bool:=rfl
  have hrl:=hRl i (by omega)
  simp only [zdT,zcn,tokz1,lk,mA0,mA1,mA2,mA3,mA4,mA5,mA6,List.getD_cons_zero,List.getD_cons_succ,List.set_cons_succ,List.set_cons_zero,czc,czd,czs,List.nil_append,cza,czy,Nat.reduceAdd,Nat.zero_add,List.map_nil,Nat.reduceEqDiff,↓reduceIte,gk,sk,hn0,hR0]
  iterate 2 (
   refine zar fun Q1 h1 => ?_
   simp (maxSteps:=4000000) only [go_sem,zae,zac,zad,zap,zas,zab,czb,cza,↓reduceIte,zao,zaa,onz,hi']
   all_goals (repeat' first | (with_reducible first | rfl | apply And.intro | assumption) | ((with_reducible show zaf _ _ = true); rfl)) <;> try first | omega | (simp only [InR]; omega)
   rw [h1]; clear h1 Q1; simp only [zaG,zan])
  refine zar fun Qb hb => ?_
  rw [zff]
  try simp only [zan]
  iterate 3 (
   refine zar fun Q1 h1 => ?_
   simp (maxSteps:=4000000) only [go_sem,zae,zac,zad,zap,zas,czb,cza,↓reduceIte,zao,zaa,onz,gk,sk,hn0,hge,hm0,hOl,czd,czc]
   all_goals (repeat' first | (with_reducible first | rfl | apply And.intro | assumption) | ((with_reducible show zaf _ _ = true); rfl)) <;> try first | omega | (simp only [InR]; omega)
   rw [h1]; clear h1 Q1; simp only [zaG,zan])
  simp (maxSteps:=4000000) only [go_sem,zae,zac,zad,zap,zas,czb,cza,↓reduceIte,zao,zaa,onz]
  refine zbA (w.length) [] [1,4,5,7,9,10,20,21,22,24,25,26,27] (fun k => [(28,.int .i64 k)]) (fun k _ => mem ++ [.cells [.int .i64 y.t.last,.sl (y.t.heights.map EncE.cs) .no,.int .i64 y.t.step,.sl (y.t.levels.map EncE.cs) .no,.sl (y.t.marks.map EncE.cs) .no,.int .i64 y.hands,.sl (y.chairs.map EncE.cs) .no,.sl (y.order.map EncE.cs) .no,.sl (y.hires.map EncE.cs) .no],.cells [.sl [] .full,.sl ((R i).map EncE.cs) (.own (n0 + 5))],.cells [.int .i64 y.t.last,.sl (y.t.heights.map EncE.cs) .no,.int .i64 y.t.step,.sl (y.t.levels.map EncE.cs) .no,.sl (y.t.marks.map EncE.cs) .no],.cells ((zft s).l.map (AV.int .i64)),.cells O,.tok i 10,.cells ((ze3 w k).map AV.bool)]) (fun _ => True) ?_ ?_ ?_ ?_
  ·trivial
  ·refine ⟨rfl,rfl,rfl,by show n0 ≤ (mem ++ _).length; rw [czc,hn0]; omega,za1 _,?_,zbx ?_,trivial⟩
   ·dsimp only [zag]
    rw [czc,hn0]
    simp [AV.bare,zal,zaP,zaS,zak,zau,zag,tokz1,lk,zab,za4]
    omega
   ·dsimp only [zag]
    rw [czc,hn0]
    exact zcl hm (by simp) (by simp [AV.bare,zal,zaP,zaS,zak,zau,zag,tokz1,lk,zab,za4,hOb])
  ·intro k hk _
   have hk':=czH.2 hk
   have hkx:=hwl _ (zbb hk)
   obtain ⟨x,hx⟩:=czu hkx.1
   have hge2:(w.map EncE.cs).getD k [] = [AV.int .i64 (x:Int)]:=by rw [zat hk,hx]; rfl
   have hml:=zdX w k
   have hov:=zmB (l:=ze3 w k) (i:=x) (by omega) true
   have hms:(ze3 w k).set x true = ze3 w (k + 1):=by
    show _ = (ze3 w k).set (at_ w k).toNat true
    rw [hx]; rfl
   rw [hms] at hov
   have hx10:x < 10:=by omega
   simp only [zcn]
   simp (maxSteps:=4000000) only [go_sem,zae,zac,zad,zas,czb,cza,↓reduceIte,zao,zaa,onz,gk,sk,hn0,hk',hge2,hml,hov,czd,czc]
   all_goals (repeat' first | (with_reducible first | rfl | apply And.intro | assumption) | ((with_reducible show zaf _ _ = true); rfl)) <;> try first | omega | (simp only [InR]; omega)
   refine nxt hk trivial ⟨rfl,rfl,rfl,by show n0 ≤ (mem ++ _).length; rw [czc,hn0]; omega,za1 _,?_,zbx ?_,trivial⟩
   ·dsimp only [zag]
    rw [czc,hn0]
    simp [AV.bare,zal,zaP,zaS,zak,zau,zag,tokz1,lk,zab,za4]
    omega
   ·dsimp only [zag]
    rw [czc,hn0]
    exact zcl hm (by simp) (by simp [AV.bare,zal,zaP,zaS,zak,zau,zag,tokz1,lk,zab,za4,hOb])
  ·intro _
   have hra:=(zq0 s (at_ y.t.levels i)).h
   simp only [zcn]
   simp (maxSteps:=4000000) only [go_sem,zae,zac,zad,zap,zas,czb,cza,↓reduceIte,zao,zaa,onz,gk,sk,hn0,czA,decide_false,hrow,hra,hrl,hb,czd,czc]
   all_goals (repeat' first | (with_reducible first | rfl | apply And.intro | assumption) | ((with_reducible show zaf _ _ = true); rfl)) <;> try first | omega | (simp only [InR]; omega)
   refine nxt hi trivial ?_
   have hRm:(R (i + 1)).map EncE.cs = (R i).map EncE.cs ++ [(zq0 s (at_ y.t.levels i)).l.map AV.bool]:=by rw [hRs i hi,List.map_append]; rfl
   simp only [hRm]
   refine ⟨rfl,rfl,rfl,by show n0 ≤ (mem ++ _).length; rw [czc,hn0]; omega,zm9 (r:=[_,_,_,_,_,_]) (r':=[_,_,_,_,_,_,_]) ⟨rfl,rfl,rfl,rfl,rfl,rfl,trivial⟩ mem,?_,zbx ?_,trivial⟩
   ·dsimp only [zag]
    rw [czc,hn0]
    simp [AV.bare,zal,zaP,zaS,zak,zau,zag,tokz1,lk,zab,za4]
    omega
   ·dsimp only [zag]
    rw [czc,hn0,← hRm]
    exact zcl hm (by simp) (by simp [AV.bare,zal,zaP,zaS,zak,zau,zag,tokz1,lk,zab,za4,hOb])
 ·intro _
  simp only [zdT,zcn,tokz1,lk,mA0,mA1,mA2,mA3,mA4,mA5,mA6,List.getD_cons_zero,List.getD_cons_succ,List.set_cons_succ,List.set_cons_zero,czc,czd,czs,List.nil_append,cza,czy,Nat.reduceAdd,Nat.zero_add,List.map_nil,Nat.reduceEqDiff,↓reduceIte,gk,sk,hn0,hR0]
  simp (maxSteps:=4000000) only [go_sem,zae,zac,zad,zap,zas,czb,cza,↓reduceIte,zao,zaa,onz,gk,sk,hn0,czA,decide_false]
  all_goals (repeat' first | (with_reducible first | rfl | apply And.intro | assumption) | ((with_reducible show zaf _ _ = true); rfl)) <;> try first | omega | (simp only [InR]; omega)
  obtain ⟨X,hX⟩:∃ X:List AObj,[AObj.cells [.int .i64 y.t.last,.sl (y.t.heights.map EncE.cs) .no,.int .i64 y.t.step,.sl (y.t.levels.map EncE.cs) .no,.sl (y.t.marks.map EncE.cs) .no,.int .i64 y.hands,.sl (y.chairs.map EncE.cs) .no,.sl (y.order.map EncE.cs) .no,.sl (y.hires.map EncE.cs) .no],.cells [.sl [] .full,.sl ((R y.t.levels.length).map EncE.cs) (.own (n0 + 5))],.cells [.int .i64 y.t.last,.sl (y.t.heights.map EncE.cs) .no,.int .i64 y.t.step,.sl (y.t.levels.map EncE.cs) .no,.sl (y.t.marks.map EncE.cs) .no],.cells ((zft s).l.map (AV.int .i64)),.cells O,.tok y.t.levels.length 10] = X:=⟨_,rfl⟩
  have hCl:=ztq (mem:=mem ++ X) s (gL _) (by
   rw [czc,hn0,← hX]
   exact zcl hm (by simp) (by simp [AV.bare,zal,zaP,zaS,zak,zau,zag,tokz1,lk,zab,za4,hOb])) hs4
  rw [czd,← hX] at hCl
  refine ⟨_,hCl,?_⟩
  rintro r mem' ⟨rfl,rfl⟩ _
  simp (maxSteps:=4000000) only [go_sem,zae,zac,zad,zap,zas,czb,cza,↓reduceIte,zao,zaa,onz,gk,sk,hn0,czd,czc]
  all_goals (repeat' first | (with_reducible first | rfl | apply And.intro | assumption) | ((with_reducible show zaf _ _ = true); rfl)) <;> try first | omega | (simp only [InR]; omega)
  refine ⟨n0,czf _,by omega,List.take_left' hn0,by simp [AV.bare,zal,zaP,zaS,zak,zau,zag,tokz1,lk,zab,za4],?_⟩
  rw [List.take_left' hn0]
  exact hm
end
end Go.Proofs
