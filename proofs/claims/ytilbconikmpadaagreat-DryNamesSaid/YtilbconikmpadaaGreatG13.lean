/- The texts H4, H5, H6, HU, HX, joined. -/
import Derived.Test.YtilbconikmpadaaGreatG12
set_option linter.all false
namespace Go.Proofs
open Go.Fs
set_option maxHeartbeats 4000000
set_option maxRecDepth 8000
theorem zkF (y:Yd) (h:y.t.heights.length ≤ 4096 ∧ y.order.length ≤ 4096):zaP Tryz.prog 26 [Enc.enc y] (· = Enc.enc (zbk y)):=by
 have h1:=h.1
 have h2:=h.2
 unfold zbk
 by_cases a1:5 < y.chairs.length
 ·rw [if_pos (.inl a1)]
  simp only [zcf]
  refine cpz zfH Tryz.func26 zaB ?_
  rw [Tryz.ntmps26]
  simp only [Tryz.f26,zai,zam]
  iterate 2 (
   refine zaC fun Q1 h1 => ?_
   simp (maxSteps:=4000000) only [go_sem,zae,zac,zad,zan,zaq,zaa,czb,cza,↓reduceIte,zab,onz]
   all_goals (repeat' first | (with_reducible first | rfl | apply And.intro | assumption) | ((with_reducible show zaj _ _ = true); rfl)) <;> try first | omega | (simp only [InR]; omega)
   rw [h1]; clear h1 Q1; simp only [zaW,zaA])
  simp (maxSteps:=4000000) only [go_sem,zae,zac,zad,zan,zaq,zaa,czb,cza,↓reduceIte,zab,onz,show ((5:Int) < y.chairs.length) by omega]
 by_cases a2:5 < y.hires.length
 ·rw [if_pos (.inr a2)]
  simp only [zcf]
  refine cpz zfH Tryz.func26 zaB ?_
  rw [Tryz.ntmps26]
  simp only [Tryz.f26,zai,zam]
  iterate 2 (
   refine zaC fun Q1 h1 => ?_
   simp (maxSteps:=4000000) only [go_sem,zae,zac,zad,zan,zaq,zaa,czb,cza,↓reduceIte,zab,onz]
   all_goals (repeat' first | (with_reducible first | rfl | apply And.intro | assumption) | ((with_reducible show zaj _ _ = true); rfl)) <;> try first | omega | (simp only [InR]; omega)
   rw [h1]; clear h1 Q1; simp only [zaW,zaA])
  simp (maxSteps:=4000000) only [go_sem,zae,zac,zad,zan,zaq,zaa,czb,cza,↓reduceIte,zab,onz,show ¬ ((5:Int) < y.chairs.length) by omega,show ((5:Int) < y.hires.length) by omega]
 rw [if_neg (show ¬ (5 < y.chairs.length ∨ 5 < y.hires.length) by omega)]
 have a1':¬ ((5:Int) < y.chairs.length):=by omega
 have a2':¬ ((5:Int) < y.hires.length):=by omega
 have hch:y.chairs.length ≤ 4096:=by omega
 have hhi:y.hires.length ≤ 4096:=by omega
 by_cases c:zcJ y.t true = 0
 case neg =>
  have hb:bndQ y.t = ([],zcJ y.t true):=by unfold bndQ; rw [if_neg c]
  have e:(if zbq y.t ≠ 0 then zbq y.t else if zaS y.t = [] then 11 else if (inB y.hands 0 5 && za8 y.chairs.length y.order) = false then 1 else if y.chairs.all (zdi y.t) = false then 1 else if y.hires.all (zeJ y.chairs.length y.t.last) = false then 1 else 0) = zcJ y.t true:=by
   by_cases f0:zbq y.t = 0
   ·rw [if_neg (by simp [f0])]
    by_cases t0:zaS y.t = []
    ·rw [if_pos t0,zup f0 t0]
    ·exact absurd (askErr_ok f0 t0) c
   ·rw [if_pos f0,zuq _ f0]
  rw [e]
  obtain ⟨x,hx⟩:∃ x,zcJ y.t true = x:=⟨_,rfl⟩
  rw [hx] at hb c ⊢
  simp only [zcf]
  refine cpz zfH Tryz.func26 zaB ?_
  rw [Tryz.ntmps26]
  simp only [Tryz.f26,zai,zam]
  iterate 2 (
   refine zaC fun Q1 h1 => ?_
   simp (maxSteps:=4000000) only [go_sem,zae,zac,zad,zan,zaq,zaa,czb,cza,↓reduceIte,zab,onz]
   all_goals (repeat' first | (with_reducible first | rfl | apply And.intro | assumption) | ((with_reducible show zaj _ _ = true); rfl)) <;> try first | omega | (simp only [InR]; omega)
   rw [h1]; clear h1 Q1; simp only [zaW,zaA])
  iterate 2 (
   refine zaC fun Q1 h1 => ?_
   simp (maxSteps:=4000000) only [go_sem,zae,zac,zad,zan,zaq,zaa,czb,cza,↓reduceIte,zab,onz,a1',a2',hb,c]
   all_goals (repeat' first | (with_reducible first | rfl | apply And.intro | assumption) | ((with_reducible show zaj _ _ = true); rfl)) <;> try first | omega | (simp only [InR]; omega)
   rw [h1]; clear h1 Q1; simp only [zaW,zaA])
  simp (maxSteps:=4000000) only [go_sem,zae,zac,zad,zan,zaq,zaa,czb,cza,↓reduceIte,zab,onz,hb,c,decide_true,decide_false]
  all_goals exact auz
 obtain ⟨f0,_,t0⟩:=zgt c
 obtain ⟨bl,hb⟩:∃ bl,bndQ y.t = (bl,0):=⟨_,by unfold bndQ; rw [if_pos c]⟩
 rw [if_neg (by simp [f0]),if_neg t0]
 have hlv:y.t.levels.length ≤ 4096:=by have:=(zcs f0).lv; omega
 cases b1:inB y.hands 0 5
 ·rw [Bool.false_and,if_pos rfl]
  simp only [zcf]
  refine cpz zfH Tryz.func26 zaB ?_
  rw [Tryz.ntmps26]
  simp only [Tryz.f26,zai,zam]
  iterate 3 (
   refine zaC fun Q1 h1 => ?_
   simp (maxSteps:=4000000) only [go_sem,zae,zac,zad,zan,zaq,zaa,czb,cza,↓reduceIte,zab,onz,a1',a2',hb]
   all_goals (repeat' first | (with_reducible first | rfl | apply And.intro | assumption) | ((with_reducible show zaj _ _ = true); rfl)) <;> try first | omega | (simp only [InR]; omega)
   rw [h1]; clear h1 Q1; simp only [zaW,zaA])
  simp (maxSteps:=4000000) only [go_sem,zae,zac,zad,zan,zaq,zaa,czb,cza,↓reduceIte,zab,onz,hb,b1]
  all_goals exact auz
 rw [Bool.true_and]
 cases b2:y.chairs.all (zdi y.t)
 ·have e:(if za8 y.chairs.length y.order = false then (1:Int) else if false = false then 1 else if y.hires.all (zeJ y.chairs.length y.t.last) = false then 1 else 0) = 1:=by split <;> rfl
  rw [e]
  simp only [zcf]
  refine cpz zfH Tryz.func26 zaB ?_
  rw [Tryz.ntmps26]
  simp only [Tryz.f26,zai,zam]
  iterate 3 (
   refine zaC fun Q1 h1 => ?_
   simp (maxSteps:=4000000) only [go_sem,zae,zac,zad,zan,zaq,zaa,czb,cza,↓reduceIte,zab,onz,a1',a2',hb]
   all_goals (repeat' first | (with_reducible first | rfl | apply And.intro | assumption) | ((with_reducible show zaj _ _ = true); rfl)) <;> try first | omega | (simp only [InR]; omega)
   rw [h1]; clear h1 Q1; simp only [zaW,zaA])
  simp (maxSteps:=4000000) only [go_sem,zae,zac,zad,zan,zaq,zaa,czb,cza,↓reduceIte,zab,onz,hb,b1,b2]
  all_goals exact auz
 cases b3:za8 y.chairs.length y.order
 ·rw [if_pos rfl]
  simp only [zcf]
  refine cpz zfH Tryz.func26 zaB ?_
  rw [Tryz.ntmps26]
  simp only [Tryz.f26,zai,zam]
  iterate 3 (
   refine zaC fun Q1 h1 => ?_
   simp (maxSteps:=4000000) only [go_sem,zae,zac,zad,zan,zaq,zaa,czb,cza,↓reduceIte,zab,onz,a1',a2',hb]
   all_goals (repeat' first | (with_reducible first | rfl | apply And.intro | assumption) | ((with_reducible show zaj _ _ = true); rfl)) <;> try first | omega | (simp only [InR]; omega)
   rw [h1]; clear h1 Q1; simp only [zaW,zaA])
  simp (maxSteps:=4000000) only [go_sem,zae,zac,zad,zan,zaq,zaa,czb,cza,↓reduceIte,zab,onz,hb,b1,b2,b3]
  all_goals exact auz
 cases b4:y.hires.all (zeJ y.chairs.length y.t.last)
 all_goals
  simp only [Bool.true_eq_false,if_false,if_true]
  simp only [zcf]
  refine cpz zfH Tryz.func26 zaB ?_
  rw [Tryz.ntmps26]
  simp only [Tryz.f26,zai,zam]
  iterate 3 (
   refine zaC fun Q1 h1 => ?_
   simp (maxSteps:=4000000) only [go_sem,zae,zac,zad,zan,zaq,zaa,czb,cza,↓reduceIte,zab,onz,a1',a2',hb]
   all_goals (repeat' first | (with_reducible first | rfl | apply And.intro | assumption) | ((with_reducible show zaj _ _ = true); rfl)) <;> try first | omega | (simp only [InR]; omega)
   rw [h1]; clear h1 Q1; simp only [zaW,zaA])
  simp (maxSteps:=4000000) only [go_sem,zae,zac,zad,zan,zaq,zaa,czb,cza,↓reduceIte,zab,onz,hb,b1,b2,b3,b4]
  all_goals (repeat' first | (with_reducible first | rfl | apply And.intro | assumption) | ((with_reducible show zaj _ _ = true); rfl)) <;> try first | omega | (simp only [InR]; omega)
def ziO (y:Yd) (s:Sea) (order:List Int):List Sy:=(List.range y.chairs.length).map fun c:Nat => zfP y s ⟨c,zca y order c⟩
def zms:List AV:=[.int .i64 0,.int .i64 0,.sl [] .full]
theorem zhs (z:List AV):∀ n,zb9 z n = (List.replicate n z).flatten
 | 0 => rfl
 | n + 1 => by rw [zb9,zhs z n]; rfl
def zgq (L:List Sy) (i:Nat):List AV:=((L.take i).map EncE.cs).flatten ++ (List.replicate (L.length - i) zms).flatten
theorem znx (l:List Sy):((l.map EncE.cs).flatten).length = l.length * 3:=by
 induction l with
 | nil => rfl
 | cons x l ih => simp only [czb,List.flatten_cons,czc,ih,cza]; rw [cs_sy]; simp; omega
theorem rep_len3 (n:Nat):((List.replicate n zms).flatten).length = n * 3:=by
 induction n with
 | zero => rfl
 | succ n ih => simp only [List.replicate_succ,List.flatten_cons,czc,ih]; show 3 + n * 3 = _; omega
theorem zt9 (L:List Sy) {i:Nat} (h:i ≤ L.length):(zgq L i).length = L.length * 3:=by
 unfold zgq
 rw [czc,znx,rep_len3,czO]
 have:min i L.length = i:=by omega
 rw [this]; omega
theorem zqp (L:List Sy) {i:Nat} (h:i < L.length):zan (zgq L i) (i * 3) (EncE.cs (at_ L i)) = zgq L (i + 1):=by
 unfold zgq
 have e1:L.length - i = (L.length - (i + 1)) + 1:=by omega
 have e2:i * 3 = (((L.take i).map EncE.cs).flatten).length:=by rw [znx,czO]; congr 1; omega
 rw [e1,List.replicate_succ,List.flatten_cons,e2,over_at (by rw [cs_sy]; rfl),zaV h,List.map_append,List.flatten_append]
 simp
theorem zua (L:List Sy) (i k:Nat):(∀ c ∈ zgq L i,bel k 9 c) = True:=by
 refine eq_true fun c hc => ?_
 unfold zgq at hc
 rcases czv.1 hc with h | h
 ·obtain ⟨e,he,hce⟩:=List.mem_flatten.1 h
  obtain ⟨x,_,rfl⟩:=czx.1 he
  exact zcR _ _ _ (EncE.ok x c hce) (by rw [zrS]; omega)
 ·obtain ⟨e,he,hce⟩:=List.mem_flatten.1 h
  rw [(czL.1 he).2] at hce
  simp only [zms,czn,czk,or_false] at hce
  rcases hce with rfl | rfl | rfl <;> simp [bel]
theorem zlg (L:List Sy):zgq L L.length = (L.map EncE.cs).flatten:=by unfold zgq; simp
structure YS (y:Yd) (s:Sea):Prop where
 vy:VY y
 rl:s.rows.length = y.t.levels.length
theorem YS.pre {y:Yd} {s:Sea} (h:YS y s) {c b:Int} (h0:0 ≤ c) (h1:c < y.chairs.length):((0 ≤ y.t.last ∧ y.t.last ≤ 9) ∧ 0 ≤ c ∧ c < y.chairs.length) ∧ (0 ≤ (at_ y.chairs c.toNat).row ∧ (at_ y.chairs c.toNat).row < s.rows.length) ∧ (0 ≤ (at_ y.chairs c.toNat).hours ∧ (at_ y.chairs c.toNat).hours ≤ 5) ∧ 1 ≤ (at_ y.chairs c.toNat).rot ∧ (at_ y.chairs c.toNat).rot ≤ 9:=by
 obtain ⟨g1,g2,g3,g4⟩:=h.vy.at h0 h1
 have:=h.rl
 exact ⟨⟨h.vy.l0,h0,h1⟩,⟨g2.1,by omega⟩,g3,g4⟩
theorem play_call (y:Yd) (s:Sea) (order:List Int) (h:YS y s ∧ order.length ≤ 4096):zaP Tryz.prog 75 [Enc.enc y,Enc.enc s,Enc.enc order] (· = Enc.enc (ziO y s order)):=by
 obtain ⟨hy,ho⟩:=h
 have hl:=hy.vy.l0
 have hh0:=hy.vy.h0
 have hh5:=hy.vy.h5
 have hc5:=hy.vy.c5
 obtain ⟨L,hL⟩:∃ L,ziO y s order = L:=⟨_,rfl⟩
 have hLl:L.length = y.chairs.length:=by rw [← hL]; simp [ziO]
 have hLa:∀ i,i < y.chairs.length → at_ L i = zfP y s ⟨(i:Int),zca y order i⟩:=fun i hi => by rw [← hL]; unfold ziO; rw [zhX _ hi]
 rw [hL]
 obtain ⟨n,hn⟩:∃ n,y.chairs.length = n:=⟨_,rfl⟩
 rw [hn] at hLl hLa hc5
 obtain ⟨C,hC⟩:∃ C,zgq L = C:=⟨_,rfl⟩
 have hCl:∀ i,i ≤ n → (C i).length = n * 3:=fun i hi => by rw [← hC,zt9 L (by omega),hLl]
 have hCb:∀ i k,(∀ c ∈ C i,bel k 9 c) = True:=fun i k => by rw [← hC]; exact zua L i k
 have hC0:zb9 zms n = C 0:=by rw [← hC,zhs]; unfold zgq; simp [hLl]
 have hCs:∀ i,i < n → zan (C i) (i * 3) [.int .i64 (at_ L i).wet,.int .i64 (at_ L i).rot,.sl ((at_ L i).free.map EncE.cs) .no] = C (i + 1):=fun i hi => by rw [← hC]; exact zqp L (by omega)
 have hCn:∀ M,(C n).map (zbW (zb5 8 M) M) = C n:=fun M => by rw [← hC,← hLl,zlg]; exact zta (by rw [zrS]; omega) L
 have hCc:zc4 3 n (C n) = L.map EncE.cs:=by
  rw [← hC,← hLl,zlg]
  have:=ziB (sz:=3) (L.map EncE.cs) (fun e he => by obtain ⟨x,_,rfl⟩:=czx.1 he; rfl)
  rwa [czz] at this
 unfold zms at hC0
 simp only [zcf]
 refine cpz zfH Tryz.func75 zaB ?_
 rw [Tryz.ntmps75]
 simp only [Tryz.f75,zai,zam]
 iterate 3 (
  refine zaC fun Q1 h1 => ?_
  simp (maxSteps:=4000000) only [go_sem,zae,zac,zad,zan,zaq,zaa,czb,cza,↓reduceIte,zab,onz,hn,hC0]
  all_goals (repeat' first | (with_reducible first | rfl | apply And.intro | assumption) | ((with_reducible show zaj _ _ = true); rfl)) <;> try first | omega | (simp only [InR]; omega)
  rw [h1]; clear h1 Q1; simp only [zaW,zaA])
 simp (maxSteps:=4000000) only [go_sem,zae,zac,zad,zan,zaq,zaa,czb,cza,↓reduceIte,zab,onz,hn]
 refine zbG (n) [] [2,3,4,6,7,14] (fun i => [(15,.int .i64 i)]) (fun i m => m.set 2 (.cells (C i))) (fun _ => True) ?_ ?_ ?_ ?_
 ·trivial
 ·simp [AV.bare,zal,zaN,zaR,zak,zar,zaf,tokz1,lk,zaa,za3,hCb]
 ·intro i hi _
  have hi':=czH.2 hi
  have hp:=hy.pre (c:=(i:Int)) (b:=0) (by omega) (by omega)
  have hat:=hLa i hi
  have hov:=hCs i hi
  have hcl:=hCl i (by omega)
  rw [hat] at hov
  obtain ⟨S,hS⟩:∃ S,zfP y s ⟨(i:Int),zca y order i⟩ = S:=⟨_,rfl⟩
  rw [hS] at hov
  unfold zan at hov
  simp only [cza,czy,Nat.reduceAdd,Nat.zero_add] at hov
  iterate 2 (
   refine zaC fun Q1 h1 => ?_
   simp (maxSteps:=4000000) only [go_sem,zae,zac,zad,zan,zaq,zaa,czb,cza,↓reduceIte,zab,onz,hi',hn]
   all_goals (repeat' first | (with_reducible first | rfl | apply And.intro | assumption) | ((with_reducible show zaj _ _ = true); rfl)) <;> try first | omega | (simp only [InR]; omega)
   rw [h1]; clear h1 Q1; simp only [zaW,zaA])
  refine zaC fun Qb hb => ?_
  rw [zeM]
  try simp only [zaA]
  refine zaC fun Q1 h1 => ?_
  simp (maxSteps:=4000000) only [go_sem,zae,zac,zad,zan,zaq,zaa,czb,cza,↓reduceIte,zab,onz,hn]
  all_goals (repeat' first | (with_reducible first | rfl | apply And.intro | assumption) | ((with_reducible show zaj _ _ = true); rfl)) <;> try first | omega | (simp only [InR]; omega)
  rw [h1]; clear h1 Q1; simp only [zaW,zaA]
  simp only [czF] at hp
  simp (maxSteps:=4000000) only [go_sem,zae,zac,zad,zan,zaq,zaa,czb,cza,↓reduceIte,zab,onz,hS,hcl,hov,hb]
  all_goals (repeat' first | (with_reducible first | rfl | apply And.intro | assumption) | ((with_reducible show zaj _ _ = true); rfl)) <;> try first | omega | (simp only [InR]; omega)
  refine nxt hi trivial ?_
  simp [AV.bare,zal,zaN,zaR,zak,zar,zaf,tokz1,lk,zaa,za3,hCb]
 ·intro _
  simp (maxSteps:=4000000) only [go_sem,zae,zac,zad,zan,zaq,zaa,czb,cza,↓reduceIte,zab,onz,czA,decide_false,hCl n (czf _),hCn,hCc]
  all_goals exact auz
def P115 (g:FuncId):=(zas 26 (zcC (fun y:Yd => y.t.heights.length ≤ 4096 ∧ y.order.length ≤ 4096) zbk) (zas 75 (zec (fun (y:Yd) (s:Sea) (order:List Int) => YS y s ∧ order.length ≤ 4096) ziO) (P114)):zaJ) g
theorem P115_ok:zaz Tryz.prog P115:=zah (zbj zkF) (zah (zb8 play_call) (zfH))
theorem zoD (d:Option Nat):zaF P115 d = none:=(zag (by decide) d).trans ((zag (by decide) d).trans (zoE d))
attribute [go_sem] P115 zoD
def zhq (y:Yd) (s:Sea) (out:List Int) (i:Nat):Bool:=out.contains (i:Int) || (at_ (ziO y s y.order) (at_ y.hires i).lo.toNat).free.contains (at_ y.hires i).hi
def zcr (y:Yd) (s:Sea) (out:List Int):Bool:=(List.range y.hires.length).all (zhq y s out)
theorem zkM (y:Yd) (s:Sea) (x:Rg):(zfP y s x).free.length ≤ hrs y:=znv _ _ _ _
theorem zpt (y:Yd) (s:Sea) (out:List Int) (h:YS y s ∧ out.length ≤ 4096):zaP Tryz.prog 77 [Enc.enc y,Enc.enc s,Enc.enc out] (· = Enc.enc (zcr y s out)):=by
 obtain ⟨hy,ho⟩:=h
 have hr5:=hy.vy.r5
 have hc5:=hy.vy.c5
 have hol:=zjB hy.vy.ord
 have hor:y.order.length ≤ 4096:=by omega
 obtain ⟨L,hL⟩:∃ L,ziO y s y.order = L:=⟨_,rfl⟩
 have hLl:L.length = y.chairs.length:=by rw [← hL]; simp [ziO]
 have hfl:∀ i,i < L.length → (at_ L i).free.length ≤ 4096:=fun i hi => by
  rw [← hL] at hi ⊢
  unfold ziO at hi ⊢
  rw [czz,List.length_range] at hi
  rw [zhX _ hi]
  have:=zkM y s ⟨(i:Int),zca y y.order i⟩
  have:=hy.vy.hrs
  omega
 have hall:∀ i,i < y.hires.length → ((List.range (i + 1)).all (zhq y s out)) = ((List.range i).all (zhq y s out) && zhq y s out i):=fun i hi => by
  rw [List.range_succ,List.all_append]; simp
 have hno:∀ i,i < y.hires.length → zhq y s out i = false → zcr y s out = false:=fun i hi q => by
  unfold zcr
  rw [List.all_eq_false]
  exact ⟨i,by simpa using hi,by rw [q]; simp⟩
 simp only [zcf]
 refine cpz P115_ok Tryz.func77 zaB ?_
 rw [Tryz.ntmps77]
 simp only [Tryz.f77,zai,zam]
 iterate 3 (
  refine zaC fun Q1 h1 => ?_
  simp (maxSteps:=4000000) only [go_sem,zae,zac,zad,zan,zaq,zaa,czb,cza,↓reduceIte,zab,onz,hL,hy,hor]
  all_goals (repeat' first | (with_reducible first | rfl | apply And.intro | assumption) | ((with_reducible show zaj _ _ = true); rfl)) <;> try first | omega | (simp only [InR]; omega)
  rw [h1]; clear h1 Q1; simp only [zaW,zaA])
 simp (maxSteps:=4000000) only [go_sem,zae,zac,zad,zan,zaq,zaa,czb,cza,↓reduceIte,zab,onz]
 refine zbG (y.hires.length) [] [2,6,7,16,17] (fun i => [(18,.int .i64 i)]) (fun _ m => m) (fun i => (List.range i).all (zhq y s out) = true) ?_ ?_ ?_ ?_
 ·rfl
 ·simp [AV.bare,zal,zaN,zaR,zak,zar,zaf,tokz1,lk,zaa,za3,-List.map_map]
 ·intro i hi hI
  have hi':=czH.2 hi
  have hh:=hy.vy.hi _ (zbv hi)
  have hR:zhq y s out i = (out.contains (i:Int) || (at_ L (at_ y.hires i).lo.toNat).free.contains (at_ y.hires i).hi):=by rw [← hL]; rfl
  have hn:=hno i hi
  have hA:=hall i hi
  rw [hI,Bool.true_and] at hA
  obtain ⟨hr,hhr⟩:∃ hr,at_ y.hires i = hr:=⟨_,rfl⟩
  rw [hhr] at hh hR
  have hg1:(y.hires.map EncE.cs).getD i [] = EncE.cs hr:=by rw [zax hi,hhr]
  have hk:hr.lo.toNat < L.length:=by omega
  have hg2:=zax (f:=EncE.cs) (l:=L) (i:=hr.lo.toNat) hk
  have hf4:=hfl _ hk
  iterate 2 (
   refine zaC fun Q1 h1 => ?_
   simp (maxSteps:=4000000) only [go_sem,zae,zac,zad,zan,zaq,zaa,czb,cza,↓reduceIte,zab,onz,hi',hg1]
   all_goals (repeat' first | (with_reducible first | rfl | apply And.intro | assumption) | ((with_reducible show zaj _ _ = true); rfl)) <;> try first | omega | (simp only [InR]; omega)
   rw [h1]; clear h1 Q1; simp only [zaW,zaA])
  refine zaC fun Qb hb => ?_
  rw [zeM]
  try simp only [zaA]
  refine zaC fun Q1 h1 => ?_
  simp (maxSteps:=4000000) only [go_sem,zae,zac,zad,zan,zaq,zaa,czb,cza,↓reduceIte,zab,onz,hg1]
  all_goals (repeat' first | (with_reducible first | rfl | apply And.intro | assumption) | ((with_reducible show zaj _ _ = true); rfl)) <;> try first | omega | (simp only [InR]; omega)
  rw [h1]; clear h1 Q1; simp only [zaW,zaA]
  cases c1:out.contains (i:Int)
  ·cases c2:(at_ L hr.lo.toNat).free.contains hr.hi
   all_goals
    rw [c1,c2] at hR
    simp (maxSteps:=4000000) only [go_sem,zae,zac,zad,zan,zaq,zaa,czb,cza,↓reduceIte,zab,onz,hg2,c1,c2,hb]
    all_goals (repeat' first | (with_reducible first | rfl | apply And.intro | assumption) | ((with_reducible show zaj _ _ = true); rfl)) <;> try first | omega | (simp only [InR]; omega)
   ·rw [hn hR]
   ·refine nxt hi (by rw [hA,hR]; rfl) ?_
    simp [AV.bare,zal,zaN,zaR,zak,zar,zaf,tokz1,lk,zaa,za3,-List.map_map]
  ·rw [c1] at hR
   simp (maxSteps:=4000000) only [go_sem,zae,zac,zad,zan,zaq,zaa,czb,cza,↓reduceIte,zab,onz,hg2,c1,hb]
   all_goals (repeat' first | (with_reducible first | rfl | apply And.intro | assumption) | ((with_reducible show zaj _ _ = true); rfl)) <;> try first | omega | (simp only [InR]; omega)
   refine nxt hi (by rw [hA,hR]; rfl) ?_
   simp [AV.bare,zal,zaN,zaR,zak,zar,zaf,tokz1,lk,zaa,za3,-List.map_map]
 ·intro hI
  simp (maxSteps:=4000000) only [go_sem,zae,zac,zad,zan,zaq,zaa,czb,cza,↓reduceIte,zab,onz,czA,decide_false]
  all_goals (repeat' first | (with_reducible first | rfl | apply And.intro | assumption) | ((with_reducible show zaj _ _ = true); rfl)) <;> try first | omega | (simp only [InR]; omega)
  unfold zcr
  rw [hI]
def P116 (g:FuncId):=(zas 77 (zec (fun (y:Yd) (s:Sea) (out:List Int) => YS y s ∧ out.length ≤ 4096) zcr) (P115):zaJ) g
theorem zhd:zaz Tryz.prog P116:=zah (zb8 zpt) (P115_ok)
theorem zoC (d:Option Nat):zaF P116 d = none:=(zag (by decide) d).trans (zoD d)
attribute [go_sem] P116 zoC
theorem ys_of {y:Yd} (h:VY y) (hs:List Int):YS y (zb1 y.t hs):=⟨h,by simp [zb1]⟩
theorem seaQ_ok {y:Yd} (h:VY y) {hs:List Int} (c:zbg y.t hs = true):seaQ y.t hs = (zb1 y.t hs,true):=by
 unfold seaQ zku
 rw [if_pos h.f,c]
 rfl
theorem seaQ_bad {t:Tb} {hs:List Int} (c:zbg t hs = false):seaQ t hs = (⟨hs,[]⟩,false):=by
 unfold seaQ zku
 rw [c]
 by_cases f:zbq t = 0
 ·rw [if_pos f]; rfl
 ·rw [if_neg f,if_neg f]
def zgb (y:Yd) (order hs:List Int):List Sy × Int :=
 if zbk y = 0 then (if (zbg y.t hs && za8 y.chairs.length order) = true then (ziO y (zb1 y.t hs) order,0) else ([],2)) else ([],zbk y)
theorem zuL (y:Yd) (order hs:List Int) (h:(y.t.heights.length ≤ 4096 ∧ y.order.length ≤ 4096) ∧ order.length ≤ 4096 ∧ hs.length ≤ 4096):zaP Tryz.prog 21 [Enc.enc y,Enc.enc order,Enc.enc hs] (· = Enc.enc (zgb y order hs)):=by
 obtain ⟨⟨h1,h2⟩,h3,h4⟩:=h
 simp only [zab]
 unfold zgb
 by_cases c:zbk y = 0
 case neg =>
  rw [if_neg c]
  simp only [zcf]
  refine cpz zhd Tryz.func21 zaB ?_
  rw [Tryz.ntmps21]
  simp only [Tryz.f21,zai,zam]
  iterate 2 (
   refine zaC fun Q1 h1 => ?_
   simp (maxSteps:=4000000) only [go_sem,zae,zac,zad,zan,zaq,zaa,czb,cza,↓reduceIte,zab,onz]
   all_goals (repeat' first | (with_reducible first | rfl | apply And.intro | assumption) | ((with_reducible show zaj _ _ = true); rfl)) <;> try first | omega | (simp only [InR]; omega)
   rw [h1]; clear h1 Q1; simp only [zaW,zaA])
  simp (maxSteps:=4000000) only [go_sem,zae,zac,zad,zan,zaq,zaa,czb,cza,↓reduceIte,zab,onz,c,decide_false]
  all_goals exact auz
 rw [if_pos c]
 have hv:=zkp c
 have hc5:=hv.c5
 cases b1:zbg y.t hs
 ·have hq:=seaQ_bad b1
  rw [Bool.false_and,if_neg (by simp)]
  simp only [zcf]
  refine cpz zhd Tryz.func21 zaB ?_
  rw [Tryz.ntmps21]
  simp only [Tryz.f21,zai,zam]
  iterate 3 (
   refine zaC fun Q1 h1 => ?_
   simp (maxSteps:=4000000) only [go_sem,zae,zac,zad,zan,zaq,zaa,czb,cza,↓reduceIte,zab,onz,c,hq]
   all_goals (repeat' first | (with_reducible first | rfl | apply And.intro | assumption) | ((with_reducible show zaj _ _ = true); rfl)) <;> try first | omega | (simp only [InR]; omega)
   rw [h1]; clear h1 Q1; simp only [zaW,zaA])
  simp (maxSteps:=4000000) only [go_sem,zae,zac,zad,zan,zaq,zaa,czb,cza,↓reduceIte,zab,onz,c,hq]
  all_goals exact auz
 have hq:=seaQ_ok hv b1
 have hys:=ys_of hv hs
 obtain ⟨s,hs'⟩:∃ s,zb1 y.t hs = s:=⟨_,rfl⟩
 rw [hs'] at hq hys
 rw [hs',Bool.true_and]
 cases b2:za8 y.chairs.length order
 all_goals
  simp only [czp,if_false,if_true]
  simp only [zcf]
  refine cpz zhd Tryz.func21 zaB ?_
  rw [Tryz.ntmps21]
  simp only [Tryz.f21,zai,zam]
  iterate 4 (
   refine zaC fun Q1 h1 => ?_
   simp (maxSteps:=4000000) only [go_sem,zae,zac,zad,zan,zaq,zaa,czb,cza,↓reduceIte,zab,onz,c,hq]
   all_goals (repeat' first | (with_reducible first | rfl | apply And.intro | assumption) | ((with_reducible show zaj _ _ = true); rfl)) <;> try first | omega | (simp only [InR]; omega)
   rw [h1]; clear h1 Q1; simp only [zaW,zaA])
  simp (maxSteps:=4000000) only [go_sem,zae,zac,zad,zan,zaq,zaa,czb,cza,↓reduceIte,zab,onz,c,hq,b2]
  all_goals (repeat' first | (with_reducible first | rfl | apply And.intro | assumption) | ((with_reducible show zaj _ _ = true); rfl)) <;> try first | omega | (simp only [InR]; omega)
def zf9 (y:Yd) (hs:List Int):Bool:=decide (zbk y = 0) && (zeO y.t hs && zcr y (zb1 y.t hs) [])
theorem ziT (y:Yd) (hs:List Int) (h:(y.t.heights.length ≤ 4096 ∧ y.order.length ≤ 4096) ∧ hs.length ≤ 4096):zaP Tryz.prog 24 [Enc.enc y,Enc.enc hs] (· = Enc.enc (zf9 y hs)):=by
 obtain ⟨⟨h1,h2⟩,h4⟩:=h
 unfold zf9
 by_cases c:zbk y = 0
 case neg =>
  rw [decide_eq_false c,Bool.false_and]
  simp only [zcf]
  refine cpz zhd Tryz.func24 zaB ?_
  rw [Tryz.ntmps24]
  simp only [Tryz.f24,zai,zam]
  refine zaC fun Q1 h1 => ?_
  simp (maxSteps:=4000000) only [go_sem,zae,zac,zad,zan,zaq,zaa,czb,cza,↓reduceIte,zab,onz]
  all_goals (repeat' first | (with_reducible first | rfl | apply And.intro | assumption) | ((with_reducible show zaj _ _ = true); rfl)) <;> try first | omega | (simp only [InR]; omega)
  rw [h1]; clear h1 Q1; simp only [zaW,zaA]
  simp (maxSteps:=4000000) only [go_sem,zae,zac,zad,zan,zaq,zaa,czb,cza,↓reduceIte,zab,onz,c,decide_false]
  all_goals exact auz
 rw [decide_eq_true c,Bool.true_and]
 have hv:=zkp c
 cases b1:zeO y.t hs
 ·rw [Bool.false_and]
  simp only [zcf]
  refine cpz zhd Tryz.func24 zaB ?_
  rw [Tryz.ntmps24]
  simp only [Tryz.f24,zai,zam]
  refine zaC fun Q1 h1 => ?_
  simp (maxSteps:=4000000) only [go_sem,zae,zac,zad,zan,zaq,zaa,czb,cza,↓reduceIte,zab,onz]
  all_goals (repeat' first | (with_reducible first | rfl | apply And.intro | assumption) | ((with_reducible show zaj _ _ = true); rfl)) <;> try first | omega | (simp only [InR]; omega)
  rw [h1]; clear h1 Q1; simp only [zaW,zaA]
  simp (maxSteps:=4000000) only [go_sem,zae,zac,zad,zan,zaq,zaa,czb,cza,↓reduceIte,zab,onz,c,b1,decide_true]
  all_goals exact auz
 have hl:zbg y.t hs = true:=by
  unfold zeO zbZ at b1
  simp only [czl] at b1
  exact b1.2.1
 have hq:=seaQ_ok hv hl
 have hys:=ys_of hv hs
 obtain ⟨s,hs'⟩:∃ s,zb1 y.t hs = s:=⟨_,rfl⟩
 rw [hs'] at hq hys
 rw [hs',Bool.true_and]
 simp only [zcf]
 refine cpz zhd Tryz.func24 zaB ?_
 rw [Tryz.ntmps24]
 simp only [Tryz.f24,zai,zam]
 refine zaC fun Q1 h1 => ?_
 simp (maxSteps:=4000000) only [go_sem,zae,zac,zad,zan,zaq,zaa,czb,cza,↓reduceIte,zab,onz]
 all_goals (repeat' first | (with_reducible first | rfl | apply And.intro | assumption) | ((with_reducible show zaj _ _ = true); rfl)) <;> try first | omega | (simp only [InR]; omega)
 rw [h1]; clear h1 Q1; simp only [zaW,zaA]
 simp (maxSteps:=4000000) only [go_sem,zae,zac,zad,zan,zaq,zaa,czb,cza,↓reduceIte,zab,onz,c,b1,hq,decide_true]
 all_goals exact auz
def P117 (g:FuncId):=(zas 21 (zec (fun (y:Yd) (order hs:List Int) => (y.t.heights.length ≤ 4096 ∧ y.order.length ≤ 4096) ∧ order.length ≤ 4096 ∧ hs.length ≤ 4096) zgb) (zas 24 (zbF (fun (y:Yd) (hs:List Int) => (y.t.heights.length ≤ 4096 ∧ y.order.length ≤ 4096) ∧ hs.length ≤ 4096) zf9) (P116)):zaJ) g
theorem zin:zaz Tryz.prog P117:=zah (zb8 zuL) (zah (zaM ziT) (zhd))
theorem zkl (d:Option Nat):zaF P117 d = none:=(zag (by decide) d).trans ((zag (by decide) d).trans (zoC d))
attribute [go_sem] P117 zkl
theorem one_yld (a):(AV.yld a).one = true:=rfl
theorem one_arr (a b c d):(AV.arr a b c d).one = true:=rfl
theorem one_vec (a b c d e):(AV.vec a b c d e).one = true:=rfl
theorem one_vp (a b c d):(AV.vp a b c d).one = true:=rfl
attribute [go_sem] one_yld one_arr one_vec one_vp
section
variable (a b c d e f g:AObj) (r:List AObj)
theorem mA0:zaa (a :: r) 0 = a:=rfl
theorem mA1:zaa (a :: b :: r) 1 = b:=rfl
theorem mA2:zaa (a :: b :: c :: r) 2 = c:=rfl
theorem mA3:zaa (a :: b :: c :: d :: r) 3 = d:=rfl
theorem mA4:zaa (a :: b :: c :: d :: e :: r) 4 = e:=rfl
theorem mA5:zaa (a :: b :: c :: d :: e :: f :: r) 5 = f:=rfl
theorem mA6:zaa (a :: b :: c :: d :: e :: f :: g :: r) 6 = g:=rfl
end
attribute [go_sem] mA0 mA1 mA2 mA3 mA4 mA5 mA6
theorem zce {m r:List AObj} {n0 k:Nat} (h:∀ o ∈ m,zb6 n0 o) (hk:n0 ≤ k) (hr:zaR k r):∀ o ∈ m ++ r,zb6 k o:=fun o ho => by
 rcases czv.1 ho with q | q
 ·exact zc9 hk o (h o q)
 ·exact zcY hr o q
/-! A loop whose rounds leave objects and deferred blocks behind. -/
structure JOk (k:Nat) (J:List AObj × List Nat):Prop where
 ok:∀ o ∈ J.1,zb6 (k + J.1.length) o
 lt:∀ m ∈ J.2,k ≤ m ∧ m < k + J.1.length
 df:∀ m ∈ J.2,zaa J.1 (m - k) = .deferred
 nd:J.2.Nodup
theorem zaT {m r:List AObj} {k:Nat} (h:k < m.length):zaa (m ++ r) k = zaa m k:=by
 simp [zaa,List.getD,czi h]
theorem JOk.push {k:Nat} {J:List AObj} {mk:List Nat} (h:JOk k (J,mk)) (os:List AObj) (hos:∀ o ∈ os,zb6 (k + J.length + os.length) o) (p:Nat) (hp:p < os.length) (hd:zaa os p = .deferred):JOk k (J ++ os,(k + J.length + p) :: mk):=by
 obtain ⟨h1,h2,h3,h4⟩:=h
 simp only at h1 h2 h3 h4
 refine ⟨fun o ho => ?_,fun m hm => ?_,fun m hm => ?_,?_⟩
 ·rw [czc,← Nat.add_assoc]
  rcases czv.1 ho with q | q
  ·exact zc9 (by omega) o (h1 o q)
  ·exact hos o q
 ·rw [czc]
  rcases czn.1 hm with q | q
  ·omega
  ·have:=h2 m q; omega
 ·rcases czn.1 hm with q | q
  ·subst q
   have e:k + J.length + p - k = J.length + p:=by omega
   rw [e,zaK]; exact hd
  ·have:=h2 m q
   rw [zaT (by omega)]; exact h3 m q
 ·refine List.nodup_cons.2 ⟨fun q => ?_,h4⟩
  have:=h2 _ q
  omega
section
variable {mem:List AObj} {v s:Nat}
theorem zd4 (hv:v < mem.length) (o:AObj):zaa (mem.set v o) v = o:=by simp [zaa,List.getD,hv]
theorem zmG (o o':AObj):(mem.set v o).set v o' = mem.set v o':=List.set_set _
theorem zlA {o:AObj} (h:zaa mem v = o):mem.set v o = mem:=by
 apply List.ext_getElem
 ·simp
 ·intro i h1 h2
  rw [List.getElem_set]
  split
  ·rename_i q; subst q; rw [← h]; simp [zaa,List.getD,h2]
  ·rfl
theorem zbf {o:AObj} (h:zaa mem v = o) (ho:o ≠ .dead):v < mem.length:=by
 by_cases c:v < mem.length
 ·exact c
 ·exact absurd (by rw [← h]; simp [zaa,List.getD,czB (czE c)]) ho
end
theorem zlm {r r':List AObj} (h:zak r r'):∀ m:List AObj,zak (m ++ r) (m ++ r')
 | [] => h
 | a :: m => ⟨rfl,zlm h m⟩
def P118:zaJ:=zeR 58 P117
theorem P118_app (g:FuncId):P118 g = if g = 58 then none else P117 g:=rfl
theorem P118_ok:zaz Tryz.prog P118:=zfz zin
theorem zoB (d:Option Nat):zaF P118 d = none:=(zfy (by decide) d).trans (zkl d)
attribute [go_sem] P118_app zoB
def P119:zaJ:=zeR 105 P118
theorem P119_app (g:FuncId):P119 g = if g = 105 then none else P118 g:=rfl
theorem P119_ok:zaz Tryz.prog P119:=zfz P118_ok
theorem P119_flag (d:Option Nat):zaF P119 d = none:=(zfy (by decide) d).trans (zoB d)
attribute [go_sem] P119_app P119_flag
def P120:zaJ:=zeR 73 P117
theorem P120_app (g:FuncId):P120 g = if g = 73 then none else P117 g:=rfl
theorem zim:zaz Tryz.prog P120:=zfz zin
theorem zoA (d:Option Nat):zaF P120 d = none:=(zfy (by decide) d).trans (zkl d)
attribute [go_sem] P120_app zoA
def seaC (s:Sea):AV:=.agg [.sl (s.hs.map EncE.cs) .no,.sl (s.rows.map EncE.cs) .no]
section
variable {mem:List AObj} {L:Nat}
theorem zq9 (s:List Int) (hL:zaa mem L = .cells (s.map (AV.int .i64))) (hm:∀ o ∈ mem,zb6 mem.length o) (h:s.length ≤ 4096) :
  zeK Tryz.prog 105 [.arr L 0 s.length 1] mem (fun r m => r = .sl (s.map EncE.cs) (.own mem.length) ∧ m = mem ++ [.tok s.length 1]):=by
 have hch:zc4 1 s.length (s.map (AV.int .i64)) = s.map EncE.cs:=by rw [zfB s _ (czf _),czm]
 refine zbU (Φ:=P117) Tryz.func105 rfl (by rfl) (by rw [Tryz.ntmps105]; simp) zaB zin ?_
 rw [Tryz.ntmps105]
 simp only [Tryz.f105,zai,zam]
 simp (maxSteps:=4000000) only [go_sem,zae,zac,zad,zan,zaq,czb,cza,↓reduceIte,zay,zab,onz,hL,hch]
 all_goals (repeat' first | (with_reducible first | rfl | apply And.intro | assumption) | ((with_reducible show zaj _ _ = true); rfl)) <;> try first | omega | (simp only [InR]; omega)
 ·simp [zeF,AV.one]
 ·refine ⟨mem.length + 1,by omega,by simp,cze (by simp),by simp [AV.bare,zal,zaN,zaR,zak,zar,zaf,tokz1,lk,zaa,za3],?_⟩
  rw [cze (by simp)]
  exact zce hm (by omega) (by simp [AV.bare,zal,zaN,zaR,zak,zar,zaf,tokz1,lk,zaa,za3])
theorem zuM (t:Tb) (s:List Int) (hf:zbq t = 0) (hl:zbg t s = true) (hL:zaa mem L = .cells (s.map (AV.int .i64))) (hm:∀ o ∈ mem,zb6 mem.length o) :
  zeK Tryz.prog 58 [Enc.enc t,.arr L 0 s.length 1] mem
   (fun r m => r = .tup [.arr (mem.length + 2) 0 t.levels.length 1,.int .i64 0] ∧ m = mem ++ [.cells [.int .i64 t.last,.sl (t.heights.map EncE.cs) .no,.int .i64 t.step,.sl (t.levels.map EncE.cs) .no,.sl (t.marks.map EncE.cs) .no],.cells ((ze1 s).l.map (AV.int .i64)),.cells (t.levels.map fun lv => .sl ((zgP s lv).map EncE.cs) .no)]):=by
 have hv:=zcs hf
 have hok:=hv.hok
 have hlast:=hv.last
 have hl0:=zja hf
 have hl9:=hv.l9
 have hlv:=hv.lv
 have hll:=zbY hl
 have hch:zc4 1 s.length (s.map (AV.int .i64)) = s.map EncE.cs:=by rw [zfB s _ (czf _),czm]
 have hlp:zdf t s = (ze1 s,true):=by unfold zdf; rw [if_pos (by omega),hl]
 have hs:=(ze1 s).h
 have hw:∀ level,zko (ze1 s).l level (t.last + 1).toNat = zgP s level:=fun level => by
  rw [show (t.last + 1).toNat = s.length by omega]
  exact zo1 level (by have:=hok.len; omega)
 have hLl:=zbf hL (by simp)
 obtain ⟨n0,hn0⟩:∃ n0,mem.length = n0:=⟨_,rfl⟩
 rw [hn0] at hm hLl
 have gL:∀ r,zaa (mem ++ r) L = .cells (s.map (AV.int .i64)):=fun r => by rw [zaT (by omega),hL]
 have g0:∀ r,zaa (mem ++ r) n0 = zaa r 0:=fun r => by rw [← hn0]; exact zaK _ _ 0
 have gk:∀ r k,zaa (mem ++ r) (n0 + k) = zaa r k:=fun r k => by rw [← hn0]; exact zaK _ _ k
 have s0:∀ r o,(mem ++ r).set n0 o = mem ++ r.set 0 o:=fun r o => by rw [← hn0]; exact zbN _ _ 0 _
 have sk:∀ r k o,(mem ++ r).set (n0 + k) o = mem ++ r.set k o:=fun r k o => by rw [← hn0]; exact zbN _ _ k _
 rw [hn0]
 simp only [zny]
 refine zbU (Φ:=P117) Tryz.func58 rfl (by rfl) (by rw [Tryz.ntmps58]; simp) zaB zin ?_
 rw [Tryz.ntmps58]
 simp only [Tryz.f58,zai,zam]
 iterate 3 (
  refine zaC fun Q1 h1 => ?_
  simp (maxSteps:=4000000) only [go_sem,zae,zac,zad,zan,zaq,czb,cza,↓reduceIte,zay,zab,onz,hL,gL,g0,gk,s0,sk,hn0,hf,hlp,hs,hch,czd,czc]
  all_goals (repeat' first | (with_reducible first | rfl | apply And.intro | assumption) | ((with_reducible show zaj _ _ = true); rfl)) <;> try first | omega | (simp only [InR]; omega)
  rw [h1]; clear h1 Q1; simp only [zaW,zaA])
 simp (maxSteps:=4000000) only [go_sem,zae,zac,zad,zan,zaq,czb,cza,↓reduceIte,zay,zab,onz,hL,gL,g0,gk,s0,sk,hn0,hf,hlp,hs,hch,zd8,czd,czc]
 all_goals (repeat' first | (with_reducible first | rfl | apply And.intro | assumption) | ((with_reducible show zaj _ _ = true); rfl)) <;> try first | omega | (simp only [InR]; omega)
 obtain ⟨C,hC⟩:∃ C:Nat → List AV,∀ i,C i = (t.levels.take i).map (fun lv => .sl ((zgP s lv).map EncE.cs) .no) ++ List.replicate (t.levels.length - i) (.sl [] .full):=⟨_,fun _ => rfl⟩
 have hCl:∀ i,i ≤ t.levels.length → (C i).length = t.levels.length:=fun i hi => by rw [hC]; simp; omega
 have hCb:∀ i k,(∀ c ∈ C i,bel k 9 c) = True:=fun i k => eq_true fun c hc => by
  rw [hC] at hc
  rcases czv.1 hc with q | q
  ·obtain ⟨lv,_,rfl⟩:=czx.1 q; simp [AV.bare,zal,zaN,zaR,zak,zar,zaf,tokz1,lk,zaa,za3]
  ·rw [(czL.1 q).2]; simp [AV.bare,zal,zaN,zaR,zak,zar,zaf,tokz1,lk,zaa,za3]
 have hC0:List.replicate t.levels.length (.sl [] .full) = C 0:=by rw [hC]; simp
 have hCn:C t.levels.length = t.levels.map fun lv => .sl ((zgP s lv).map EncE.cs) .no:=by rw [hC]; simp
 rw [hC0]
 refine zbG (t.levels.length) [] [2,4,5,7,9,30,31] (fun i => [(32,.int .i64 i)]) (fun i _ => mem ++ [.cells [.int .i64 t.last,.sl (t.heights.map EncE.cs) .no,.int .i64 t.step,.sl (t.levels.map EncE.cs) .no,.sl (t.marks.map EncE.cs) .no],.cells ((ze1 s).l.map (AV.int .i64)),.cells (C i)]) (fun _ => True) ?_ ?_ ?_ ?_
 ·trivial
 ·refine ⟨rfl,rfl,rfl,by show n0 ≤ (mem ++ _).length; rw [czc,hn0]; omega,?_,?_,zby ?_,trivial⟩
  ·simp only [zaf,zcj]; exact za0 _
  ·show zaN _ (mem ++ [_,_,_]).length _
   rw [czc,hn0]
   simp [AV.bare,zal,zaN,zaR,zak,zar,zaf,tokz1,lk,zaa,za3]
  ·simp only [zaf,zcj]
   rw [czc,hn0]
   exact zce hm (by simp) (by simp [AV.bare,zal,zaN,zaR,zak,zar,zaf,tokz1,lk,zaa,za3,hCb])
 ·intro i hi _
  have hi':=czH.2 hi
  have hge:(t.levels.map EncE.cs).getD i [] = [AV.int IntKind.i64 (at_ t.levels i)]:=by rw [zax hi]; rfl
  have hov:=zm0 (fun lv => AV.sl ((zgP s lv).map EncE.cs) .no) (.sl [] .full) hi
  rw [← hC,← hC] at hov
  have hcl:=hCl i (by omega)
  simp (maxSteps:=4000000) only [go_sem,zae,zac,zad,zaq,czb,cza,↓reduceIte,zay,zab,onz,hL,gL,g0,gk,s0,sk,hn0,hi',hge,hw,hov,hcl,hs,czd,czc]
  all_goals (repeat' first | (with_reducible first | rfl | apply And.intro | assumption) | ((with_reducible show zaj _ _ = true); rfl)) <;> try first | omega | (simp only [InR]; omega)
  refine nxt hi trivial ⟨rfl,rfl,rfl,by show n0 ≤ (mem ++ _).length; rw [czc,hn0]; omega,za0 _,?_,zby ?_,trivial⟩
  ·show zaN _ (mem ++ [_,_,_]).length _
   rw [czc,hn0]
   simp [AV.bare,zal,zaN,zaR,zak,zar,zaf,tokz1,lk,zaa,za3]
  ·dsimp only [zaf]
   rw [czc,hn0]
   exact zce hm (by simp) (by simp [AV.bare,zal,zaN,zaR,zak,zar,zaf,tokz1,lk,zaa,za3,hCb])
 ·intro _
  simp (maxSteps:=4000000) only [go_sem,zae,zac,zad,zan,zaq,czb,cza,↓reduceIte,zay,zab,onz,hn0,czA,decide_false,hCn,czd,czc]
  all_goals (repeat' first | (with_reducible first | rfl | apply And.intro | assumption) | ((with_reducible show zaj _ _ = true); rfl)) <;> try first | omega | (simp only [InR]; omega)
  refine ⟨n0 + 3,by omega,by simp [hn0],cze (by simp [hn0]),by simp [AV.bare,zal,zaN,zaR,zak,zar,zaf,tokz1,lk,zaa,za3],?_⟩
  rw [cze (by simp [hn0])]
  refine zce hm (by omega) ?_
  rw [← hCn]
  simp [AV.bare,zal,zaN,zaR,zak,zar,zaf,tokz1,lk,zaa,za3,hCb]
theorem seaX_call (y:Yd) (s:List Int) (hv:VY y) (hl:zbg y.t s = true) (hL:zaa mem L = .cells (s.map (AV.int .i64))) (hm:∀ o ∈ mem,zb6 mem.length o) (hs4:s.length ≤ 4096) :
  zeK Tryz.prog 73 [.agg (ydC y),.arr L 0 s.length 1] mem (fun r m => r = .tup [seaC (zb1 y.t s),.bool true] ∧ m = mem):=by
 have hf:=hv.f
 have hok:=hv.fok
 have hlv:=hok.lv
 have h10:s.length ≤ 10:=by have:=zbY hl; have:=hok.len; have:=hv.l0; omega
 have hLl:=zbf hL (by simp)
 obtain ⟨n0,hn0⟩:∃ n0,mem.length = n0:=⟨_,rfl⟩
 rw [hn0] at hm hLl
 have gL:∀ r,zaa (mem ++ r) L = .cells (s.map (AV.int .i64)):=fun r => by rw [zaT (by omega),hL]
 have g0:∀ r,zaa (mem ++ r) n0 = zaa r 0:=fun r => by rw [← hn0]; exact zaK _ _ 0
 have gk:∀ r k,zaa (mem ++ r) (n0 + k) = zaa r k:=fun r k => by rw [← hn0]; exact zaK _ _ k
 have s0:∀ r o,(mem ++ r).set n0 o = mem ++ r.set 0 o:=fun r o => by rw [← hn0]; exact zbN _ _ 0 _
 have sk:∀ r k o,(mem ++ r).set (n0 + k) o = mem ++ r.set k o:=fun r k o => by rw [← hn0]; exact zbN _ _ k _
 have hso:seaC (zb1 y.t s) = .agg [.sl (s.map EncE.cs) .no,.sl ((y.t.levels.map (zoW s)).map EncE.cs) .no]:=rfl
 rw [hso]
 obtain ⟨R,hR⟩:∃ R:Nat → List (BA 10),∀ i,R i = (y.t.levels.take i).map (zoW s):=⟨_,fun _ => rfl⟩
 have hRl:∀ i,i ≤ y.t.levels.length → (R i).length = i:=fun i hi => by rw [hR]; simp; omega
 have hRs:∀ i,i < y.t.levels.length → R (i + 1) = R i ++ [zoW s (at_ y.t.levels i)]:=fun i hi => by rw [hR,hR,zaV hi,List.map_append]; rfl
 have hRf:R y.t.levels.length = y.t.levels.map (zoW s):=by rw [hR,czm]
 rw [← hRf]
 have hR0:R 0 = []:=by rw [hR]; rfl
 have hP:=zuM (mem:=mem ++ [.cells (ydC y),.cells [.sl [] .full,.sl [] .full]]) y.t s hf hl (gL _) (by
  rw [czc,hn0]
  refine zce hm (by simp) ?_
  simp [AV.bare,zal,zaN,zaR,zak,zar,zaf,tokz1,lk,zaa,za3,ydC])
 rw [zny,czc,hn0] at hP
 unfold ydC at hP ⊢
 simp only [cza,czy,Nat.reduceAdd,Nat.zero_add,Nat.add_assoc] at hP
 refine zbU (Φ:=P119) Tryz.func73 rfl (by rfl) (by rw [Tryz.ntmps73]; simp) zaB P119_ok ?_
 rw [Tryz.ntmps73]
 simp only [Tryz.f73,zai,zam]
 refine zaC fun Q1 h1 => ?_
 simp (maxSteps:=4000000) only [go_sem,zae,zac,zad,zan,zaq,czb,cza,↓reduceIte,zay,zab,onz,hL,gL,g0,gk,s0,sk,hn0,czd,czc]
 all_goals (repeat' first | (with_reducible first | rfl | apply And.intro | assumption) | ((with_reducible show zaj _ _ = true); rfl)) <;> try first | omega | (simp only [InR]; omega)
 rw [h1]; clear h1 Q1; simp only [zaW,zaA]
 refine zaC fun Q1 h1 => ?_
 simp (maxSteps:=4000000) only [go_sem,zae,zac,zad,zan,zaq,czb,cza,↓reduceIte,zay,zab,onz,hL,gL,g0,gk,s0,sk,hn0,czd,czc]
 refine ⟨_,hP,?_⟩
 rintro r mem' ⟨rfl,rfl⟩ _
 simp (maxSteps:=4000000) only [go_sem,zae,zac,zad,zan,zaq,czb,cza,↓reduceIte,zay,zab,onz,hn0,czd,czc]
 rw [h1]; clear h1 Q1; simp only [zaW,zaA]
 simp (maxSteps:=4000000) only [go_sem,zae,zac,zad,zan,zaq,czb,cza,↓reduceIte,zay,zab,onz,hL,gL,g0,gk,s0,sk,hn0,czd,czc]
 all_goals (repeat' first | (with_reducible first | rfl | apply And.intro | assumption) | ((with_reducible show zaj _ _ = true); rfl)) <;> try first | omega | (simp only [InR]; omega)
 obtain ⟨O,hO⟩:∃ O:List AV,(y.t.levels.map fun lv => AV.sl ((zgP s lv).map EncE.cs) .no) = O:=⟨_,rfl⟩
 have hOb:∀ k,(∀ c ∈ O,bel k 9 c) = True:=fun k => eq_true fun c hc => by
  rw [← hO] at hc
  obtain ⟨lv,_,rfl⟩:=czx.1 hc
  simp [AV.bare,zal,zaN,zaR,zak,zar,zaf,tokz1,lk,zaa,za3]
 have hOl:O.length = y.t.levels.length:=by rw [← hO]; simp
 have hOa:∀ i,i < y.t.levels.length → O.getD i .undef = .sl ((zgP s (at_ y.t.levels i)).map EncE.cs) .no:=fun i hi => by rw [← hO]; simp [at_,List.getD,hi]
 rw [hO]
 refine zbG (y.t.levels.length) [.cell (n0 + 1) 1 10] [1,4,5,7,20,21] (fun i => [(22,.int .i64 i)]) (fun i _ => mem ++ [.cells [.int .i64 y.t.last,.sl (y.t.heights.map EncE.cs) .no,.int .i64 y.t.step,.sl (y.t.levels.map EncE.cs) .no,.sl (y.t.marks.map EncE.cs) .no,.int .i64 y.hands,.sl (y.chairs.map EncE.cs) .no,.sl (y.order.map EncE.cs) .no,.sl (y.hires.map EncE.cs) .no],.cells [.sl [] .full,.sl ((R i).map EncE.cs) (.own (n0 + 5))],.cells [.int .i64 y.t.last,.sl (y.t.heights.map EncE.cs) .no,.int .i64 y.t.step,.sl (y.t.levels.map EncE.cs) .no,.sl (y.t.marks.map EncE.cs) .no],.cells ((ze1 s).l.map (AV.int .i64)),.cells O,.tok i 10]) (fun _ => True) ?_ ?_ ?_ ?_
 ·trivial
 ·simp only [zdD,zcj,tokz1,lk,mA0,mA1,mA2,mA3,mA4,mA5,mA6,List.getD_cons_zero,List.getD_cons_succ,List.set_cons_succ,List.set_cons_zero,czc,czd,czs,List.nil_append,cza,czy,Nat.reduceAdd,Nat.zero_add,List.map_nil,Nat.reduceEqDiff,↓reduceIte,gk,sk,hn0,hR0]
  refine ⟨rfl,rfl,rfl,by show n0 ≤ (mem ++ _).length; rw [czc,hn0]; omega,za0 _,?_,zby ?_,trivial⟩
  ·dsimp only [zaf]
   rw [czc,hn0]
   simp [AV.bare,zal,zaN,zaR,zak,zar,zaf,tokz1,lk,zaa,za3]
   omega
  ·dsimp only [zaf]
   rw [czc,hn0]
   exact zce hm (by simp) (by simp [AV.bare,zal,zaN,zaR,zak,zar,zaf,tokz1,lk,zaa,za3,hOb])
 ·intro i hi _
  have hi':=czH.2 hi
  obtain ⟨w,hw⟩:∃ w,zgP s (at_ y.t.levels i) = w:=⟨_,rfl⟩
  have hge:=hOa i hi
  rw [hw] at hge
  have hwl:∀ x ∈ w,0 ≤ x ∧ x < 10:=fun x hx => wetL_lt h10 (by rw [hw]; exact hx)
  have hwn:w.length ≤ s.length:=by rw [← hw]; exact ziW _ _ _
  have hrow:zeA w w.length = (zoW s (at_ y.t.levels i)).l:=by rw [← hw]; exact zm9 h10 _
  have hm0:[AV.bool false,AV.bool false,AV.bool false,AV.bool false,AV.bool false,AV.bool false,AV.bool false,AV.bool false,AV.bool false,AV.bool false] = (zeA w 0).map AV.bool:=rfl
  have hrl:=hRl i (by omega)
  simp only [zdD,zcj,tokz1,lk,mA0,mA1,mA2,mA3,mA4,mA5,mA6,List.getD_cons_zero,List.getD_cons_succ,List.set_cons_succ,List.set_cons_zero,czc,czd,czs,List.nil_append,cza,czy,Nat.reduceAdd,Nat.zero_add,List.map_nil,Nat.reduceEqDiff,↓reduceIte,gk,sk,hn0,hR0]
  iterate 2 (
   refine zaC fun Q1 h1 => ?_
   simp (maxSteps:=4000000) only [go_sem,zae,zac,zad,zan,zaq,zaa,czb,cza,↓reduceIte,zay,zab,onz,hi']
   all_goals (repeat' first | (with_reducible first | rfl | apply And.intro | assumption) | ((with_reducible show zaj _ _ = true); rfl)) <;> try first | omega | (simp only [InR]; omega)
   rw [h1]; clear h1 Q1; simp only [zaW,zaA])
  refine zaC fun Qb hb => ?_
  rw [zeM]
  try simp only [zaA]
  iterate 3 (
   refine zaC fun Q1 h1 => ?_
   simp (maxSteps:=4000000) only [go_sem,zae,zac,zad,zan,zaq,czb,cza,↓reduceIte,zay,zab,onz,gk,sk,hn0,hge,hm0,hOl,czd,czc]
   all_goals (repeat' first | (with_reducible first | rfl | apply And.intro | assumption) | ((with_reducible show zaj _ _ = true); rfl)) <;> try first | omega | (simp only [InR]; omega)
   rw [h1]; clear h1 Q1; simp only [zaW,zaA])
  simp (maxSteps:=4000000) only [go_sem,zae,zac,zad,zan,zaq,czb,cza,↓reduceIte,zay,zab,onz]
  refine zbG (w.length) [] [1,4,5,7,9,10,20,21,22,24,25,26,27] (fun k => [(28,.int .i64 k)]) (fun k _ => mem ++ [.cells [.int .i64 y.t.last,.sl (y.t.heights.map EncE.cs) .no,.int .i64 y.t.step,.sl (y.t.levels.map EncE.cs) .no,.sl (y.t.marks.map EncE.cs) .no,.int .i64 y.hands,.sl (y.chairs.map EncE.cs) .no,.sl (y.order.map EncE.cs) .no,.sl (y.hires.map EncE.cs) .no],.cells [.sl [] .full,.sl ((R i).map EncE.cs) (.own (n0 + 5))],.cells [.int .i64 y.t.last,.sl (y.t.heights.map EncE.cs) .no,.int .i64 y.t.step,.sl (y.t.levels.map EncE.cs) .no,.sl (y.t.marks.map EncE.cs) .no],.cells ((ze1 s).l.map (AV.int .i64)),.cells O,.tok i 10,.cells ((zeA w k).map AV.bool)]) (fun _ => True) ?_ ?_ ?_ ?_
  ·trivial
  ·refine ⟨rfl,rfl,rfl,by show n0 ≤ (mem ++ _).length; rw [czc,hn0]; omega,za0 _,?_,zby ?_,trivial⟩
   ·dsimp only [zaf]
    rw [czc,hn0]
    simp [AV.bare,zal,zaN,zaR,zak,zar,zaf,tokz1,lk,zaa,za3]
    omega
   ·dsimp only [zaf]
    rw [czc,hn0]
    exact zce hm (by simp) (by simp [AV.bare,zal,zaN,zaR,zak,zar,zaf,tokz1,lk,zaa,za3,hOb])
  ·intro k hk _
   have hk':=czH.2 hk
   have hkx:=hwl _ (zbv hk)
   obtain ⟨x,hx⟩:=czu hkx.1
   have hge2:(w.map EncE.cs).getD k [] = [AV.int .i64 (x:Int)]:=by rw [zax hk,hx]; rfl
   have hml:=zdG w k
   have hov:=zkV (l:=zeA w k) (i:=x) (by omega) true
   have hms:(zeA w k).set x true = zeA w (k + 1):=by
    show _ = (zeA w k).set (at_ w k).toNat true
    rw [hx]; rfl
   rw [hms] at hov
   have hx10:x < 10:=by omega
   simp only [zcj]
   simp (maxSteps:=4000000) only [go_sem,zae,zac,zad,zaq,czb,cza,↓reduceIte,zay,zab,onz,gk,sk,hn0,hk',hge2,hml,hov,czd,czc]
   all_goals (repeat' first | (with_reducible first | rfl | apply And.intro | assumption) | ((with_reducible show zaj _ _ = true); rfl)) <;> try first | omega | (simp only [InR]; omega)
   refine nxt hk trivial ⟨rfl,rfl,rfl,by show n0 ≤ (mem ++ _).length; rw [czc,hn0]; omega,za0 _,?_,zby ?_,trivial⟩
   ·dsimp only [zaf]
    rw [czc,hn0]
    simp [AV.bare,zal,zaN,zaR,zak,zar,zaf,tokz1,lk,zaa,za3]
    omega
   ·dsimp only [zaf]
    rw [czc,hn0]
    exact zce hm (by simp) (by simp [AV.bare,zal,zaN,zaR,zak,zar,zaf,tokz1,lk,zaa,za3,hOb])
  ·intro _
   have hra:=(zoW s (at_ y.t.levels i)).h
   simp only [zcj]
   simp (maxSteps:=4000000) only [go_sem,zae,zac,zad,zan,zaq,czb,cza,↓reduceIte,zay,zab,onz,gk,sk,hn0,czA,decide_false,hrow,hra,hrl,hb,czd,czc]
   all_goals (repeat' first | (with_reducible first | rfl | apply And.intro | assumption) | ((with_reducible show zaj _ _ = true); rfl)) <;> try first | omega | (simp only [InR]; omega)
   refine nxt hi trivial ?_
   have hRm:(R (i + 1)).map EncE.cs = (R i).map EncE.cs ++ [(zoW s (at_ y.t.levels i)).l.map AV.bool]:=by rw [hRs i hi,List.map_append]; rfl
   simp only [hRm]
   refine ⟨rfl,rfl,rfl,by show n0 ≤ (mem ++ _).length; rw [czc,hn0]; omega,zlm (r:=[_,_,_,_,_,_]) (r':=[_,_,_,_,_,_,_]) ⟨rfl,rfl,rfl,rfl,rfl,rfl,trivial⟩ mem,?_,zby ?_,trivial⟩
   ·dsimp only [zaf]
    rw [czc,hn0]
    simp [AV.bare,zal,zaN,zaR,zak,zar,zaf,tokz1,lk,zaa,za3]
    omega
   ·dsimp only [zaf]
    rw [czc,hn0,← hRm]
    exact zce hm (by simp) (by simp [AV.bare,zal,zaN,zaR,zak,zar,zaf,tokz1,lk,zaa,za3,hOb])
 ·intro _
  simp only [zdD,zcj,tokz1,lk,mA0,mA1,mA2,mA3,mA4,mA5,mA6,List.getD_cons_zero,List.getD_cons_succ,List.set_cons_succ,List.set_cons_zero,czc,czd,czs,List.nil_append,cza,czy,Nat.reduceAdd,Nat.zero_add,List.map_nil,Nat.reduceEqDiff,↓reduceIte,gk,sk,hn0,hR0]
  simp (maxSteps:=4000000) only [go_sem,zae,zac,zad,zan,zaq,czb,cza,↓reduceIte,zay,zab,onz,gk,sk,hn0,czA,decide_false]
  all_goals (repeat' first | (with_reducible first | rfl | apply And.intro | assumption) | ((with_reducible show zaj _ _ = true); rfl)) <;> try first | omega | (simp only [InR]; omega)
  obtain ⟨X,hX⟩:∃ X:List AObj,[AObj.cells [.int .i64 y.t.last,.sl (y.t.heights.map EncE.cs) .no,.int .i64 y.t.step,.sl (y.t.levels.map EncE.cs) .no,.sl (y.t.marks.map EncE.cs) .no,.int .i64 y.hands,.sl (y.chairs.map EncE.cs) .no,.sl (y.order.map EncE.cs) .no,.sl (y.hires.map EncE.cs) .no],.cells [.sl [] .full,.sl ((R y.t.levels.length).map EncE.cs) (.own (n0 + 5))],.cells [.int .i64 y.t.last,.sl (y.t.heights.map EncE.cs) .no,.int .i64 y.t.step,.sl (y.t.levels.map EncE.cs) .no,.sl (y.t.marks.map EncE.cs) .no],.cells ((ze1 s).l.map (AV.int .i64)),.cells O,.tok y.t.levels.length 10] = X:=⟨_,rfl⟩
  have hCl:=zq9 (mem:=mem ++ X) s (gL _) (by
   rw [czc,hn0,← hX]
   exact zce hm (by simp) (by simp [AV.bare,zal,zaN,zaR,zak,zar,zaf,tokz1,lk,zaa,za3,hOb])) hs4
  rw [czd,← hX] at hCl
  refine ⟨_,hCl,?_⟩
  rintro r mem' ⟨rfl,rfl⟩ _
  simp (maxSteps:=4000000) only [go_sem,zae,zac,zad,zan,zaq,czb,cza,↓reduceIte,zay,zab,onz,gk,sk,hn0,czd,czc]
  all_goals (repeat' first | (with_reducible first | rfl | apply And.intro | assumption) | ((with_reducible show zaj _ _ = true); rfl)) <;> try first | omega | (simp only [InR]; omega)
  refine ⟨n0,czf _,by omega,List.take_left' hn0,by simp [AV.bare,zal,zaN,zaR,zak,zar,zaf,tokz1,lk,zaa,za3],?_⟩
  rw [List.take_left' hn0]
  exact hm
end
end Go.Proofs
