/- The texts Y6, Y7, Y8, Y9, Y10, Y11, joined. -/
import Derived.Test.YtgfkmkkoligobaaGreatG11
import Derived.Test.YtgfkmkkoligobaaGreatG6
set_option linter.all false
namespace Go.Proofs
open Go.Fs
set_option maxHeartbeats 8000000
set_option maxRecDepth 8000
def P207 (g:FuncId):=(zat 27 (zgE (fun (y:My) (t:List Pt) (ps:List (List Rg)) => (MOk y ∧ TOk t ∧ t.length = y.chairs.length) ∧ (∀ l ∈ ps,PrOk y.chairs.length l) ∧ ps.length ≤ 1048576) (fun y t ps => ((zhq y t ps:Nat):Int))) (zat 23 (zbD (fun (y:My) (_:Int) => MOk y) (fun y m => ((zmn y.claims m y.claims.length:Nat):Int))) (zat 24 (zbN MOk (fun y => ((2 ^ y.claims.length - 1:Nat):Int))) (zat 26 (zbN (fun y:My => y.chairs.length ≤ 4096 ∧ zbY y.chairs ≤ 8) (fun y => ((2 ^ zbY y.chairs:Nat):Int))) (P206)))):zay) g
theorem zn8:zam Tryz.prog P207:=zah (zcY Most_call) (zah (zaK zq5) (zah (zaN Full_call) (zah (zaN Many_call) (zid))))
theorem zic (d:Option Nat):zaw P207 d = none:=(zag (by decide) d).trans ((zag (by decide) d).trans ((zag (by decide) d).trans ((zag (by decide) d).trans (zmf d))))
attribute [go_sem] P207 zic
def ziE {α β γ δ:Type} [Enc α] [Enc β] [Enc γ] [EncE δ] (pre:α → β → γ → Prop) (f:α → β → γ → List δ):List AV → Option (Prop × AV)
 | [a,b,c] => match (Enc.dec a:Option α),(Enc.dec b:Option β),(Enc.dec c:Option γ) with
  | some a,some b,some c => some (pre a b c,.sl ((f a b c).map EncE.cs) (.own (EncE.sz δ)))
  | _,_,_ => none
 | _ => none
theorem zks {P:Program} {g:FuncId} {α β γ δ:Type} [Enc α] [Enc β] [Enc γ] [EncE δ] {pre:α → β → γ → Prop} {f:α → β → γ → List δ}
  (h:∀ a b c,pre a b c → zfD P g [Enc.enc a,Enc.enc b,Enc.enc c] (EncE.sz δ) ((f a b c).map EncE.cs)):∀ args p r,ziE pre f args = some (p,r) → p → zie P g args r:=by
 intro args p r hs hp
 unfold ziE at hs
 split at hs
 ·split at hs
  ·rename_i a' b' c' h1 h2 h3
   cases hs
   rw [Enc.law _ _ h1,Enc.law _ _ h2,Enc.law _ _ h3]; exact callF_P (h _ _ _ hp)
  ·cases hs
 ·cases hs
attribute [go_sem] ziE
def PR7 (pre:My → Int → Int → Prop):zay:=zat 25 (ziE pre (fun (y:My) (c w:Int) => prR (y.chairs.length - c.toNat) c.toNat w.toNat)) P207
theorem zdy (pre:My → Int → Int → Prop) (g:FuncId):PR7 pre g = (zat 25 (ziE pre (fun (y:My) (c w:Int) => prR (y.chairs.length - c.toNat) c.toNat w.toNat)) P207) g:=rfl
theorem zcr (pre:My → Int → Int → Prop) (d:Option Nat):zaw (PR7 pre) d = none:=(zag (by decide) d).trans (zic d)
theorem fac7:∀ k:Nat,k ≤ 7 → zle k ≤ 5040:=by decide
def zh8 (k:Nat) (y:My) (c w:Int):Prop:=MOk y ∧ (0 ≤ c ∧ c ≤ y.chairs.length) ∧ (0 ≤ w ∧ w < 128) ∧ (y.chairs.length:Int) - c ≤ k
theorem or_lt7 {w b:Nat} (hw:w < 128) (hb:b < 7):w ||| 2 ^ b < 128:=by
 have:w ||| 2 ^ b < 2 ^ 7:=Nat.or_lt_two_pow (by omega) (Nat.pow_lt_pow_right (by omega) hb)
 omega
theorem PR7_ok {k:Nat} (ih:∀ (y:My) (c w:Int),zh8 k y c w → zfD Tryz.prog 25 [Enc.enc y,Enc.enc c,Enc.enc w] 1 ((prR (y.chairs.length - c.toNat) c.toNat w.toNat).map EncE.cs)):zam Tryz.prog (PR7 (zh8 k)) :=
 zah (zks ih) zn8
theorem zf1 (y:My) (c w:Int) (h:zh8 0 y c w):zfD Tryz.prog 25 [Enc.enc y,Enc.enc c,Enc.enc w] 1 ((prR (y.chairs.length - c.toNat) c.toNat w.toNat).map EncE.cs):=by
 obtain ⟨hy,⟨c0,c1⟩,⟨w0,w1⟩,hk⟩:=h
 have hkz:y.chairs.length - c.toNat = 0:=by omega
 rw [hkz]
 have hge:decide ((y.chairs.length:Int) ≤ c) = true:=by rw [decide_eq_true_eq]; omega
 simp only [zi1,zhR]
 refine zgw (Φ:=P207) Tryz.func25 rfl (by rfl) (by rw [Tryz.ntmps25]; simp) zaA zn8 (by simp [AV.strip,AV.strip1,Tk.strip]) (by decide) ?_
 rw [Tryz.ntmps25]
 simp only [Tryz.f25,zaj,zao]
 simp (maxSteps:=4000000) only [go_sem,AV.one,zae,zab,zac,zan,zaq,zaa,czb,cza,↓reduceIte,zaf,onz,frRn,hge,prR,zqg,List.map_nil]
 all_goals exact auz
theorem zjI (l:List (List Rg)):(l.map EncE.cs).map (fun e => e.map zqg) = l.map EncE.cs:=by
 rw [List.map_map]
 exact List.map_congr_left fun x _ => rfl
def addR (k c w b:Nat):List (List Rg):=if w.testBit b = true then [] else (prR k (c + 1) (w ||| 2 ^ b)).map fun l => (⟨(c:Int),(b:Int)⟩:Rg) :: l
def zkg (k c w j:Nat):List (List Rg):=prR k (c + 1) w ++ (List.range' (c + 1) j).flatMap (addR k c w)
theorem zkO (k c w j:Nat):zkg k c w (j + 1) = zkg k c w j ++ addR k c w (c + 1 + j):=by
 unfold zkg
 rw [List.range'_1_concat,List.flatMap_append,czd]
 simp
theorem outR_len (k c w j:Nat) (hk:k ≤ 6) (hj:j ≤ k):(zkg k c w j).length ≤ 5040:=by
 have h1:=zjw k (c + 1)
 have h2:=fac7 (k + 1) (by omega)
 have key:∀ q:List Nat,(q.flatMap (addR k c w)).length ≤ q.length * zle k:=by
  intro q
  induction q with
  | nil => simp
  | cons b q ih =>
   rw [List.flatMap_cons,czc,cza,Nat.succ_mul]
   have:(addR k c w b).length ≤ zle k:=by
    unfold addR
    split
    ·simp
    ·rw [czz]; exact h1 _
   omega
 have h3:=key (List.range' (c + 1) j)
 rw [List.length_range'] at h3
 have h4:=h1 w
 have h5:j * zle k ≤ k * zle k:=czq _ hj
 unfold zkg
 rw [czc]
 have h6:zle (k + 1) = k * zle k + zle k:=by show (k + 1) * zle k = _; rw [Nat.succ_mul]
 omega
theorem zj9 {k:Nat} (ih:∀ (y:My) (c w:Int),zh8 k y c w → zfD Tryz.prog 25 [Enc.enc y,Enc.enc c,Enc.enc w] 1 ((prR (y.chairs.length - c.toNat) c.toNat w.toNat).map EncE.cs))
  (y:My) (c w:Int) (h:zh8 (k + 1) y c w) (hlt:c < y.chairs.length):zfD Tryz.prog 25 [Enc.enc y,Enc.enc c,Enc.enc w] 1 ((prR (y.chairs.length - c.toNat) c.toNat w.toNat).map EncE.cs):=by
 obtain ⟨hy,⟨c0,c1⟩,⟨w0,w1⟩,hk⟩:=h
 obtain ⟨n,rfl⟩:=czu c0
 obtain ⟨v,rfl⟩:=czu w0
 have h7:=hy.len
 rw [czF,czF]
 obtain ⟨K,hK⟩:∃ K,y.chairs.length - (n + 1) = K:=⟨_,rfl⟩
 have hK1:y.chairs.length - n = K + 1:=by omega
 rw [hK1]
 have hcn:((n:Int) + 1).toNat = n + 1:=by omega
 have hge:decide ((y.chairs.length:Int) ≤ (n:Int)) = false:=by rw [decide_eq_false_iff_not]; omega
 have hb1:=bit_1 v n
 have hnn:=zgt v n
 have hpre:zh8 k y ((n:Int) + 1) (v:Int):=⟨hy,⟨by omega,by omega⟩,⟨by omega,by omega⟩,by omega⟩
 have h0:zkg K n v 0 = prR K (n + 1) v:=by unfold zkg; simp
 refine zgw (Φ:=PR7 (zh8 k)) Tryz.func25 rfl (by rfl) (by rw [Tryz.ntmps25]; simp) zaA (PR7_ok ih) (by simp [Enc.enc,AV.strip,AV.strip1,Tk.strip]) (by decide) ?_
 rw [Tryz.ntmps25]
 simp only [Tryz.f25,zaj,zao,zi1,zhR]
 cases hb:v.testBit n
 case true =>
  have e:prR (K + 1) n v = prR K (n + 1) v:=by
   show (if v.testBit n = true then _ else _) = _
   rw [if_pos hb]
  rw [hb] at hb1
  rw [e]
  iterate 2 (
   refine zaz fun Q1 h1 => ?_
   simp (maxSteps:=4000000) only [go_sem,AV.one,zae,zab,zac,zan,zaq,zaa,czb,cza,↓reduceIte,zaf,onz,zdy,zcr,hge]
   all_goals (repeat' first | (with_reducible first | rfl | apply And.intro | assumption) | ((with_reducible show zad _ _ = true); rfl)) <;> try first | omega | (simp only [InR]; omega)
   rw [h1]; clear h1 Q1; simp only [zaO,zav])
  iterate 2 (
   refine zaz fun Q1 h1 => ?_
   simp (maxSteps:=4000000) only [go_sem,AV.one,zae,zab,zac,zan,zaq,zaa,czb,cza,↓reduceIte,zaf,onz,zdy,zcr,hcn,hK,hpre]
   all_goals (repeat' first | (with_reducible first | rfl | apply And.intro | assumption) | ((with_reducible show zad _ _ = true); rfl)) <;> try first | omega | (simp only [InR]; omega)
   rw [h1]; clear h1 Q1; simp only [zaO,zav])
  simp (maxSteps:=4000000) only [go_sem,AV.one,zae,zab,zac,zan,zaq,zaa,czb,cza,↓reduceIte,zaf,onz,zdy,zcr,hb1,frRn,zjI]
  all_goals exact auz
 rw [hb] at hb1
 have e:prR (K + 1) n v = zkg K n v K:=by
  unfold zkg addR
  show (if v.testBit n = true then _ else _) = _
  rw [if_neg (by simp [hb])]
 rw [e]
 iterate 2 (
  refine zaz fun Q1 h1 => ?_
  simp (maxSteps:=4000000) only [go_sem,AV.one,zae,zab,zac,zan,zaq,zaa,czb,cza,↓reduceIte,zaf,onz,zdy,zcr,hge]
  all_goals (repeat' first | (with_reducible first | rfl | apply And.intro | assumption) | ((with_reducible show zad _ _ = true); rfl)) <;> try first | omega | (simp only [InR]; omega)
  rw [h1]; clear h1 Q1; simp only [zaO,zav])
 iterate 2 (
  refine zaz fun Q1 h1 => ?_
  simp (maxSteps:=4000000) only [go_sem,AV.one,zae,zab,zac,zan,zaq,zaa,czb,cza,↓reduceIte,zaf,onz,zdy,zcr,hcn,hK,hpre]
  all_goals (repeat' first | (with_reducible first | rfl | apply And.intro | assumption) | ((with_reducible show zad _ _ = true); rfl)) <;> try first | omega | (simp only [InR]; omega)
  rw [h1]; clear h1 Q1; simp only [zaO,zav])
 rw [← h0]
 simp (maxSteps:=4000000) only [go_sem,AV.one,zae,zab,zac,zan,zaq,zaa,czb,cza,↓reduceIte,zaf,onz,zdy,zcr,hb1,frRn,zjI]
 all_goals (repeat' first | (with_reducible first | rfl | apply And.intro | assumption) | ((with_reducible show zad _ _ = true); rfl)) <;> try first | omega | (simp only [InR]; omega)
 refine zbg (K) [] [1,2,3,6] (fun j => [(8,.int .i64 ((n + 1 + j:Nat):Int)),(7,.sl ((zkg K n v j).map EncE.cs) (.own 1))]) (fun j m => m.set 1 (.tok (zkg K n v j).length 1)) (fun _ => True) ?_ ?_ ?_ ?_
 ·trivial
 ·simp [AV.bare,zal,zaF,zaI,zak,zas,zai,tokz1,lk,zaa,zaZ]
 ·intro j hj _
  have hlt':decide (((n + 1 + j:Nat):Int) < (y.chairs.length:Int)) = true:=by rw [decide_eq_true_eq]; omega
  have hb2:=bit_1 v (n + 1 + j)
  have hn2:=zgt v (n + 1 + j)
  cases hv:v.testBit (n + 1 + j)
  case true =>
   rw [hv] at hb2
   have hs:zkg K n v (j + 1) = zkg K n v j:=by rw [zkO]; unfold addR; rw [if_pos hv,List.append_nil]
   simp (maxSteps:=4000000) only [go_sem,AV.one,zae,zab,zac,zan,zaq,zaa,czb,cza,↓reduceIte,zaf,onz,zdy,zcr,hlt',hb2]
   all_goals (repeat' first | (with_reducible first | rfl | apply And.intro | assumption) | ((with_reducible show zad _ _ = true); rfl)) <;> try first | omega | (simp only [InR]; omega)
   refine nxt hj trivial ?_
   simp [AV.bare,zal,zaF,zaI,zak,zas,zai,tokz1,lk,zaa,zaZ,hs]
   all_goals (try omega)
  rw [hv] at hb2
  have hp8:=pow8 (n + 1 + j) (by omega)
  have hpn:=zfs (n + 1 + j)
  have hor:=or_lt7 (w:=v) (b:=n + 1 + j) (by omega) (by omega)
  have hpre2:zh8 k y ((n:Int) + 1) ((v ||| 2 ^ (n + 1 + j):Nat):Int):=⟨hy,⟨by omega,by omega⟩,⟨by omega,by omega⟩,by omega⟩
  obtain ⟨B,hB⟩:∃ B,n + 1 + j = B:=⟨_,rfl⟩
  rw [hB] at hlt' hb2 hn2 hv hp8 hpn hor hpre2 ⊢
  obtain ⟨L,hL⟩:∃ L,prR K (n + 1) (v ||| 2 ^ B) = L:=⟨_,rfl⟩
  have hL1:L.length ≤ 5040:=by rw [← hL]; exact Nat.le_trans (zjw _ _ _) (fac7 K (by omega))
  have hL2:∀ l ∈ L,l.length ≤ 7:=fun l hl => by rw [← hL] at hl; have:=(prR_ok _ _ _ l hl).1; omega
  have ho:=outR_len K n v j (by omega) (by omega)
  have hs:zkg K n v (j + 1) = zkg K n v j ++ L.map fun l => (⟨(n:Int),(B:Int)⟩:Rg) :: l:=by rw [zkO,hB]; unfold addR; rw [if_neg (by simp [hv]),hL]
  simp (maxSteps:=4000000) only [go_sem,AV.one,zae,zab,zac,zan,zaq,zaa,czb,cza,↓reduceIte,zaf,onz,zdy,zcr,hlt',hb2,hpn,hcn,hK,hL,hpre2]
  all_goals (repeat' first | (with_reducible first | rfl | apply And.intro | assumption) | ((with_reducible show zad _ _ = true); rfl)) <;> try first | omega | (simp only [InR]; omega)
  refine zbg (L.length) [] [1,2,3,6,8,9,31,32,33,34,38,39,40,41,42,44,45,46,47,48,49,50,51,52] (fun i => [(10,.int .i64 i),(7,.sl ((zkg K n v j ++ (L.take i).map fun l => (⟨(n:Int),(B:Int)⟩:Rg) :: l).map EncE.cs) (.own 1))]) (fun i m => m.set 1 (.tok (zkg K n v j ++ (L.take i).map fun l => (⟨(n:Int),(B:Int)⟩:Rg) :: l).length 1)) (fun _ => True) ?_ ?_ ?_ ?_
  ·trivial
  ·simp [AV.bare,zal,zaF,zaI,zak,zas,zai,tokz1,lk,zaa,zaZ]
  ·intro i hi _
   have hi':=czH.2 hi
   have hg:=zar (f:=EncE.cs) hi
   have h7':=hL2 _ (zaS hi)
   have hOL:(zkg K n v j ++ (L.take i).map fun l => (⟨(n:Int),(B:Int)⟩:Rg) :: l).length ≤ 10080:=by
    rw [czc,czz,czO]; omega
   simp (maxSteps:=4000000) only [go_sem,AV.one,zae,zab,zac,zan,zaq,zaa,czb,cza,↓reduceIte,zaf,onz,zdy,zcr,hi',hg,hi]
   all_goals (repeat' first | (with_reducible first | rfl | apply And.intro | assumption) | ((with_reducible show zad _ _ = true); rfl)) <;> try first | omega | (simp only [InR]; omega)
   ·intro x hx c hc
    obtain ⟨a,_,rfl⟩:=czx.1 hx
    simp only [EncE.cs,czn,czk,or_false] at hc
    rcases hc with rfl | rfl <;> rfl
   refine nxt hi trivial ?_
   simp [AV.bare,zal,zaF,zaI,zak,zas,zai,tokz1,lk,zaa,zaZ,zaM hi,-List.map_take,-List.map_map]
   all_goals (try omega)
  ·intro _
   simp (maxSteps:=4000000) only [go_sem,AV.one,zae,zab,zac,zan,zaq,zaa,czb,cza,↓reduceIte,zaf,onz,zdy,zcr,czA,czm]
   all_goals (repeat' first | (with_reducible first | rfl | apply And.intro | assumption) | ((with_reducible show zad _ _ = true); rfl)) <;> try first | omega | (simp only [InR]; omega)
   refine nxt hj trivial ?_
   simp [AV.bare,zal,zaF,zaI,zak,zas,zai,tokz1,lk,zaa,zaZ,hs,-List.map_map]
   all_goals (try omega)
 ·intro _
  have hlt':decide (((n + 1 + K:Nat):Int) < (y.chairs.length:Int)) = false:=by rw [decide_eq_false_iff_not]; omega
  simp (maxSteps:=4000000) only [go_sem,AV.one,zae,zab,zac,zan,zaq,zaa,czb,cza,↓reduceIte,zaf,onz,zdy,zcr,hlt',frRn,zjI]
  all_goals exact auz
theorem zf2:∀ (k:Nat) (y:My) (c w:Int),zh8 k y c w → zfD Tryz.prog 25 [Enc.enc y,Enc.enc c,Enc.enc w] 1 ((prR (y.chairs.length - c.toNat) c.toNat w.toNat).map EncE.cs)
 | 0,y,c,w,h => zf1 y c w h
 | k + 1,y,c,w,h => by
  by_cases e:c < y.chairs.length
  ·exact zj9 (zf2 k) y c w h e
  ·obtain ⟨hy,⟨c0,c1⟩,hw,hk⟩:=h
   exact zf1 y c w ⟨hy,⟨c0,c1⟩,hw,by omega⟩
def P208 (g:FuncId):=(zat 25 (ziE (zh8 7) (fun (y:My) (c w:Int) => prR (y.chairs.length - c.toNat) c.toNat w.toNat)) (P207):zay) g
theorem zn7:zam Tryz.prog P208:=zah (zks (zf2 7)) (zn8)
theorem zme (d:Option Nat):zaw P208 d = none:=(zag (by decide) d).trans (zic d)
attribute [go_sem] P208 zme
theorem zmw {p n:Int} (hp:0 ≤ p ∧ p ≤ 2):0 ≤ zof p n ∧ zof p n ≤ 1:=by unfold zof; split <;> omega
theorem ptN_ok {p:Pt} (hp:zrp p) (n:Int):PtK (ptN p n):=⟨zmw hp.1,zmw hp.2.1,zmw hp.2.2⟩
theorem nth_ok:∀ (l:List Pt) (n:Int),(∀ p ∈ l,zrp p) → TOk (zjB l n)
 | [],_,_ => fun p h => by cases h
 | p :: r,n,h => fun q hq => by
  unfold zjB at hq
  rcases czn.1 hq with rfl | hq
  ·exact ptN_ok (h p (by simp)) n
  ·exact nth_ok r _ (fun x hx => h x (by simp [hx])) q hq
theorem MOk.pts {y:My} (h:MOk y):∀ p ∈ zd7 y.chairs,zrp p:=fun p hp => by
 unfold zd7 at hp
 obtain ⟨c,hc,rfl⟩:=czx.1 hp
 exact (h.ch c hc).2
theorem ze4 (l:List Mc):(zd7 l).length = l.length:=by unfold zd7; simp
def zf3 (y:My) (n:Nat):List Pt:=zjB (zd7 y.chairs) (n:Int)
theorem zd8 (y:My) (n:Nat):(zf3 y n).length = y.chairs.length:=by unfold zf3; rw [zjA,ze4]
theorem zho {y:My} (h:MOk y) (n:Nat):TOk (zf3 y n):=nth_ok _ _ h.pts
def zmp (y:My) (k:Nat):List Int:=(List.range k).map fun n => ((zdF y (zf3 y n):Nat):Int)
theorem allM_succ (y:My) (k:Nat):zmp y (k + 1) = zmp y k ++ [((zdF y (zf3 y k):Nat):Int)]:=by unfold zmp; rw [List.range_succ,List.map_append]; rfl
theorem zmT:∀ k:Nat,k ≤ 8 → 2 ^ k ≤ 256:=by decide
theorem All_call (y:My) (h:MOk y ∧ zbY y.chairs ≤ 8):zaH Tryz.prog 10 [Enc.enc y] (· = Enc.enc (zmp y (2 ^ zbY y.chairs))):=by
 obtain ⟨hy,h8⟩:=h
 have h7:=hy.len
 have hpow:=zmT _ h8
 have hpre:zh8 7 y 0 0:=⟨hy,⟨by omega,by omega⟩,⟨by omega,by omega⟩,by omega⟩
 obtain ⟨PS,hPS⟩:∃ PS,prR y.chairs.length 0 0 = PS:=⟨_,rfl⟩
 have hps:∀ l ∈ PS,PrOk y.chairs.length l:=fun l hl => by
  rw [← hPS] at hl
  obtain ⟨g1,g2⟩:=prR_ok _ _ _ l hl
  refine ⟨by omega,fun q hq => ?_⟩
  have:=g2 q hq
  omega
 have hpl:PS.length ≤ 1048576:=by rw [← hPS]; have:=zjw y.chairs.length 0 0; have:=fac7 y.chairs.length h7; omega
 have h00:y.chairs.length - (0:Int).toNat = y.chairs.length:=by simp
 have h0t:(0:Int).toNat = 0:=rfl
 obtain ⟨M,hM⟩:∃ M,2 ^ zbY y.chairs = M:=⟨_,rfl⟩
 rw [hM] at hpow ⊢
 simp only [zbT]
 refine cpz zn7 Tryz.func10 zaA ?_
 rw [Tryz.ntmps10]
 simp only [Tryz.f10,zaj,zao]
 simp (maxSteps:=4000000) only [go_sem,AV.one,zae,zab,zac,zan,zaq,zaa,czb,cza,↓reduceIte,zaf,onz,h00,h0t,hPS,Nat.sub_zero]
 all_goals (repeat' first | (with_reducible first | rfl | apply And.intro | assumption) | ((with_reducible show zad _ _ = true); rfl)) <;> try first | omega | (simp only [InR]; omega)
 refine zbg (M) [.slot 4 1] [1,2,3] (fun i => [(5,.int .i64 i),(4,.sl ((zmp y i).map EncE.cs) (.own 2))]) (fun i m => m.set 2 (.tok (zmp y i).length 1)) (fun _ => True) ?_ ?_ ?_ ?_
 ·trivial
 ·simp [AV.bare,zal,zaF,zaI,zak,zas,zai,tokz1,lk,zaa,zaZ,zmp]
 ·intro i hi _
  have hi':=czH.2 hi
  have hlen:(zmp y i).length = i:=by simp [zmp]
  have ht:=zho hy i
  have htl:=zd8 y i
  have hme:=most_eq (y:=y) (t:=zf3 y i) (by omega)
  rw [htl,hPS] at hme
  have hnt:zjB (zd7 y.chairs) (i:Int) = zf3 y i:=rfl
  have hs:=allM_succ y i
  simp (maxSteps:=4000000) only [go_sem,AV.one,zae,zab,zac,zan,zaq,zaa,czb,cza,↓reduceIte,zaf,onz,hi',hM,hnt,hme]
  all_goals (repeat' first | (with_reducible first | rfl | apply And.intro | assumption) | ((with_reducible show zad _ _ = true); rfl)) <;> try first | omega | (simp only [InR]; omega)
  refine nxt hi trivial ?_
  simp [AV.bare,zal,zaF,zaI,zak,zas,zai,tokz1,lk,zaa,zaZ,hs,-List.map_map]
 ·intro _
  simp (maxSteps:=4000000) only [go_sem,AV.one,zae,zab,zac,zan,zaq,zaa,czb,cza,↓reduceIte,zaf,onz,czA,hM]
  all_goals exact auz
def zqe (y:My) (all:List Int) (k:Nat):List Int:=((List.range k).filter fun n => zdx y.claims (at_ all n)).map fun n:Nat => (n:Int)
theorem numM_succ (y:My) (all:List Int) (k:Nat):zqe y all (k + 1) = zqe y all k ++ if zdx y.claims (at_ all k) = true then [(k:Int)] else []:=by
 unfold zqe
 rw [List.range_succ,List.filter_append,List.map_append]
 congr 1
 cases h:zdx y.claims (at_ all k) <;> simp [List.filter_cons,h]
theorem zow (y:My) (all:List Int) (k:Nat):(zqe y all k).length ≤ k:=by
 unfold zqe
 rw [czz]
 exact Nat.le_trans (List.length_filter_le _ _) (by simp)
theorem zml (y:My) (all:List Int) (h:MOk y ∧ all.length ≤ 4096):zaH Tryz.prog 9 [Enc.enc y,Enc.enc all] (· = Enc.enc (zqe y all all.length)):=by
 obtain ⟨hy,hl⟩:=h
 simp only [zbT]
 refine cpz zn7 Tryz.func9 zaA ?_
 rw [Tryz.ntmps9]
 simp only [Tryz.f9,zaj,zao]
 simp (maxSteps:=4000000) only [go_sem,AV.one,zae,zab,zac,zan,zaq,zaa,czb,cza,↓reduceIte,zaf,onz]
 all_goals (repeat' first | (with_reducible first | rfl | apply And.intro | assumption) | ((with_reducible show zad _ _ = true); rfl)) <;> try first | omega | (simp only [InR]; omega)
 refine zbg (all.length) [.slot 5 1] [1,2,4] (fun i => [(6,.int .i64 i),(5,.sl ((zqe y all i).map EncE.cs) (.own 1))]) (fun i m => m.set 1 (.tok (zqe y all i).length 1)) (fun _ => True) ?_ ?_ ?_ ?_
 ·trivial
 ·simp [AV.bare,zal,zaF,zaI,zak,zas,zai,tokz1,lk,zaa,zaZ,zqe]
 ·intro i hi _
  have hi':=czH.2 hi
  have hg:=zar (f:=EncE.cs) hi
  have hlen:=zow y all i
  have hs:=numM_succ y all i
  have hf:=rgt_full y.claims (at_ all i)
  cases c1:zdx y.claims (at_ all i)
  all_goals
   rw [c1] at hs hf
   simp (maxSteps:=4000000) only [go_sem,AV.one,zae,zab,zac,zan,zaq,zaa,czb,cza,↓reduceIte,zaf,onz,hi',hg,hi,hf]
   all_goals (repeat' first | (with_reducible first | rfl | apply And.intro | assumption) | ((with_reducible show zad _ _ = true); rfl)) <;> try first | omega | (simp only [InR]; omega)
   refine nxt hi trivial ?_
   simp [AV.bare,zal,zaF,zaI,zak,zas,zai,tokz1,lk,zaa,zaZ,hs,-List.map_map]
 ·intro _
  simp (maxSteps:=4000000) only [go_sem,AV.one,zae,zab,zac,zan,zaq,zaa,czb,cza,↓reduceIte,zaf,onz,czA]
  all_goals exact auz
def P209 (g:FuncId):=(zat 10 (zbN (fun y:My => MOk y ∧ zbY y.chairs ≤ 8) (fun y => zmp y (2 ^ zbY y.chairs))) (zat 9 (zbD (fun (y:My) (all:List Int) => MOk y ∧ all.length ≤ 4096) (fun y all => zqe y all all.length)) (P208)):zay) g
theorem zib:zam Tryz.prog P209:=zah (zaN All_call) (zah (zaK zml) (zn7))
theorem zmd (d:Option Nat):zaw P209 d = none:=(zag (by decide) d).trans ((zag (by decide) d).trans (zme d))
attribute [go_sem] P209 zmd
def zjb (c:Mc):Bool:=((!inB c.size 0 9 || !inB c.p.a 0 2) || !inB c.p.b 0 2) || !inB c.p.c 0 2
def zlB (r:Rg):Bool:=(decide (r.lo < 0) || decide (r.hi < r.lo)) || decide (7 < r.hi)
def zdu (y:My):Int :=
 if 7 < y.chairs.length ∨ 5 < y.claims.length then 3
 else if inB y.fit 0 9 = false then 1
 else if y.chairs.any zjb = true then 1
 else if y.claims.any zlB = true then 1
 else if 8 < zbY y.chairs then 3 else 0
theorem zld {y:My} (h:zdu y = 0):MOk y ∧ zbY y.chairs ≤ 8:=by
 unfold zdu at h
 split at h
 ·cases h
 rename_i h1
 split at h
 ·cases h
 rename_i h2
 split at h
 ·cases h
 rename_i h3
 split at h
 ·cases h
 rename_i h4
 split at h
 ·cases h
 rename_i h5
 have hf:=(zfy _ _ _).1 (show inB y.fit 0 9 = true by simpa using h2)
 refine ⟨⟨by omega,by omega,hf.1,hf.2,fun c hc => ?_,fun r hr => ?_⟩,by omega⟩
 ·have:zjb c = false:=by
   cases e:zjb c
   ·rfl
   ·exact absurd (List.any_eq_true.2 ⟨c,hc,e⟩) h3
  unfold zjb at this
  simp only [Bool.or_eq_false_iff,Bool.not_eq_false'] at this
  obtain ⟨⟨⟨g1,g2⟩,g3⟩,g4⟩:=this
  rw [zfy] at g1 g2 g3 g4
  exact ⟨g1,g2,g3,g4⟩
 ·have:zlB r = false:=by
   cases e:zlB r
   ·rfl
   ·exact absurd (List.any_eq_true.2 ⟨r,hr,e⟩) h4
  unfold zlB at this
  simp only [Bool.or_eq_false_iff,decide_eq_false_iff_not] at this
  omega
theorem zgy {α:Type} [Inhabited α] {p:α → Bool} {l:List α}:l.any p = true ↔ ∃ i,i < l.length ∧ p (at_ l i) = true:=by
 rw [List.any_eq_true]
 constructor
 ·rintro ⟨x,hx,h⟩
  obtain ⟨i,hi,rfl⟩:=zoz hx
  exact ⟨i,hi,h⟩
 ·rintro ⟨i,hi,h⟩
  exact ⟨_,zaS hi,h⟩
theorem zo0 {α:Type} [Inhabited α] {p:α → Bool} {l:List α} (h:∀ i,i < l.length → p (at_ l i) = false):¬ l.any p = true:=fun e => by
 obtain ⟨i,hi,q⟩:=zgy.1 e
 rw [h i hi] at q; cases q
theorem zmQ (y:My) (h:y.chairs.length ≤ 4096 ∧ y.claims.length ≤ 4096):zaH Tryz.prog 5 [Enc.enc y] (· = Enc.enc (zdu y)):=by
 obtain ⟨hl1,hl2⟩:=h
 by_cases c1:7 < y.chairs.length
 ·have e:zdu y = 3:=by unfold zdu; rw [if_pos (.inl c1)]
  have d1:decide ((7:Int) < (y.chairs.length:Int)) = true:=by rw [decide_eq_true_eq]; omega
  rw [e]
  simp only [zbT]
  refine cpz zib Tryz.func5 zaA ?_
  rw [Tryz.ntmps5]
  simp only [Tryz.f5,zaj,zao]
  simp (maxSteps:=4000000) only [go_sem,AV.one,zae,zab,zac,zan,zaq,zaa,czb,cza,↓reduceIte,zaf,onz,d1]
 have d1:decide ((7:Int) < (y.chairs.length:Int)) = false:=by rw [decide_eq_false_iff_not]; omega
 by_cases c2:5 < y.claims.length
 ·have e:zdu y = 3:=by unfold zdu; rw [if_pos (.inr c2)]
  have d2:decide ((5:Int) < (y.claims.length:Int)) = true:=by rw [decide_eq_true_eq]; omega
  rw [e]
  simp only [zbT]
  refine cpz zib Tryz.func5 zaA ?_
  rw [Tryz.ntmps5]
  simp only [Tryz.f5,zaj,zao]
  simp (maxSteps:=4000000) only [go_sem,AV.one,zae,zab,zac,zan,zaq,zaa,czb,cza,↓reduceIte,zaf,onz,d1,d2]
 have d2:decide ((5:Int) < (y.claims.length:Int)) = false:=by rw [decide_eq_false_iff_not]; omega
 cases c3:inB y.fit 0 9
 ·have e:zdu y = 1:=by unfold zdu; rw [if_neg (by omega),if_pos c3]
  rw [e]
  simp only [zbT]
  refine cpz zib Tryz.func5 zaA ?_
  rw [Tryz.ntmps5]
  simp only [Tryz.f5,zaj,zao]
  simp (maxSteps:=4000000) only [go_sem,AV.one,zae,zab,zac,zan,zaq,zaa,czb,cza,↓reduceIte,zaf,onz,d1,d2,c3]
 have e0:zdu y = if y.chairs.any zjb = true then 1 else if y.claims.any zlB = true then 1 else if 8 < zbY y.chairs then 3 else 0:=by
  unfold zdu; rw [if_neg (by omega),if_neg (by rw [c3]; simp)]
 rw [e0]
 simp only [zbT]
 refine cpz zib Tryz.func5 zaA ?_
 rw [Tryz.ntmps5]
 simp only [Tryz.f5,zaj,zao]
 simp (maxSteps:=4000000) only [go_sem,AV.one,zae,zab,zac,zan,zaq,zaa,czb,cza,↓reduceIte,zaf,onz,d1,d2,c3]
 all_goals (repeat' first | (with_reducible first | rfl | apply And.intro | assumption) | ((with_reducible show zad _ _ = true); rfl)) <;> try first | omega | (simp only [InR]; omega)
 refine zbg (y.chairs.length) [] [1,2] (fun i => [(3,.int .i64 i)]) (fun _ m => m) (fun i => ∀ j,j < i → zjb (at_ y.chairs j) = false) ?_ ?_ ?_ ?_
 ·intro j hj; omega
 ·simp [AV.bare,zal,zaF,zaI,zak,zas,zai,tokz1,lk,zaa,zaZ]
 ·intro i hi hI
  have hi':=czH.2 hi
  have hg:=zar (f:=EncE.cs) hi
  obtain ⟨c,hc⟩:∃ c,at_ y.chairs i = c:=⟨_,rfl⟩
  rw [hc] at hg
  cases b1:inB c.size 0 9
  ·have b:zjb c = true:=by unfold zjb; simp [b1]
   have ea:y.chairs.any zjb = true:=zgy.2 ⟨i,hi,by rw [hc]; exact b⟩
   rw [if_pos ea]
   simp (maxSteps:=4000000) only [go_sem,AV.one,zae,zab,zac,zan,zaq,zaa,czb,cza,↓reduceIte,zaf,onz,hi',hg,hi,b1]
   all_goals exact auz
  cases b2:inB c.p.a 0 2
  ·have b:zjb c = true:=by unfold zjb; simp [b1,b2]
   have ea:y.chairs.any zjb = true:=zgy.2 ⟨i,hi,by rw [hc]; exact b⟩
   rw [if_pos ea]
   simp (maxSteps:=4000000) only [go_sem,AV.one,zae,zab,zac,zan,zaq,zaa,czb,cza,↓reduceIte,zaf,onz,hi',hg,hi,b1,b2]
   all_goals exact auz
  cases b3:inB c.p.b 0 2
  ·have b:zjb c = true:=by unfold zjb; simp [b1,b2,b3]
   have ea:y.chairs.any zjb = true:=zgy.2 ⟨i,hi,by rw [hc]; exact b⟩
   rw [if_pos ea]
   simp (maxSteps:=4000000) only [go_sem,AV.one,zae,zab,zac,zan,zaq,zaa,czb,cza,↓reduceIte,zaf,onz,hi',hg,hi,b1,b2,b3]
   all_goals exact auz
  cases b4:inB c.p.c 0 2
  ·have b:zjb c = true:=by unfold zjb; simp [b1,b2,b3,b4]
   have ea:y.chairs.any zjb = true:=zgy.2 ⟨i,hi,by rw [hc]; exact b⟩
   rw [if_pos ea]
   simp (maxSteps:=4000000) only [go_sem,AV.one,zae,zab,zac,zan,zaq,zaa,czb,cza,↓reduceIte,zaf,onz,hi',hg,hi,b1,b2,b3,b4]
   all_goals exact auz
  have b:zjb c = false:=by unfold zjb; simp [b1,b2,b3,b4]
  simp (maxSteps:=4000000) only [go_sem,AV.one,zae,zab,zac,zan,zaq,zaa,czb,cza,↓reduceIte,zaf,onz,hi',hg,hi,b1,b2,b3,b4]
  all_goals (repeat' first | (with_reducible first | rfl | apply And.intro | assumption) | ((with_reducible show zad _ _ = true); rfl)) <;> try first | omega | (simp only [InR]; omega)
  refine nxt hi (fun j hj => ?_) ?_
  ·by_cases e:j = i
   ·rw [e,hc]; exact b
   ·exact hI j (by omega)
  simp [AV.bare,zal,zaF,zaI,zak,zas,zai,tokz1,lk,zaa,zaZ]
 ·intro hI
  rw [if_neg (zo0 hI)]
  simp (maxSteps:=4000000) only [go_sem,AV.one,zae,zab,zac,zan,zaq,zaa,czb,cza,↓reduceIte,zaf,onz,czA]
  all_goals (repeat' first | (with_reducible first | rfl | apply And.intro | assumption) | ((with_reducible show zad _ _ = true); rfl)) <;> try first | omega | (simp only [InR]; omega)
  refine zbg (y.claims.length) [] [1,2] (fun i => [(5,.int .i64 i)]) (fun _ m => m) (fun i => ∀ j,j < i → zlB (at_ y.claims j) = false) ?_ ?_ ?_ ?_
  ·intro j hj; omega
  ·simp [AV.bare,zal,zaF,zaI,zak,zas,zai,tokz1,lk,zaa,zaZ]
  ·intro i hi hI
   have hi':=czH.2 hi
   have hg:=zar (f:=EncE.cs) hi
   obtain ⟨c,hc⟩:∃ c,at_ y.claims i = c:=⟨_,rfl⟩
   rw [hc] at hg
   cases b1:decide (c.lo < 0)
   case true =>
    have b:zlB c = true:=by unfold zlB; simp only [b1,Bool.true_or,Bool.or_true,Bool.false_or]
    have ea:y.claims.any zlB = true:=zgy.2 ⟨i,hi,by rw [hc]; exact b⟩
    rw [if_pos ea]
    simp (maxSteps:=4000000) only [go_sem,AV.one,zae,zab,zac,zan,zaq,zaa,czb,cza,↓reduceIte,zaf,onz,hi',hg,hi,b1]
    all_goals exact auz
   cases b2:decide (c.hi < c.lo)
   case true =>
    have b:zlB c = true:=by unfold zlB; simp only [b1,b2,Bool.true_or,Bool.or_true,Bool.false_or]
    have ea:y.claims.any zlB = true:=zgy.2 ⟨i,hi,by rw [hc]; exact b⟩
    rw [if_pos ea]
    simp (maxSteps:=4000000) only [go_sem,AV.one,zae,zab,zac,zan,zaq,zaa,czb,cza,↓reduceIte,zaf,onz,hi',hg,hi,b1,b2]
    all_goals exact auz
   cases b3:decide (7 < c.hi)
   case true =>
    have b:zlB c = true:=by unfold zlB; simp only [b1,b2,b3,Bool.true_or,Bool.or_true,Bool.false_or]
    have ea:y.claims.any zlB = true:=zgy.2 ⟨i,hi,by rw [hc]; exact b⟩
    rw [if_pos ea]
    simp (maxSteps:=4000000) only [go_sem,AV.one,zae,zab,zac,zan,zaq,zaa,czb,cza,↓reduceIte,zaf,onz,hi',hg,hi,b1,b2,b3]
    all_goals exact auz
   have b:zlB c = false:=by unfold zlB; simp only [b1,b2,b3,Bool.or_false]
   simp (maxSteps:=4000000) only [go_sem,AV.one,zae,zab,zac,zan,zaq,zaa,czb,cza,↓reduceIte,zaf,onz,hi',hg,hi,b1,b2,b3]
   all_goals (repeat' first | (with_reducible first | rfl | apply And.intro | assumption) | ((with_reducible show zad _ _ = true); rfl)) <;> try first | omega | (simp only [InR]; omega)
   refine nxt hi (fun j hj => ?_) ?_
   ·by_cases e:j = i
    ·rw [e,hc]; exact b
    ·exact hI j (by omega)
   simp [AV.bare,zal,zaF,zaI,zak,zas,zai,tokz1,lk,zaa,zaZ]
  ·intro hI
   rw [if_neg (zo0 hI)]
   by_cases c4:8 < zbY y.chairs
   ·have d4:decide ((8:Int) < ((zbY y.chairs:Nat):Int)) = true:=by rw [decide_eq_true_eq]; omega
    rw [if_pos c4]
    simp (maxSteps:=4000000) only [go_sem,AV.one,zae,zab,zac,zan,zaq,zaa,czb,cza,↓reduceIte,zaf,onz,czA,d4]
    all_goals exact auz
   ·have d4:decide ((8:Int) < ((zbY y.chairs:Nat):Int)) = false:=by rw [decide_eq_false_iff_not]; omega
    rw [if_neg c4]
    simp (maxSteps:=4000000) only [go_sem,AV.one,zae,zab,zac,zan,zaq,zaa,czb,cza,↓reduceIte,zaf,onz,czA,d4]
    all_goals exact auz
def P210 (g:FuncId):=(zat 5 (zbN (fun y:My => y.chairs.length ≤ 4096 ∧ y.claims.length ≤ 4096) zdu) (P209):zay) g
theorem zia:zam Tryz.prog P210:=zah (zaN zmQ) (zib)
theorem zmc (d:Option Nat):zaw P210 d = none:=(zag (by decide) d).trans (zmd d)
attribute [go_sem] P210 zmc
def zpL (y:My):Bool:=(decide (y.chairs.length ≤ 9) && decide (y.claims.length ≤ 7)) && (!decide (zdu y = 0) || decide (zbY y.chairs ≤ 5))
theorem zqm (y:My):zaH Tryz.prog 4 [Enc.enc y] (· = Enc.enc (zpL y)):=by
 have e1:decide ((y.chairs.length:Int) ≤ 9) = decide (y.chairs.length ≤ 9):=by rw [decide_eq_decide]; omega
 have e2:decide ((y.claims.length:Int) ≤ 7) = decide (y.claims.length ≤ 7):=by rw [decide_eq_decide]; omega
 have e3:decide (((zbY y.chairs:Nat):Int) ≤ 5) = decide (zbY y.chairs ≤ 5):=by rw [decide_eq_decide]; omega
 unfold zpL
 cases c1:decide (y.chairs.length ≤ 9)
 ·rw [c1] at e1
  simp only [zbT]
  refine cpz zia Tryz.func4 zaA ?_
  rw [Tryz.ntmps4]
  simp only [Tryz.f4,zaj,zao]
  simp (maxSteps:=4000000) only [go_sem,AV.one,zae,zab,zac,zan,zaq,zaa,czb,cza,↓reduceIte,zaf,onz,e1]
 rw [c1] at e1
 cases c2:decide (y.claims.length ≤ 7)
 ·rw [c2] at e2
  simp only [zbT]
  refine cpz zia Tryz.func4 zaA ?_
  rw [Tryz.ntmps4]
  simp only [Tryz.f4,zaj,zao]
  simp (maxSteps:=4000000) only [go_sem,AV.one,zae,zab,zac,zan,zaq,zaa,czb,cza,↓reduceIte,zaf,onz,e1,e2]
 rw [c2] at e2
 have h1:y.chairs.length ≤ 9:=by simpa using c1
 have h2:y.claims.length ≤ 7:=by simpa using c2
 cases c3:decide (zdu y = 0)
 ·simp only [zbT]
  refine cpz zia Tryz.func4 zaA ?_
  rw [Tryz.ntmps4]
  simp only [Tryz.f4,zaj,zao]
  simp (maxSteps:=4000000) only [go_sem,AV.one,zae,zab,zac,zan,zaq,zaa,czb,cza,↓reduceIte,zaf,onz,e1,e2,c3]
  all_goals exact auz
 simp only [zbT]
 refine cpz zia Tryz.func4 zaA ?_
 rw [Tryz.ntmps4]
 simp only [Tryz.f4,zaj,zao]
 simp (maxSteps:=4000000) only [go_sem,AV.one,zae,zab,zac,zan,zaq,zaa,czb,cza,↓reduceIte,zaf,onz,e1,e2,c3,e3]
 all_goals exact auz
def P211 (g:FuncId):=(zat 4 (zbN (fun _:My => True) zpL) (P210):zay) g
theorem zn6:zam Tryz.prog P211:=zah (zaN fun y _ => zqm y) (zia)
theorem zmb (d:Option Nat):zaw P211 d = none:=(zag (by decide) d).trans (zmc d)
attribute [go_sem] P211 zmb
theorem zmv (n:Int) (m:Int):zaH Tryz.prog 92 [Enc.enc n,Enc.enc (RefC.mk m)] (· = Enc.enc (inB n 0 m)):=by
 simp only [zbT]
 refine cpz zn6 Tryz.func92 zaA ?_
 rw [Tryz.ntmps92]
 simp only [Tryz.f92,zaj,zao]
 simp (maxSteps:=4000000) only [go_sem,AV.one,zae,zab,zac,zan,zaq,zaa,czb,cza,↓reduceIte,zaf,onz]
def zcV (r:Rg):Bool:=(decide (0 ≤ r.lo) && decide (r.lo ≤ r.hi)) && decide (r.hi ≤ 7)
theorem zqP (y:My) (r:Rg):zaH Tryz.prog 46 [Enc.enc y,Enc.enc r] (· = Enc.enc (zcV r)):=by
 simp only [zbT]
 refine cpz zn6 Tryz.func46 zaA ?_
 rw [Tryz.ntmps46]
 simp only [Tryz.f46,zaj,zao]
 simp (maxSteps:=4000000) only [go_sem,AV.one,zae,zab,zac,zan,zaq,zaa,czb,cza,↓reduceIte,zaf,onz]
 rfl
def P212 (g:FuncId):=(zat 92 (zbD (fun _ _ => True) (fun (n:Int) (m:RefC Int) => inB n 0 m.x)) (zat 46 (zbD (fun _ _ => True) (fun (_:My) (r:Rg) => zcV r)) (P211)):zay) g
theorem P212_ok:zam Tryz.prog P212:=zah (zaK fun n m _ => zmv n m.x) (zah (zaK fun y r _ => zqP y r) (zn6))
theorem zma (d:Option Nat):zaw P212 d = none:=(zag (by decide) d).trans ((zag (by decide) d).trans (zmb d))
attribute [go_sem] P212 zma
theorem zm6 (x:Int) (f:FnC 92 Int):zaH Tryz.prog 98 [Enc.enc x,Enc.enc (RefC.mk f)] (· = Enc.enc (!(fun n => inB n 0 f.x) x)):=by
 simp only [zbT]
 refine cpz P212_ok Tryz.func98 zaA ?_
 rw [Tryz.ntmps98]
 simp only [Tryz.f98,zaj,zao]
 simp (maxSteps:=4000000) only [go_sem,AV.one,zae,zab,zac,zan,zaq,zaa,czb,cza,↓reduceIte,zaf,onz]
def P213 (g:FuncId):=(zat 98 (zbD (fun _ _ => True) (fun (x:Int) (f:RefC (FnC 92 Int)) => let f:=f.x; !(fun n => inB n 0 f.x) x)) (P212):zay) g
theorem P213_ok:zam Tryz.prog P213:=zah (zaK fun x f _ => zm6 x f.x) (P212_ok)
theorem zl9 (d:Option Nat):zaw P213 d = none:=(zag (by decide) d).trans (zma d)
attribute [go_sem] P213 zl9
theorem zm3 (l:List (Int)) (f:FnC 98 (FnC 92 Int)) (h:l.length ≤ 4096):zaH Tryz.prog 101 [Enc.enc l,Enc.enc f] (· = Enc.enc (let f:=f.x; zbA (fun x => !(fun n => inB n 0 f.x) x) l l.length 0)):=by
 obtain ⟨f⟩:=f
 simp only [zbT]
 refine cpz P213_ok Tryz.func101 zaA ?_
 rw [Tryz.ntmps101]
 simp only [Tryz.f101,zaj,zao]
 simp (maxSteps:=4000000) only [go_sem,AV.one,zae,zab,zac,zan,zaq,zaa,czb,cza,↓reduceIte,zaf,onz]
 refine zbg (l.length) [] [0,1,4,7] (fun i => [(8,.int .i64 i)]) (fun _ m => m) (fun i => zbA (fun x => !(fun n => inB n 0 f.x) x) l (l.length - i) i = zbA (fun x => !(fun n => inB n 0 f.x) x) l l.length 0) ?_ ?_ ?_ ?_
 ·rfl
 ·simp [AV.bare,zal,zaF,zaI,zak,zas,zai,tokz1,lk,zaa,zaZ]
 ·intro i hi hI
  rw [show l.length - i = (l.length - (i + 1)) + 1 by omega,zbA] at hI
  cases c:(fun n => inB n 0 f.x) (at_ l i) <;>
   simp (maxSteps:=4000000) only [go_sem,AV.one,zae,zab,zac,zan,zaq,zaa,czb,cza,↓reduceIte,zaf,onz,zar hi,czH.2 hi,c]
  all_goals all_goals (repeat' first | (with_reducible first | rfl | apply And.intro | assumption) | ((with_reducible show zad _ _ = true); rfl)) <;> try first | omega | (simp only [InR]; omega)
  ·rw [c] at hI
   rw [← hI]; rfl
  ·rw [c] at hI
   refine nxt hi hI ?_
   simp [AV.bare,zal,zaF,zaI,zak,zas,zai,tokz1,lk,zaa,zaZ]
 ·intro hI
  simp (maxSteps:=4000000) only [go_sem,AV.one,zae,zab,zac,zan,zaq,zaa,czb,cza,↓reduceIte,zaf,onz]
  rw [← hI]; simp [zbA]
def P214 (g:FuncId):=(zat 101 (zbD (fun (l:List (Int)) (_:FnC 98 (FnC 92 Int)) => l.length ≤ 4096) (fun l f => let f:=f.x; zbA (fun x => !(fun n => inB n 0 f.x) x) l l.length 0)) (P213):zay) g
theorem P214_ok:zam Tryz.prog P214:=zah (zaK zm3) (P213_ok)
theorem zl8 (d:Option Nat):zaw P214 d = none:=(zag (by decide) d).trans (zl9 d)
attribute [go_sem] P214 zl8
theorem zm4 (l:List (Int)) (f:FnC 98 (FnC 92 Int)) (h:l.length ≤ 4096):zaH Tryz.prog 97 [Enc.enc l,Enc.enc f] (· = Enc.enc (let f:=f.x; l.any (fun x => !(fun n => inB n 0 f.x) x))):=by
 obtain ⟨f⟩:=f
 simp only [zbT]
 refine cpz P214_ok Tryz.func97 zaA ?_
 rw [Tryz.ntmps97]
 simp only [Tryz.f97,zaj,zao]
 simp (maxSteps:=4000000) only [go_sem,AV.one,zae,zab,zac,zan,zaq,zaa,czb,cza,↓reduceIte,zaf,onz]
 all_goals (repeat' first | (with_reducible first | rfl | apply And.intro | assumption) | ((with_reducible show zad _ _ = true); rfl)) <;> try first | omega | (simp only [InR]; omega)
 congr 1
 exact zeQ (fun x => !(fun n => inB n 0 f.x) x) l l.length 0 (by omega)
def P215 (g:FuncId):=(zat 97 (zbD (fun (l:List (Int)) (_:FnC 98 (FnC 92 Int)) => l.length ≤ 4096) (fun l f => let f:=f.x; l.any (fun x => !(fun n => inB n 0 f.x) x))) (P214):zay) g
theorem P215_ok:zam Tryz.prog P215:=zah (zaK zm4) (P214_ok)
theorem zl7 (d:Option Nat):zaw P215 d = none:=(zag (by decide) d).trans (zl8 d)
attribute [go_sem] P215 zl7
theorem zm5 (l:List (Int)) (f:FnC 92 Int) (h:l.length ≤ 4096):zaH Tryz.prog 91 [Enc.enc l,Enc.enc f] (· = Enc.enc (l.all (fun x => (fun n => inB n 0 f.x) x))):=by
 simp only [zbT]
 refine cpz P215_ok Tryz.func91 zaA ?_
 rw [Tryz.ntmps91]
 simp only [Tryz.f91,zaj,zao]
 simp (maxSteps:=4000000) only [go_sem,AV.one,zae,zab,zac,zan,zaq,zaa,czb,cza,↓reduceIte,zaf,onz]
 all_goals (repeat' first | (with_reducible first | rfl | apply And.intro | assumption) | ((with_reducible show zad _ _ = true); rfl)) <;> try first | omega | (simp only [InR]; omega)
 rw [zj6]
def P216 (g:FuncId):=(zat 91 (zbD (fun (l:List (Int)) (_:FnC 92 Int) => l.length ≤ 4096) (fun l f => l.all (fun x => (fun n => inB n 0 f.x) x))) (P215):zay) g
theorem P216_ok:zam Tryz.prog P216:=zah (zaK zm5) (P215_ok)
theorem zl6 (d:Option Nat):zaw P216 d = none:=(zag (by decide) d).trans (zl7 d)
attribute [go_sem] P216 zl6
def zkl (p:Pt) (m:Int):Bool:=[p.a,p.b,p.c].all fun n => inB n 0 m
theorem zmR (p:Pt) (m:Int):zaH Tryz.prog 73 [Enc.enc p,Enc.enc m] (· = Enc.enc (zkl p m)):=by
 have h3:(((3:Nat):Int) - 0).toNat = 3:=rfl
 have hch:zb7 1 3 [AV.int .i64 p.a,AV.int .i64 p.b,AV.int .i64 p.c] = [p.a,p.b,p.c].map EncE.cs:=rfl
 have hle:[p.a,p.b,p.c].length ≤ 4096:=by simp
 unfold zkl
 obtain ⟨L,hL⟩:∃ L,[p.a,p.b,p.c] = L:=⟨_,rfl⟩
 rw [hL] at hch hle ⊢
 simp only [zbT]
 refine cpz P216_ok Tryz.func73 zaA ?_
 rw [Tryz.ntmps73]
 simp only [Tryz.f73,zaj,zao]
 simp (maxSteps:=4000000) only [go_sem,AV.one,zae,zab,zac,zan,zaq,zaa,czb,cza,↓reduceIte,zaf,onz,h3,hch,czf]
 all_goals (repeat' first | (with_reducible first | rfl | apply And.intro | assumption) | ((with_reducible show zad _ _ = true); rfl)) <;> try first | omega | (simp only [InR]; omega)
 rw [hL]
def P217 (g:FuncId):=(zat 73 (zbD (fun _ _ => True) zkl) (P216):zay) g
theorem zn5:zam Tryz.prog P217:=zah (zaK fun p m _ => zmR p m) (P216_ok)
theorem zl5 (d:Option Nat):zaw P217 d = none:=(zag (by decide) d).trans (zl6 d)
attribute [go_sem] P217 zl5
def zcP (c:Mc):Bool:=inB c.size 0 9 && zkl c.p 2
theorem znF (c:Mc):zaH Tryz.prog 49 [Enc.enc c] (· = Enc.enc (zcP c)):=by
 unfold zcP
 cases c1:inB c.size 0 9
 ·simp only [zbT]
  refine cpz zn5 Tryz.func49 zaA ?_
  rw [Tryz.ntmps49]
  simp only [Tryz.f49,zaj,zao]
  simp (maxSteps:=4000000) only [go_sem,AV.one,zae,zab,zac,zan,zaq,zaa,czb,cza,↓reduceIte,zaf,onz,c1]
 ·simp only [zbT]
  refine cpz zn5 Tryz.func49 zaA ?_
  rw [Tryz.ntmps49]
  simp only [Tryz.f49,zaj,zao]
  simp (maxSteps:=4000000) only [go_sem,AV.one,zae,zab,zac,zan,zaq,zaa,czb,cza,↓reduceIte,zaf,onz,c1]
def P218 (g:FuncId):=(zat 49 (zbN (fun _ => True) zcP) (P217):zay) g
theorem P218_ok:zam Tryz.prog P218:=zah (zaN fun c _ => znF c) (zn5)
theorem zl4 (d:Option Nat):zaw P218 d = none:=(zag (by decide) d).trans (zl5 d)
attribute [go_sem] P218 zl4
theorem zna (x:Mc) (f:FnL 49):zaH Tryz.prog 72 [Enc.enc x,Enc.enc (RefC.mk f)] (· = Enc.enc (!zcP x)):=by
 simp only [zbT]
 refine cpz P218_ok Tryz.func72 zaA ?_
 rw [Tryz.ntmps72]
 simp only [Tryz.f72,zaj,zao]
 simp (maxSteps:=4000000) only [go_sem,AV.one,zae,zab,zac,zan,zaq,zaa,czb,cza,↓reduceIte,zaf,onz]
def P219 (g:FuncId):=(zat 72 (zbD (fun _ _ => True) (fun (x:Mc) (f:RefC (FnL 49)) => let f:=f.x; !zcP x)) (P218):zay) g
theorem P219_ok:zam Tryz.prog P219:=zah (zaK fun x f _ => zna x f.x) (P218_ok)
theorem zl3 (d:Option Nat):zaw P219 d = none:=(zag (by decide) d).trans (zl4 d)
attribute [go_sem] P219 zl3
theorem zm7 (l:List (Mc)) (f:FnC 72 (FnL 49)) (h:l.length ≤ 4096):zaH Tryz.prog 90 [Enc.enc l,Enc.enc f] (· = Enc.enc (let f:=f.x; zbA (fun x => !zcP x) l l.length 0)):=by
 obtain ⟨f⟩:=f
 simp only [zbT]
 refine cpz P219_ok Tryz.func90 zaA ?_
 rw [Tryz.ntmps90]
 simp only [Tryz.f90,zaj,zao]
 simp (maxSteps:=4000000) only [go_sem,AV.one,zae,zab,zac,zan,zaq,zaa,czb,cza,↓reduceIte,zaf,onz]
 refine zbg (l.length) [] [0,1,4,7] (fun i => [(8,.int .i64 i)]) (fun _ m => m) (fun i => zbA (fun x => !zcP x) l (l.length - i) i = zbA (fun x => !zcP x) l l.length 0) ?_ ?_ ?_ ?_
 ·rfl
 ·simp [AV.bare,zal,zaF,zaI,zak,zas,zai,tokz1,lk,zaa,zaZ]
 ·intro i hi hI
  rw [show l.length - i = (l.length - (i + 1)) + 1 by omega,zbA] at hI
  cases c:zcP (at_ l i) <;>
   simp (maxSteps:=4000000) only [go_sem,AV.one,zae,zab,zac,zan,zaq,zaa,czb,cza,↓reduceIte,zaf,onz,zar hi,czH.2 hi,c]
  all_goals all_goals (repeat' first | (with_reducible first | rfl | apply And.intro | assumption) | ((with_reducible show zad _ _ = true); rfl)) <;> try first | omega | (simp only [InR]; omega)
  ·rw [c] at hI
   rw [← hI]; rfl
  ·rw [c] at hI
   refine nxt hi hI ?_
   simp [AV.bare,zal,zaF,zaI,zak,zas,zai,tokz1,lk,zaa,zaZ]
 ·intro hI
  simp (maxSteps:=4000000) only [go_sem,AV.one,zae,zab,zac,zan,zaq,zaa,czb,cza,↓reduceIte,zaf,onz]
  rw [← hI]; simp [zbA]
def P220 (g:FuncId):=(zat 90 (zbD (fun (l:List (Mc)) (_:FnC 72 (FnL 49)) => l.length ≤ 4096) (fun l f => let f:=f.x; zbA (fun x => !zcP x) l l.length 0)) (P219):zay) g
theorem P220_ok:zam Tryz.prog P220:=zah (zaK zm7) (P219_ok)
theorem zl2 (d:Option Nat):zaw P220 d = none:=(zag (by decide) d).trans (zl3 d)
attribute [go_sem] P220 zl2
theorem zm8 (l:List (Mc)) (f:FnC 72 (FnL 49)) (h:l.length ≤ 4096):zaH Tryz.prog 71 [Enc.enc l,Enc.enc f] (· = Enc.enc (let f:=f.x; l.any (fun x => !zcP x))):=by
 obtain ⟨f⟩:=f
 simp only [zbT]
 refine cpz P220_ok Tryz.func71 zaA ?_
 rw [Tryz.ntmps71]
 simp only [Tryz.f71,zaj,zao]
 simp (maxSteps:=4000000) only [go_sem,AV.one,zae,zab,zac,zan,zaq,zaa,czb,cza,↓reduceIte,zaf,onz]
 all_goals (repeat' first | (with_reducible first | rfl | apply And.intro | assumption) | ((with_reducible show zad _ _ = true); rfl)) <;> try first | omega | (simp only [InR]; omega)
 congr 1
 exact zeQ (fun x => !zcP x) l l.length 0 (by omega)
def P221 (g:FuncId):=(zat 71 (zbD (fun (l:List (Mc)) (_:FnC 72 (FnL 49)) => l.length ≤ 4096) (fun l f => let f:=f.x; l.any (fun x => !zcP x))) (P220):zay) g
theorem P221_ok:zam Tryz.prog P221:=zah (zaK zm8) (P220_ok)
theorem zl1 (d:Option Nat):zaw P221 d = none:=(zag (by decide) d).trans (zl2 d)
attribute [go_sem] P221 zl1
theorem zm9 (l:List (Mc)) (f:FnL 49) (h:l.length ≤ 4096):zaH Tryz.prog 48 [Enc.enc l,Enc.enc f] (· = Enc.enc (l.all (fun x => zcP x))):=by
 simp only [zbT]
 refine cpz P221_ok Tryz.func48 zaA ?_
 rw [Tryz.ntmps48]
 simp only [Tryz.f48,zaj,zao]
 simp (maxSteps:=4000000) only [go_sem,AV.one,zae,zab,zac,zan,zaq,zaa,czb,cza,↓reduceIte,zaf,onz]
 all_goals (repeat' first | (with_reducible first | rfl | apply And.intro | assumption) | ((with_reducible show zad _ _ = true); rfl)) <;> try first | omega | (simp only [InR]; omega)
 rw [zj6]
def P222 (g:FuncId):=(zat 48 (zbD (fun (l:List (Mc)) (_:FnL 49) => l.length ≤ 4096) (fun l f => l.all (fun x => zcP x))) (P221):zay) g
theorem P222_ok:zam Tryz.prog P222:=zah (zaK zm9) (P221_ok)
theorem zl0 (d:Option Nat):zaw P222 d = none:=(zag (by decide) d).trans (zl1 d)
attribute [go_sem] P222 zl0
theorem zm2 (x:Rg) (f:FnB 46 My):zaH Tryz.prog 75 [Enc.enc x,Enc.enc (RefC.mk f)] (· = Enc.enc (!zcV x)):=by
 simp only [zbT]
 refine cpz P222_ok Tryz.func75 zaA ?_
 rw [Tryz.ntmps75]
 simp only [Tryz.f75,zaj,zao]
 simp (maxSteps:=4000000) only [go_sem,AV.one,zae,zab,zac,zan,zaq,zaa,czb,cza,↓reduceIte,zaf,onz]
def P223 (g:FuncId):=(zat 75 (zbD (fun _ _ => True) (fun (x:Rg) (f:RefC (FnB 46 My)) => let f:=f.x; !zcV x)) (P222):zay) g
theorem P223_ok:zam Tryz.prog P223:=zah (zaK fun x f _ => zm2 x f.x) (P222_ok)
theorem zlZ (d:Option Nat):zaw P223 d = none:=(zag (by decide) d).trans (zl0 d)
attribute [go_sem] P223 zlZ
theorem zmZ (l:List (Rg)) (f:FnC 75 (FnB 46 My)) (h:l.length ≤ 4096):zaH Tryz.prog 93 [Enc.enc l,Enc.enc f] (· = Enc.enc (let f:=f.x; zbA (fun x => !zcV x) l l.length 0)):=by
 obtain ⟨f⟩:=f
 simp only [zbT]
 refine cpz P223_ok Tryz.func93 zaA ?_
 rw [Tryz.ntmps93]
 simp only [Tryz.f93,zaj,zao]
 simp (maxSteps:=4000000) only [go_sem,AV.one,zae,zab,zac,zan,zaq,zaa,czb,cza,↓reduceIte,zaf,onz]
 refine zbg (l.length) [] [0,1,4,7] (fun i => [(8,.int .i64 i)]) (fun _ m => m) (fun i => zbA (fun x => !zcV x) l (l.length - i) i = zbA (fun x => !zcV x) l l.length 0) ?_ ?_ ?_ ?_
 ·rfl
 ·simp [AV.bare,zal,zaF,zaI,zak,zas,zai,tokz1,lk,zaa,zaZ]
 ·intro i hi hI
  rw [show l.length - i = (l.length - (i + 1)) + 1 by omega,zbA] at hI
  cases c:zcV (at_ l i) <;>
   simp (maxSteps:=4000000) only [go_sem,AV.one,zae,zab,zac,zan,zaq,zaa,czb,cza,↓reduceIte,zaf,onz,zar hi,czH.2 hi,c]
  all_goals all_goals (repeat' first | (with_reducible first | rfl | apply And.intro | assumption) | ((with_reducible show zad _ _ = true); rfl)) <;> try first | omega | (simp only [InR]; omega)
  ·rw [c] at hI
   rw [← hI]; rfl
  ·rw [c] at hI
   refine nxt hi hI ?_
   simp [AV.bare,zal,zaF,zaI,zak,zas,zai,tokz1,lk,zaa,zaZ]
 ·intro hI
  simp (maxSteps:=4000000) only [go_sem,AV.one,zae,zab,zac,zan,zaq,zaa,czb,cza,↓reduceIte,zaf,onz]
  rw [← hI]; simp [zbA]
def P224 (g:FuncId):=(zat 93 (zbD (fun (l:List (Rg)) (_:FnC 75 (FnB 46 My)) => l.length ≤ 4096) (fun l f => let f:=f.x; zbA (fun x => !zcV x) l l.length 0)) (P223):zay) g
theorem P224_ok:zam Tryz.prog P224:=zah (zaK zmZ) (P223_ok)
theorem zlY (d:Option Nat):zaw P224 d = none:=(zag (by decide) d).trans (zlZ d)
attribute [go_sem] P224 zlY
theorem zm0 (l:List (Rg)) (f:FnC 75 (FnB 46 My)) (h:l.length ≤ 4096):zaH Tryz.prog 74 [Enc.enc l,Enc.enc f] (· = Enc.enc (let f:=f.x; l.any (fun x => !zcV x))):=by
 obtain ⟨f⟩:=f
 simp only [zbT]
 refine cpz P224_ok Tryz.func74 zaA ?_
 rw [Tryz.ntmps74]
 simp only [Tryz.f74,zaj,zao]
 simp (maxSteps:=4000000) only [go_sem,AV.one,zae,zab,zac,zan,zaq,zaa,czb,cza,↓reduceIte,zaf,onz]
 all_goals (repeat' first | (with_reducible first | rfl | apply And.intro | assumption) | ((with_reducible show zad _ _ = true); rfl)) <;> try first | omega | (simp only [InR]; omega)
 congr 1
 exact zeQ (fun x => !zcV x) l l.length 0 (by omega)
def P225 (g:FuncId):=(zat 74 (zbD (fun (l:List (Rg)) (_:FnC 75 (FnB 46 My)) => l.length ≤ 4096) (fun l f => let f:=f.x; l.any (fun x => !zcV x))) (P224):zay) g
theorem P225_ok:zam Tryz.prog P225:=zah (zaK zm0) (P224_ok)
theorem zlX (d:Option Nat):zaw P225 d = none:=(zag (by decide) d).trans (zlY d)
attribute [go_sem] P225 zlX
theorem zm1 (l:List (Rg)) (f:FnB 46 My) (h:l.length ≤ 4096):zaH Tryz.prog 50 [Enc.enc l,Enc.enc f] (· = Enc.enc (l.all (fun x => zcV x))):=by
 simp only [zbT]
 refine cpz P225_ok Tryz.func50 zaA ?_
 rw [Tryz.ntmps50]
 simp only [Tryz.f50,zaj,zao]
 simp (maxSteps:=4000000) only [go_sem,AV.one,zae,zab,zac,zan,zaq,zaa,czb,cza,↓reduceIte,zaf,onz]
 all_goals (repeat' first | (with_reducible first | rfl | apply And.intro | assumption) | ((with_reducible show zad _ _ = true); rfl)) <;> try first | omega | (simp only [InR]; omega)
 rw [zj6]
def P226 (g:FuncId):=(zat 50 (zbD (fun (l:List (Rg)) (_:FnB 46 My) => l.length ≤ 4096) (fun l f => l.all (fun x => zcV x))) (P225):zay) g
theorem zke:zam Tryz.prog P226:=zah (zaK zm1) (P225_ok)
theorem zlW (d:Option Nat):zaw P226 d = none:=(zag (by decide) d).trans (zlX d)
attribute [go_sem] P226 zlW
theorem zk6 {n a b:Int} (h1:a ≤ n) (h2:n ≤ b):inB n a b = true:=(zfy _ _ _).2 ⟨h1,h2⟩
theorem MOk.chairs {y:My} (h:MOk y):y.chairs.all (fun c => zcP c) = true:=by
 rw [czG]
 intro c hc
 obtain ⟨⟨s0,s9⟩,⟨a0,a2⟩,⟨b0,b2⟩,c0,c2⟩:=h.ch c hc
 unfold zcP zkl
 simp [zk6 s0 s9,zk6 a0 a2,zk6 b0 b2,zk6 c0 c2]
theorem MOk.claims {y:My} (h:MOk y):y.claims.all (fun r => zcV r) = true:=by
 rw [czG]
 intro r hr
 obtain ⟨g1,g2,g3⟩:=h.cl r hr
 unfold zcV
 simp [g1,g2,g3]
theorem ziu (y:My) (h:MOk y ∧ zbY y.chairs ≤ 8):zaH Tryz.prog 28 [Enc.enc y] (· = Enc.enc (0:Int)):=by
 obtain ⟨hy,h8⟩:=h
 have h7:=hy.len
 have h5:=hy.cls
 have d1:decide ((7:Int) < (y.chairs.length:Int)) = false:=by rw [decide_eq_false_iff_not]; omega
 have d2:decide ((5:Int) < (y.claims.length:Int)) = false:=by rw [decide_eq_false_iff_not]; omega
 have d3:inB y.fit 0 9 = true:=zk6 hy.f0 hy.f9
 have d4:=hy.chairs
 have d5:=hy.claims
 simp only [zbT]
 refine cpz zke Tryz.func28 zaA ?_
 rw [Tryz.ntmps28]
 simp only [Tryz.f28,zaj,zao]
 iterate 4 (
  refine zaz fun Q1 h1 => ?_
  simp (maxSteps:=4000000) only [go_sem,AV.one,zae,zab,zac,zan,zaq,zaa,czb,cza,↓reduceIte,zaf,onz,d1,d2,d3,d4,d5]
  all_goals (repeat' first | (with_reducible first | rfl | apply And.intro | assumption) | ((with_reducible show zad _ _ = true); rfl)) <;> try first | omega | (simp only [InR]; omega)
  rw [h1]; clear h1 Q1; simp only [zaO,zav])
 simp (maxSteps:=4000000) only [go_sem,AV.one,zae,zab,zac,zan,zaq,zaa,czb,cza,↓reduceIte,zaf,onz,d1,d2,d3,d4,d5]
 all_goals (repeat' first | (with_reducible first | rfl | apply And.intro | assumption) | ((with_reducible show zad _ _ = true); rfl)) <;> try first | omega | (simp only [InR]; omega)
 refine zbg (y.chairs.length) [] [2,41,42] (fun i => [(43,.int .i64 i),(4,.int .i64 ((zbY (y.chairs.take i):Nat):Int))]) (fun _ m => m) (fun _ => True) ?_ ?_ ?_ ?_
 ·trivial
 ·simp [AV.bare,zal,zaF,zaI,zak,zas,zai,tokz1,lk,zaa,zaZ,zbY]
 ·intro i hi _
  have hi':=czH.2 hi
  have hg:=zar (f:=EncE.cs) hi
  have hu1:=zjh (y.chairs.take i)
  have hu2:(y.chairs.take i).length = i:=by simp; omega
  have hch:=(hy.ch _ (zaS hi)).2
  obtain ⟨c,hc⟩:∃ c,at_ y.chairs i = c:=⟨_,rfl⟩
  have hsu:zbY (y.chairs.take (i + 1)) = zbY (y.chairs.take i) + ziz c.p 3:=by rw [zaM hi,zji,hc]; rfl
  rw [hc] at hg hch
  unfold zrp at hch
  obtain ⟨U,hU⟩:∃ U,zbY (y.chairs.take i) = U:=⟨_,rfl⟩
  rw [hU] at hsu hu1
  rw [hU]
  have u1:((U + ziz c.p 1:Nat):Int) = ((U + ziz c.p 0:Nat):Int) + c.p.a / 2:=by unfold ziz; simp only [Nat.lt_irrefl,if_false,Nat.zero_lt_one,if_true]; (repeat' split) <;> omega
  have u2:((U + ziz c.p 2:Nat):Int) = ((U + ziz c.p 1:Nat):Int) + c.p.b / 2:=by unfold ziz; (repeat' split) <;> omega
  have u3:((U + ziz c.p 3:Nat):Int) = ((U + ziz c.p 2:Nat):Int) + c.p.c / 2:=by unfold ziz; (repeat' split) <;> omega
  simp (maxSteps:=4000000) only [go_sem,AV.one,zae,zab,zac,zan,zaq,zaa,czb,cza,↓reduceIte,zaf,onz,hi',hg,hi]
  all_goals (repeat' first | (with_reducible first | rfl | apply And.intro | assumption) | ((with_reducible show zad _ _ = true); rfl)) <;> try first | omega | (simp only [InR]; omega)
  refine zbg (3) [] [2,6,41,42,43,45,46,47,48] (fun k => [(49,.int .i64 k),(4,.int .i64 ((U + ziz c.p k:Nat):Int))]) (fun _ m => m) (fun _ => True) ?_ ?_ ?_ ?_
  ·trivial
  ·simp [AV.bare,zal,zaF,zaI,zak,zas,zai,tokz1,lk,zaa,zaZ,ziz]
  ·intro k hk _
   have hk3:=unkK_le c.p k
   rcases (by omega:k = 0 ∨ k = 1 ∨ k = 2) with rfl | rfl | rfl
   all_goals
    simp (maxSteps:=4000000) only [go_sem,AV.one,zae,zab,zac,zan,zaq,zaa,czb,cza,↓reduceIte,zaf,onz,Int.cast_ofNat_Int]
    all_goals (repeat' first | (with_reducible first | rfl | apply And.intro | assumption) | ((with_reducible show zad _ _ = true); rfl)) <;> try first | omega | (simp only [InR]; omega)
    refine nxt hk trivial ?_
    simp only [u1,u2,u3]
    simp [AV.bare,zal,zaF,zaI,zak,zas,zai,tokz1,lk,zaa,zaZ]
    all_goals (try omega)
  ·intro _
   simp (maxSteps:=4000000) only [go_sem,AV.one,zae,zab,zac,zan,zaq,zaa,czb,cza,↓reduceIte,zaf,onz,Int.cast_ofNat_Int]
   all_goals (repeat' first | (with_reducible first | rfl | apply And.intro | assumption) | ((with_reducible show zad _ _ = true); rfl)) <;> try first | omega | (simp only [InR]; omega)
   refine nxt hi trivial ?_
   simp [AV.bare,zal,zaF,zaI,zak,zas,zai,tokz1,lk,zaa,zaZ,hsu,-List.map_take]
 ·intro _
  have d6:decide ((8:Int) < ((zbY y.chairs:Nat):Int)) = false:=by rw [decide_eq_false_iff_not]; omega
  simp (maxSteps:=4000000) only [go_sem,AV.one,zae,zab,zac,zan,zaq,zaa,czb,cza,↓reduceIte,zaf,onz,czA,czm,d6]
  all_goals exact auz
theorem Yard_call (y:My) (h:y.chairs.length ≤ 4096 ∧ y.claims.length ≤ 4096):zaH Tryz.prog 12 [Enc.enc y] (· = Enc.enc y):=by
 obtain ⟨h1,h2⟩:=h
 simp only [zbT]
 refine cpz zke Tryz.func12 zaA ?_
 rw [Tryz.ntmps12]
 simp only [Tryz.f12,zaj,zao]
 simp (maxSteps:=4000000) only [go_sem,zae,zab,zac,zan,zaq,zaa,czb,cza,↓reduceIte,zaf,onz]
 all_goals (repeat' first | (with_reducible first | rfl | apply And.intro | assumption) | ((with_reducible show zad _ _ = true); rfl)) <;> try first | omega | (simp only [InR]; omega)
 refine zbg (y.chairs.length) [.cell 2 0 4] [1,2,3] (fun i => [(4,.int .i64 i)]) (fun i m => (m.set 2 (.cells [.sl ((y.chairs.take i).map EncE.cs) (.own 3),.int .i64 y.fit,.sl [] .full])).set 3 (.tok i 4)) (fun _ => True) ?_ ?_ ?_ ?_
 ·trivial
 ·simp [AV.bare,zal,zaF,zaI,zak,zas,zai,tokz1,lk,zaa,zaZ,-List.map_take]
 ·intro i hi _
  have hi':=czH.2 hi
  have hg:=zar (f:=EncE.cs) hi
  have htk:(y.chairs.take i).length = i:=by simp; omega
  simp (maxSteps:=4000000) only [go_sem,zae,zab,zac,zan,zaq,zaa,czb,cza,↓reduceIte,zaf,onz,hi',hg,hi,htk]
  all_goals (repeat' first | (with_reducible first | rfl | apply And.intro | assumption) | ((with_reducible show zad _ _ = true); rfl)) <;> try first | omega | (simp only [InR]; omega)
  refine nxt hi trivial ?_
  simp [AV.bare,zal,zaF,zaI,zak,zas,zai,tokz1,lk,zaa,zaZ,zaM hi,-List.map_take]
 ·intro _
  simp (maxSteps:=4000000) only [go_sem,zae,zab,zac,zan,zaq,zaa,czb,cza,↓reduceIte,zaf,onz,czm,czA]
  all_goals (repeat' first | (with_reducible first | rfl | apply And.intro | assumption) | ((with_reducible show zad _ _ = true); rfl)) <;> try first | omega | (simp only [InR]; omega)
  refine zbg (y.claims.length) [.cell 2 2 2] [1,2,3] (fun i => [(5,.int .i64 i)]) (fun i m => (m.set 2 (.cells [.sl (y.chairs.map EncE.cs) (.own 3),.int .i64 y.fit,.sl ((y.claims.take i).map EncE.cs) (.own 4)])).set 4 (.tok i 2)) (fun _ => True) ?_ ?_ ?_ ?_
  ·trivial
  ·simp [AV.bare,zal,zaF,zaI,zak,zas,zai,tokz1,lk,zaa,zaZ,-List.map_take]
  ·intro i hi _
   have hi':=czH.2 hi
   have hg:=zar (f:=EncE.cs) hi
   have htk:(y.claims.take i).length = i:=by simp; omega
   simp (maxSteps:=4000000) only [go_sem,zae,zab,zac,zan,zaq,zaa,czb,cza,↓reduceIte,zaf,onz,hi',hg,hi,htk]
   all_goals (repeat' first | (with_reducible first | rfl | apply And.intro | assumption) | ((with_reducible show zad _ _ = true); rfl)) <;> try first | omega | (simp only [InR]; omega)
   refine nxt hi trivial ?_
   simp [AV.bare,zal,zaF,zaI,zak,zas,zai,tokz1,lk,zaa,zaZ,zaM hi,-List.map_take]
  ·intro _
   simp (maxSteps:=4000000) only [go_sem,zae,zab,zac,zan,zaq,zaa,czb,cza,↓reduceIte,zaf,onz,czm,czA]
   all_goals exact auz
theorem znc (t:List Pt) (h:t.length ≤ 4096):zaH Tryz.prog 15 [Enc.enc t] (· = Enc.enc t):=by
 simp only [zbT]
 refine cpz zke Tryz.func15 zaA ?_
 rw [Tryz.ntmps15]
 simp only [Tryz.f15,zaj,zao]
 simp (maxSteps:=4000000) only [go_sem,zae,zab,zac,zan,zaq,zaa,czb,cza,↓reduceIte,zaf,onz]
 all_goals (repeat' first | (with_reducible first | rfl | apply And.intro | assumption) | ((with_reducible show zad _ _ = true); rfl)) <;> try first | omega | (simp only [InR]; omega)
 refine zbg (t.length) [.slot 3 3] [0,2] (fun i => [(4,.int .i64 i),(3,.sl ((t.take i).map EncE.cs) (.own 0))]) (fun i m => m.set 0 (.tok i 3)) (fun _ => True) ?_ ?_ ?_ ?_
 ·trivial
 ·simp [AV.bare,zal,zaF,zaI,zak,zas,zai,tokz1,lk,zaa,zaZ,-List.map_take]
 ·intro i hi _
  have hi':=czH.2 hi
  have hg:=zar (f:=EncE.cs) hi
  have htk:(t.take i).length = i:=by simp; omega
  simp (maxSteps:=4000000) only [go_sem,zae,zab,zac,zan,zaq,zaa,czb,cza,↓reduceIte,zaf,onz,hi',hg,hi,htk]
  all_goals (repeat' first | (with_reducible first | rfl | apply And.intro | assumption) | ((with_reducible show zad _ _ = true); rfl)) <;> try first | omega | (simp only [InR]; omega)
  refine nxt hi trivial ?_
  simp [AV.bare,zal,zaF,zaI,zak,zas,zai,tokz1,lk,zaa,zaZ,zaM hi,-List.map_take]
 ·intro _
  simp (maxSteps:=4000000) only [go_sem,zae,zab,zac,zan,zaq,zaa,czb,cza,↓reduceIte,zaf,onz,czm,czA]
  all_goals exact auz
def P227 (g:FuncId):=(zat 28 (zbN (fun y:My => MOk y ∧ zbY y.chairs ≤ 8) (fun _ => (0:Int))) (zat 12 (zbN (fun y:My => y.chairs.length ≤ 4096 ∧ y.claims.length ≤ 4096) (fun y => y)) (zat 15 (zbN (fun t:List Pt => t.length ≤ 4096) (fun t => t)) (P226))):zay) g
theorem P227_ok:zam Tryz.prog P227:=zah (zaN ziu) (zah (zaN Yard_call) (zah (zaN znc) (zke)))
theorem zlV (d:Option Nat):zaw P227 d = none:=(zag (by decide) d).trans ((zag (by decide) d).trans ((zag (by decide) d).trans (zlW d)))
attribute [go_sem] P227 zlV
def zb4 (p:Nat → Bool):Nat → Nat
 | 0 => 0
 | i + 1 => if p i = true then zb4 p i ||| 2 ^ i else zb4 p i
theorem zeZ (p:Nat → Bool):∀ n j,(zb4 p n).testBit j = (decide (j < n) && p j)
 | 0,j => by simp [zb4]
 | n + 1,j => by
  unfold zb4
  have ih:=zeZ p n j
  split
  ·rename_i c
   rw [Nat.testBit_or,ih,Nat.testBit_two_pow]
   by_cases e:n = j
   ·subst e; simp [c]
   ·have:decide (j < n + 1) = decide (j < n):=by rw [decide_eq_decide]; omega
    rw [this]; simp [e]
  ·rename_i c
   rw [ih]
   by_cases e:n = j
   ·subst e; simp at c; simp [c]
   ·have:decide (j < n + 1) = decide (j < n):=by rw [decide_eq_decide]; omega
    rw [this]
theorem bits_lt (p:Nat → Bool) (n:Nat):zb4 p n < 2 ^ n:=Nat.lt_pow_two_of_testBit _ fun j hj => by
 rw [zeZ]; simp; omega
theorem zlo {p:Nat → Bool} (h:∀ i,p i = false):∀ n,zb4 p n = 0
 | 0 => rfl
 | n + 1 => by unfold zb4; rw [if_neg (by rw [h n]; simp),zlo h n]
theorem zj1 (p:Nat → Bool) {n:Nat} (h:n ≤ 7):zb4 p n < 128:=by
 have h1:=bits_lt p n
 have h2:2 ^ n ≤ 2 ^ 7:=Nat.pow_le_pow_right (by omega) h
 omega
structure IsTr (y:My) (t:List Pt):Prop where
 len:t.length = y.chairs.length
 ok:TOk t
 cmp:∀ i,i < t.length → ((at_ y.chairs i).p.a ≠ 2 → (at_ t i).a = (at_ y.chairs i).p.a) ∧ ((at_ y.chairs i).p.b ≠ 2 → (at_ t i).b = (at_ y.chairs i).p.b) ∧ ((at_ y.chairs i).p.c ≠ 2 → (at_ t i).c = (at_ y.chairs i).p.c)
theorem is_call (y:My) (t:List Pt) (h:MOk y ∧ IsTr y t):zaH Tryz.prog 33 [Enc.enc y,Enc.enc t] (· = Enc.enc true):=by
 obtain ⟨hy,hl,ht,hc⟩:=h
 have h7:=hy.len
 have d1:decide ((t.length:Int) = (y.chairs.length:Int)) = true:=by rw [decide_eq_true_eq]; omega
 simp only [zbT]
 refine cpz P227_ok Tryz.func33 zaA ?_
 rw [Tryz.ntmps33]
 simp only [Tryz.f33,zaj,zao]
 simp (maxSteps:=4000000) only [go_sem,AV.one,zae,zab,zac,zan,zaq,zaa,czb,cza,↓reduceIte,zaf,onz,d1]
 all_goals (repeat' first | (with_reducible first | rfl | apply And.intro | assumption) | ((with_reducible show zad _ _ = true); rfl)) <;> try first | omega | (simp only [InR]; omega)
 refine zbg (y.chairs.length) [] [1,4,16,17] (fun i => [(18,.int .i64 i)]) (fun _ m => m) (fun _ => True) ?_ ?_ ?_ ?_
 ·trivial
 ·simp [AV.bare,zal,zaF,zaI,zak,zas,zai,tokz1,lk,zaa,zaZ]
 ·intro i hi _
  have hi':=czH.2 hi
  have hg:=zar (f:=EncE.cs) hi
  have hit:i < t.length:=by omega
  have hg2:=zar (f:=EncE.cs) hit
  obtain ⟨⟨a0,a1⟩,⟨b0,b1⟩,c0,c1⟩:=ht _ (zaS hit)
  obtain ⟨e1,e2,e3⟩:=hc i hit
  obtain ⟨c,hce⟩:∃ c,at_ y.chairs i = c:=⟨_,rfl⟩
  obtain ⟨p,hpe⟩:∃ p,at_ t i = p:=⟨_,rfl⟩
  rw [hce] at hg e1 e2 e3
  rw [hpe] at hg2 a0 a1 b0 b1 c0 c1 e1 e2 e3
  have f1:=zk6 a0 a1
  have f2:=zk6 b0 b1
  have f3:=zk6 c0 c1
  simp (maxSteps:=4000000) only [go_sem,AV.one,zae,zab,zac,zan,zaq,zaa,czb,cza,↓reduceIte,zaf,onz,hi',hg,hi]
  all_goals (repeat' first | (with_reducible first | rfl | apply And.intro | assumption) | ((with_reducible show zad _ _ = true); rfl)) <;> try first | omega | (simp only [InR]; omega)
  refine zbg (3) [] [1,4,5,6,16,17,18,20,21,22,23,24] (fun k => [(25,.int .i64 k)]) (fun _ m => m) (fun _ => True) ?_ ?_ ?_ ?_
  ·trivial
  ·simp [AV.bare,zal,zaF,zaI,zak,zas,zai,tokz1,lk,zaa,zaZ]
  ·intro k hk _
   rcases (by omega:k = 0 ∨ k = 1 ∨ k = 2) with rfl | rfl | rfl
   ·cases q:decide (c.p.a = 2)
    ·have e:=e1 (by simpa using q)
     have e':decide (p.a = c.p.a) = true:=decide_eq_true e
     simp (maxSteps:=4000000) only [go_sem,AV.one,zae,zab,zac,zan,zaq,zaa,czb,cza,↓reduceIte,zaf,onz,Int.cast_ofNat_Int,hg2,hit,f1,q,e']
     all_goals (repeat' first | (with_reducible first | rfl | apply And.intro | assumption) | ((with_reducible show zad _ _ = true); rfl)) <;> try first | omega | (simp only [InR]; omega)
     refine nxt hk trivial ?_
     simp [AV.bare,zal,zaF,zaI,zak,zas,zai,tokz1,lk,zaa,zaZ]
    ·simp (maxSteps:=4000000) only [go_sem,AV.one,zae,zab,zac,zan,zaq,zaa,czb,cza,↓reduceIte,zaf,onz,Int.cast_ofNat_Int,hg2,hit,f1,q]
     all_goals (repeat' first | (with_reducible first | rfl | apply And.intro | assumption) | ((with_reducible show zad _ _ = true); rfl)) <;> try first | omega | (simp only [InR]; omega)
     refine nxt hk trivial ?_
     simp [AV.bare,zal,zaF,zaI,zak,zas,zai,tokz1,lk,zaa,zaZ]
   ·cases q:decide (c.p.b = 2)
    ·have e:=e2 (by simpa using q)
     have e':decide (p.b = c.p.b) = true:=decide_eq_true e
     simp (maxSteps:=4000000) only [go_sem,AV.one,zae,zab,zac,zan,zaq,zaa,czb,cza,↓reduceIte,zaf,onz,Int.cast_ofNat_Int,hg2,hit,f2,q,e']
     all_goals (repeat' first | (with_reducible first | rfl | apply And.intro | assumption) | ((with_reducible show zad _ _ = true); rfl)) <;> try first | omega | (simp only [InR]; omega)
     refine nxt hk trivial ?_
     simp [AV.bare,zal,zaF,zaI,zak,zas,zai,tokz1,lk,zaa,zaZ]
    ·simp (maxSteps:=4000000) only [go_sem,AV.one,zae,zab,zac,zan,zaq,zaa,czb,cza,↓reduceIte,zaf,onz,Int.cast_ofNat_Int,hg2,hit,f2,q]
     all_goals (repeat' first | (with_reducible first | rfl | apply And.intro | assumption) | ((with_reducible show zad _ _ = true); rfl)) <;> try first | omega | (simp only [InR]; omega)
     refine nxt hk trivial ?_
     simp [AV.bare,zal,zaF,zaI,zak,zas,zai,tokz1,lk,zaa,zaZ]
   ·cases q:decide (c.p.c = 2)
    ·have e:=e3 (by simpa using q)
     have e':decide (p.c = c.p.c) = true:=decide_eq_true e
     simp (maxSteps:=4000000) only [go_sem,AV.one,zae,zab,zac,zan,zaq,zaa,czb,cza,↓reduceIte,zaf,onz,Int.cast_ofNat_Int,hg2,hit,f3,q,e']
     all_goals (repeat' first | (with_reducible first | rfl | apply And.intro | assumption) | ((with_reducible show zad _ _ = true); rfl)) <;> try first | omega | (simp only [InR]; omega)
     refine nxt hk trivial ?_
     simp [AV.bare,zal,zaF,zaI,zak,zas,zai,tokz1,lk,zaa,zaZ]
    ·simp (maxSteps:=4000000) only [go_sem,AV.one,zae,zab,zac,zan,zaq,zaa,czb,cza,↓reduceIte,zaf,onz,Int.cast_ofNat_Int,hg2,hit,f3,q]
     all_goals (repeat' first | (with_reducible first | rfl | apply And.intro | assumption) | ((with_reducible show zad _ _ = true); rfl)) <;> try first | omega | (simp only [InR]; omega)
     refine nxt hk trivial ?_
     simp [AV.bare,zal,zaF,zaI,zak,zas,zai,tokz1,lk,zaa,zaZ]
  ·intro _
   simp (maxSteps:=4000000) only [go_sem,AV.one,zae,zab,zac,zan,zaq,zaa,czb,cza,↓reduceIte,zaf,onz,Int.cast_ofNat_Int]
   all_goals (repeat' first | (with_reducible first | rfl | apply And.intro | assumption) | ((with_reducible show zad _ _ = true); rfl)) <;> try first | omega | (simp only [InR]; omega)
   refine nxt hi trivial ?_
   simp [AV.bare,zal,zaF,zaI,zak,zas,zai,tokz1,lk,zaa,zaZ]
 ·intro _
  simp (maxSteps:=4000000) only [go_sem,AV.one,zae,zab,zac,zan,zaq,zaa,czb,cza,↓reduceIte,zaf,onz,czA]
  all_goals exact auz
end Go.Proofs
