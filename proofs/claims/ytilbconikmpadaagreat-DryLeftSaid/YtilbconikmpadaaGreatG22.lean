/- The texts H47, HB, H49, H50, joined. -/
import Derived.Test.YtilbconikmpadaaGreatG21
import Derived.Test.YtilbconikmpadaaGreatG19
import Derived.Test.YtilbconikmpadaaGreatG18
set_option linter.all false
namespace Go.Proofs
open Go.Fs
set_option maxHeartbeats 4000000
set_option maxRecDepth 8000
theorem zut (ws:List (Uk .u8)) (n:Int) (h:WsOk ws ∧ 0 ≤ n):zaQ Tryz.prog 112 [Enc.enc ws,Enc.enc n] (· = Enc.enc (zdU ws n)):=by
 have hb:=zjz h.1 n
 have hn:=h.2
 unfold zdU at hb ⊢
 by_cases c:ws = []
 ·rw [if_pos c]
  have c':decide ((ws.length:Int) = 0) = true:=by rw [c]; rfl
  simp only [zbz]
  refine cpz zst Tryz.func112 zaD ?_
  rw [Tryz.ntmps112]
  simp only [Tryz.f112,zag,zap]
  simp (maxSteps:=4000000) only [go_sem,AV.one,zae,zac,zad,zaq,zas,zab,czb,cza,↓reduceIte,zaa,zao,onz,zdZ,c']
 ·have hl:0 < ws.length:=by
   cases ws with
   | nil => exact absurd rfl c
   | cons _ _ => simp
  rw [if_neg c] at hb ⊢
  have c':decide ((ws.length:Int) = 0) = false:=by rw [decide_eq_false_iff_not]; omega
  have h1:=Int.emod_nonneg n (show (ws.length:Int) ≠ 0 by omega)
  have h2:=Int.emod_lt_of_pos n (show (0:Int) < ws.length by omega)
  obtain ⟨k,ek⟩:=czu h1
  rw [ek] at h2 hb ⊢
  have hg:(ws.map EncE.cs).getD k [] = [AV.int .u8 (at_ ws k).n]:=by rw [zax (by omega)]; rfl
  rw [czF] at hb ⊢
  simp only [zbz]
  refine cpz zst Tryz.func112 zaD ?_
  rw [Tryz.ntmps112]
  simp only [Tryz.f112,zag,zap]
  simp (maxSteps:=4000000) only [go_sem,AV.one,zae,zac,zad,zaq,zas,zab,czb,cza,↓reduceIte,zaa,zao,onz,zdZ,c',ek,hg]
  all_goals exact auz
def P155 (g:FuncId):=(zaw 112 (zbC (fun (ws:List (Uk .u8)) (n:Int) => WsOk ws ∧ 0 ≤ n) zdU) (P154):zaL) g
theorem znB:zaC Tryz.prog P155:=zaj (zaM zut) (zst)
theorem zpw (d:Option Nat):zaI P155 d = none:=(zai (by decide) d).trans (zpx d)
attribute [go_sem] P155 zpw
theorem zsD (y:Yd) (ws:List (Uk .u8)) (h:WsOk ws ∧ y.chairs.length ≤ 4096):zaQ Tryz.prog 54 [Enc.enc y,Enc.enc ws] (· = Enc.enc (ordW y ws)):=by
 obtain ⟨hw,hc⟩:=h
 simp only [zbz]
 refine cpz znB Tryz.func54 zaD ?_
 rw [Tryz.ntmps54]
 simp only [Tryz.f54,zag,zap]
 simp (maxSteps:=4000000) only [go_sem,AV.one,zae,zac,zad,zaq,zas,zab,czb,cza,↓reduceIte,zaa,zao,onz,zdZ]
 all_goals (repeat' first | (with_reducible first | rfl | apply And.intro | assumption) | ((with_reducible show zaf _ _ = true); rfl)) <;> try first | omega | (simp only [InR]; omega)
 refine zbv (y.chairs.length) [] [1,2,4] (fun i => [(6,.int .i64 i),(5,.sl ((zjr ws i).map EncE.cs) .no)]) (fun _ m => m) (fun _ => True) ?_ ?_ ?_ ?_
 ·trivial
 ·simp [AV.bare,zal,zaN,zaS,zak,zat,zah,tokz1,lk,zab,za2,zjr,zdZ,-List.map_map]
 ·intro i hi _
  have hi':=czH.2 hi
  have hb:=zjz hw i
  have hol:=ordN_len ws i
  have hos:zjr ws (i + 1) = if zdU ws i % 8 = 7 then zjr ws i else (zjr ws i).take (posW ws (zjr ws i) i) ++ [(i:Int)] ++ (zjr ws i).drop (posW ws (zjr ws i) i):=rfl
  obtain ⟨P,hP⟩:∃ P,zjr ws i = P:=⟨_,rfl⟩
  rw [hP] at hol hos
  rw [hP]
  obtain ⟨w,hwd⟩:∃ w,zdU ws i = w:=⟨_,rfl⟩
  rw [hwd] at hb hos
  cases c1:decide (w % 8 = 7)
  ·have h1:=Int.emod_nonneg (w / 8) (show ((P.length:Int) + 1) ≠ 0 by omega)
   have h2:=Int.emod_lt_of_pos (w / 8) (show (0:Int) < (P.length:Int) + 1 by omega)
   have hpos:posW ws P i = (w / 8 % ((P.length:Int) + 1)).toNat:=by unfold posW; rw [hwd]
   obtain ⟨k,ek⟩:=czu h1
   rw [ek,czF] at hpos
   rw [ek] at h1 h2
   rw [if_neg (by simpa using c1),hpos] at hos
   have hkl:k ≤ P.length:=by omega
   have ht:((k:Int) - 0).toNat = k:=by omega
   have hd:((P.length:Int) - k).toNat = P.length - k:=by omega
   have hmt:(P.map EncE.cs).take k = (P.take k).map EncE.cs:=by rw [List.map_take]
   have hmd:((P.map EncE.cs).drop k).take (P.length - k) = (P.drop k).map EncE.cs:=by rw [cze (by simp),List.map_drop]
   have hl1:(P.take k).length = k:=by simp; omega
   have hl2:(P.drop k).length = P.length - k:=by simp
   have hone:∀ l:List Int,∀ x ∈ l.map EncE.cs,∀ c ∈ x,AV.one c = true:=fun l x hx c hc => by
    obtain ⟨a,_,rfl⟩:=czx.1 hx
    simp only [zel,czC] at hc
    subst hc; rfl
   have hlen1:∀ l:List Int,∀ x ∈ l.map EncE.cs,x.length = 1:=fun l x hx => by
    obtain ⟨a,_,rfl⟩:=czx.1 hx
    rfl
   obtain ⟨A1,hA1⟩:∃ A1,P.take k = A1:=⟨_,rfl⟩
   obtain ⟨A2,hA2⟩:∃ A2,P.drop k = A2:=⟨_,rfl⟩
   rw [hA1] at hmt hl1 hos
   rw [hA2] at hmd hl2 hos
   have hone1:=hone A1
   have hone2:=hone A2
   have hln1:=hlen1 A1
   have hln2:=hlen1 A2
   have hln3:∀ x ∈ A1.map EncE.cs ++ [[AV.int .i64 (i:Int)]],x.length = 1:=fun x hx => by
    rcases czv.1 hx with q | q
    ·exact hln1 x q
    ·rw [czC] at q; subst q; rfl
   simp (maxSteps:=4000000) only [go_sem,zae,zac,zad,zaq,zas,zab,czb,cza,↓reduceIte,zaa,zao,onz,zdZ,hi',hw,hwd,c1,ek,ht,hd,hmt,hmd,czc,czz,hl1,hl2,decide_true,decide_false]
   all_goals (repeat' first | (with_reducible first | rfl | apply And.intro | assumption) | ((with_reducible show zaf _ _ = true); rfl)) <;> try first | omega | (simp only [InR]; omega)
   refine nxt hi trivial ?_
   simp [AV.bare,zal,zaN,zaS,zak,zat,zah,tokz1,lk,zab,za2,hos,zdZ,-List.map_map]
  ·rw [if_pos (by simpa using c1)] at hos
   simp (maxSteps:=4000000) only [go_sem,AV.one,zae,zac,zad,zaq,zas,zab,czb,cza,↓reduceIte,zaa,zao,onz,zdZ,hi',hw,hwd,c1,decide_true,decide_false]
   all_goals (repeat' first | (with_reducible first | rfl | apply And.intro | assumption) | ((with_reducible show zaf _ _ = true); rfl)) <;> try first | omega | (simp only [InR]; omega)
   refine nxt hi trivial ?_
   simp [AV.bare,zal,zaN,zaS,zak,zat,zah,tokz1,lk,zab,za2,hos,zdZ,-List.map_map]
 ·intro _
  simp (maxSteps:=4000000) only [go_sem,AV.one,zae,zac,zad,zaq,zas,zab,czb,cza,↓reduceIte,zaa,zao,onz,zdZ,czA,decide_false]
  all_goals (repeat' first | (with_reducible first | rfl | apply And.intro | assumption) | ((with_reducible show zaf _ _ = true); rfl)) <;> try first | omega | (simp only [InR]; omega)
  rfl
theorem zuI (y:Yd) (b:Int) (h:y.hires.length ≤ 8 ∧ 0 ≤ b ∧ b ≤ 511):zaQ Tryz.prog 61 [Enc.enc y,Enc.enc b] (· = Enc.enc (zwR y b)):=by
 obtain ⟨h8,b0,b1⟩:=h
 have hdiv0:∀ i:Nat,0 ≤ b / 2 ^ i ∧ b / 2 ^ i ≤ 511:=fun i => by
  have hp:(0:Int) < 2 ^ i:=Int.pow_pos (by omega)
  exact ⟨Int.ediv_nonneg b0 (by omega),by have:=Int.ediv_le_self (2 ^ i) b0; omega⟩
 unfold zwR
 simp only [zbz]
 refine cpz znB Tryz.func61 zaD ?_
 rw [Tryz.ntmps61]
 simp only [Tryz.f61,zag,zap]
 simp (maxSteps:=4000000) only [go_sem,zae,zac,zad,zaq,zas,zab,czb,cza,↓reduceIte,zaa,zao,onz,zdZ]
 all_goals (repeat' first | (with_reducible first | rfl | apply And.intro | assumption) | ((with_reducible show zaf _ _ = true); rfl)) <;> try first | omega | (simp only [InR]; omega)
 refine zbv (y.hires.length) [.cell 2 8 2] [1,2,4,5] (fun i => [(6,.int .i64 i)]) (fun i m => (m.set 2 (.cells [.int .i64 y.t.last,.sl (y.t.heights.map EncE.cs) .no,.int .i64 y.t.step,.sl (y.t.levels.map EncE.cs) .no,.sl (y.t.marks.map EncE.cs) .no,.int .i64 y.hands,.sl (y.chairs.map EncE.cs) .no,.sl (y.order.map EncE.cs) .no,.sl ((zjn y b i).map EncE.cs) (.own 3)])).set 3 (.tok (zjn y b i).length 2)) (fun _ => True) ?_ ?_ ?_ ?_
 ·trivial
 ·simp [AV.bare,zal,zaN,zaS,zak,zat,zah,tokz1,lk,zab,za2,zjn,-List.map_map]
 ·intro i hi _
  have hi':=czH.2 hi
  have hsl:=znW y b i
  have hd:=hdiv0 i
  have hss:zjn y b (i + 1) = if bitI b i then zjn y b i ++ [at_ y.hires i] else zjn y b i:=rfl
  have hbi:bitI b i = decide (b / 2 ^ i % 2 = 1):=rfl
  obtain ⟨P,hP⟩:∃ P,zjn y b i = P:=⟨_,rfl⟩
  rw [hP] at hsl hss
  rw [hP]
  obtain ⟨q,hq⟩:∃ q,b / 2 ^ i = q:=⟨_,rfl⟩
  rw [hq] at hd hbi
  cases c1:decide (q % 2 = 1)
  all_goals
   rw [hbi,c1] at hss
   simp only [czp,if_false,if_true] at hss
   simp (maxSteps:=4000000) only [go_sem,zae,zac,zad,zaq,zas,zab,czb,cza,↓reduceIte,zaa,zao,onz,zdZ,hi',zax hi,hq,c1,zmp,decide_true,decide_false]
   all_goals (repeat' first | (with_reducible first | rfl | apply And.intro | assumption) | ((with_reducible show zaf _ _ = true); rfl)) <;> try first | omega | (simp only [InR]; omega)
   refine nxt hi trivial ?_
   simp [AV.bare,zal,zaN,zaS,zak,zat,zah,tokz1,lk,zab,za2,hss,-List.map_map]
 ·intro _
  simp (maxSteps:=4000000) only [go_sem,zae,zac,zad,zaq,zas,zab,czb,cza,↓reduceIte,zaa,zao,onz,zdZ,czA,decide_false]
  all_goals exact auz
theorem zwF (y:Yd) (which:Uk .u16) (ws:List (Uk .u8)) (h:(VY y ∧ InR .u16 which.n) ∧ WsOk ws):zaQ Tryz.prog 53 [Enc.enc y,Enc.enc which,Enc.enc ws] (· = Enc.enc (hiredY y which.n ws,znT y which.n)):=by
 obtain ⟨⟨hv,hw⟩,hws⟩:=h
 have h1:=(zhG hv).1
 have h2:=(zhG hv).2
 have hb7:=zjz hws 7
 have ho:y.order.length ≤ 4096:=by have:=zcY hv.ord; have:=hv.c5; omega
 obtain ⟨m5,mc⟩:=manyW_le y ws
 have hlen:0 < (zaJ y.t).length:=List.length_pos_iff.2 hv.tr
 have hw0:0 ≤ which.n ∧ which.n ≤ 65535:=hw
 have e1:=Int.emod_nonneg which.n (show ((zaJ y.t).length:Int) ≠ 0 by omega)
 have e2:=Int.emod_lt_of_pos which.n (show (0:Int) < (zaJ y.t).length by omega)
 have htm:=zux hv (which:=which.n) hw0.1
 unfold hiredY
 unfold znT at htm ⊢
 obtain ⟨k,ek⟩:=czu e1
 rw [ek] at e2 htm ⊢
 rw [czF] at htm ⊢
 have hkl:k < (zaJ y.t).length:=by omega
 have hg:=zax (f:=EncE.cs) hkl
 have hth:=zee hv htm
 obtain ⟨T,hT⟩:∃ T,at_ (zaJ y.t) k = T:=⟨_,rfl⟩
 rw [hT] at hg hth ⊢
 simp only [zaa,enc_uk]
 simp only [zbz]
 refine cpz znB Tryz.func53 zaD ?_
 rw [Tryz.ntmps53]
 simp only [Tryz.f53,zag,zap]
 simp (maxSteps:=4000000) only [go_sem,zae,zac,zad,zaq,zas,zab,czb,cza,↓reduceIte,zaa,zao,onz,zdZ,ek,hg]
 all_goals (repeat' first | (with_reducible first | rfl | apply And.intro | assumption) | ((with_reducible show zaf _ _ = true); rfl)) <;> try first | omega | (simp only [InR]; omega)
 refine zbv (zjs y ws) [.cell 2 8 2] [2,3,6,7,9,10] (fun i => [(11,.int .i64 i)]) (fun i m => (m.set 2 (.cells [.int .i64 y.t.last,.sl (y.t.heights.map EncE.cs) .no,.int .i64 y.t.step,.sl (y.t.levels.map EncE.cs) .no,.sl (y.t.marks.map EncE.cs) .no,.int .i64 y.hands,.sl (y.chairs.map EncE.cs) .no,.sl (y.order.map EncE.cs) .no,.sl ((zf4 y T ws i).map EncE.cs) (.own 3)])).set 3 (.tok (zf4 y T ws i).length 2)) (fun _ => True) ?_ ?_ ?_ ?_
 ·trivial
 ·simp [AV.bare,zal,zaN,zaS,zak,zat,zah,tokz1,lk,zab,za2,zf4,zdZ,-List.map_map]
 ·intro i hi _
  have hcp:=mc (by omega)
  have hmw:zjs y ws = (zdU ws 7 % 6).toNat:=by unfold zjs; rw [if_neg (by omega)]
  have hi6:decide ((i:Int) < zdU ws 7 % 6) = true:=by simp; omega
  have hcp':decide ((0:Int) < y.chairs.length) = true:=by simp; omega
  have hb:=zjz hws ((i:Int) + 8)
  have hh:=hireW_ok hv hws hcp i
  have hlo:zdU ws ((i:Int) + 8) % (y.chairs.length:Int) = (zii y ws i).lo:=rfl
  have hhi:zdU ws ((i:Int) + 8) / 8 % (y.t.last + 1) = (zii y ws i).hi:=rfl
  have hsl:=zl6 y T ws i
  have hss:zf4 y T ws (i + 1) = if zkN y y.order T (zii y ws i).lo (zii y ws i).hi.toNat then zf4 y T ws i ++ [zii y ws i] else zf4 y T ws i:=rfl
  obtain ⟨A,hA⟩:∃ A,zii y ws i = A:=⟨_,rfl⟩
  rw [hA] at hh hlo hhi hss
  obtain ⟨w,hwd⟩:∃ w,zdU ws ((i:Int) + 8) = w:=⟨_,rfl⟩
  rw [hwd] at hb hlo hhi
  obtain ⟨Hs,hHs⟩:∃ Hs,zf4 y T ws i = Hs:=⟨_,rfl⟩
  rw [hHs] at hsl hss
  rw [hHs]
  have hl0:=hv.l0
  have hhr:=hv.hrs
  have hpre:=rpre hv ho hth hh.1.1 hh.1.2
  have hkl:A.hi < T.length:=by omega
  cases d:zkN y y.order T A.lo A.hi.toNat
  all_goals
   rw [d] at hss
   simp only [czp,if_false,if_true] at hss
   simp (maxSteps:=4000000) only [go_sem,zae,zac,zad,zaq,zas,zab,czb,cza,↓reduceIte,zaa,zao,onz,zdZ,gt_iff_lt,hws,hi6,hcp',hwd,hlo,hhi,hpre,hkl,d,decide_true,decide_false]
   all_goals (repeat' first | (with_reducible first | rfl | apply And.intro | assumption) | ((with_reducible show zaf _ _ = true); rfl)) <;> try first | omega | (simp only [InR]; omega)
   refine nxt hi trivial ?_
   simp [AV.bare,zal,zaN,zaS,zak,zat,zah,tokz1,lk,zab,za2,hHs,hss,zdZ,-List.map_map]
 ·intro _
  by_cases hcp:y.chairs.length = 0
  ·have hmw:zjs y ws = 0:=by unfold zjs; rw [if_pos hcp]
   rw [hmw]
   have hcp':decide ((0:Int) < y.chairs.length) = false:=decide_eq_false (by omega)
   cases d:decide (((0:Nat):Int) < zdU ws 7 % 6)
   all_goals
    simp (maxSteps:=4000000) only [go_sem,zae,zac,zad,zaq,zas,zab,czb,cza,↓reduceIte,zaa,zao,onz,zdZ,gt_iff_lt,hws,d,hcp',decide_true,decide_false]
    all_goals (repeat' first | (with_reducible first | rfl | apply And.intro | assumption) | ((with_reducible show zaf _ _ = true); rfl)) <;> try first | omega | (simp only [InR]; omega)
  ·have hmw:zjs y ws = (zdU ws 7 % 6).toNat:=by unfold zjs; rw [if_neg hcp]
   have hi6:decide (((zjs y ws:Nat):Int) < zdU ws 7 % 6) = false:=by
    have:=Int.emod_nonneg (zdU ws 7) (show (6:Int) ≠ 0 by omega)
    refine decide_eq_false ?_
    rw [hmw]
    omega
   simp (maxSteps:=4000000) only [go_sem,zae,zac,zad,zaq,zas,zab,czb,cza,↓reduceIte,zaa,zao,onz,zdZ,gt_iff_lt,hws,hi6,decide_true,decide_false]
   all_goals exact auz
def P156 (g:FuncId):=(zaw 54 (zbC (fun (y:Yd) (ws:List (Uk .u8)) => WsOk ws ∧ y.chairs.length ≤ 4096) ordW) (zaw 61 (zbC (fun (y:Yd) (b:Int) => y.hires.length ≤ 8 ∧ 0 ≤ b ∧ b ≤ 511) zwR) (zaw 53 (zd1 (fun (y:Yd) (which:Uk .u16) (ws:List (Uk .u8)) => (VY y ∧ InR .u16 which.n) ∧ WsOk ws) (fun y which ws => (hiredY y which.n ws,znT y which.n))) (P155))):zaL) g
theorem P156_ok:zaC Tryz.prog P156:=zaj (zaM zsD) (zaj (zaM zuI) (zaj (zbY zwF) (znB)))
theorem zpv (d:Option Nat):zaI P156 d = none:=(zai (by decide) d).trans ((zai (by decide) d).trans ((zai (by decide) d).trans (zpw d)))
attribute [go_sem] P156 zpv
def P256:zaL:=vecT [1000010] P156
theorem P256_app (g:FuncId) (h:¬ (g = 4000000000)):P256 g = P156 g:=by unfold P256 vecT; rw [if_neg h]
theorem P256_ok:zaC Tryz.prog P256:=vecT_ok P156_ok
theorem P256_flag (d:Nat):zaI P256 (some d) = if d ∈ ([1000010]:List Nat) then some d else none:=zkE _ _ d
attribute [go_sem] P256_app P256_flag
theorem zrF {y:Yd} {K:List Sea} {S:Nat} {RR:List (List AV)} (hw:zwN ⟨y,K⟩) (hvb:∀ k st,zb6 k (.vec (K.map EncE.cs ++ RR) 2 st)) {a:List Int × Int} {oc0:AV} {mn0:Int} {Ms0:List AObj}
  (hM0:Mm y K Ms0) (hO0:OrdC oc0 mn0 a) :
  zff Tryz.prog 107 [.ptr (11 + K.length) 0,.ptr 0 0,.ptr 8 0,.ptr (10 + K.length) 0,.ptr 2 0,.ptr 1 0,.ptr (12 + K.length) 0] (bM y K S RR oc0 mn0 Ms0 (.sl [] .full) [] 0)
   (Add0 y K S RR (tryF y K y.chairs.length [] a)):=by
 cases e:y.chairs.length with
 | zero => exact zvu hw hvb hM0 e hO0
 | succ f => exact top_call hw hvb rfl hM0 e.symm hO0
theorem zwL (y:Yd) (h12:y.t.heights.length ≤ 4096 ∧ y.order.length ≤ 4096):zaQ Tryz.prog 42 [Enc.enc y] (· = Enc.enc (zkV y)):=by
 unfold zkV
 have ha:FnFine.best.ask = true:=rfl
 simp only [zan,ydC]
 simp only [zbz]
 refine cpz P256_ok Tryz.func42 zaD ?_
 rw [Tryz.ntmps42]
 simp only [Tryz.f42,zag,zap]
 refine zlC fun Q0 hQ0 => ?_
 refine zar fun Q1 h1 => ?_
 simp (maxSteps:=4000000) only [go_sem,zae,zac,zad,zaq,zas,zab,czb,cza,↓reduceIte,zaU,zaz,zaA,zay,zaB,zau,zav,zan,zaa,onz]
 all_goals (repeat' first | (with_reducible first | rfl | apply And.intro | assumption) | ((with_reducible show zaf _ _ = true); rfl)) <;> try first | omega | (simp only [InR]; omega)
 rw [h1]; clear h1 Q1; simp only [zaE,zam]
 refine zar fun Q1 h1 => ?_
 simp (maxSteps:=4000000) only [go_sem,zae,zac,zad,zaq,zas,zab,czb,cza,↓reduceIte,zaU,zaz,zaA,zay,zaB,zau,zav,zan,zaa,onz]
 refine ⟨_,askedb y h12 (zcU ⟨zb8 y _,by simp [AV.bare,zal,zaN,zaS,zak,zat,zah,tokz1,lk,zab,za2],by simp [AV.bare,zal,zaN,zaS,zak,zat,zah,tokz1,lk,zab,za2],trivial⟩),?_⟩
 rintro r m hR _
 rw [ha] at hR
 unfold zmy at hR
 rw [zk4] at hR
 by_cases e:zdI y true = 0
 ·rw [if_pos e] at hR hQ0
  obtain ⟨rfl,rfl⟩:=hR
  obtain ⟨hv,ht,htr,_,hk⟩:=ziy e
  have hc5:=hv.c5
  have hk2:=zsP hv
  have hts:(wkY y).ts = zep y:=hk.symm
  rw [hts] at hQ0
  obtain ⟨K,hK⟩:∃ K,zep y = K:=⟨_,rfl⟩
  have hW:wkY y = ⟨y,K⟩:=by rw [← hK,hk]; rfl
  rw [hW] at hk2
  unfold zix yC
  rw [hK] at hQ0 ⊢
  simp (maxSteps:=4000000) only [go_sem,zae,zac,zad,zaq,zas,zab,czb,cza,↓reduceIte,zaU,zaz,zaA,zay,zaB,zau,zav,zan,zaa,onz]
  rw [h1]; clear h1 Q1
  simp only [zaE,zam]
  have hvb0:=fun k st => zjB K ((zba y).length - K.length) k st
  generalize hr:List.replicate ((zba y).length - K.length) zqn = RR at hvb0 ⊢
  generalize hs:(zba y).length = S at ⊢
  iterate 2 (
   refine zar fun Q1 h1 => ?_
   simp (maxSteps:=4000000) only [go_sem,zae,zac,zad,zaq,zas,zab,czb,cza,↓reduceIte,zaU,zaz,zaA,zay,zaB,zau,zav,zan,zaa,onz,decide_true,decide_false]
   all_goals (repeat' first | (with_reducible first | rfl | apply And.intro | assumption) | ((with_reducible show zaf _ _ = true); rfl)) <;> try first | omega | (simp only [InR]; omega)
   rw [h1]; clear h1 Q1; simp only [zaE,zam])
  refine zar fun Q1 h1 => ?_
  simp (maxSteps:=4000000) only [go_sem,zae,zac,zad,zaq,zas,zab,czb,cza,↓reduceIte,zaU,zaz,zaA,zay,zaB,zau,zav,zan,zaa,onz,decide_true,decide_false]
  have hfr:=zl7 (mem:=[yC y,.cells [.sl [] .full],.cells [.int .i64 0],yC y,yC y,wC y 7 S K.length,.cells [.ptr 5 0],.vec (K.map EncE.cs ++ RR) 2 S,.cells [.ptr 5 0]]) (a:=5) (v:=7) y K S RR hk2.l1 rfl rfl
   (zcU (k:=9) ⟨zb8 y _,by simp [AV.bare,zal,zaN,zaS,zak,zat,zah,tokz1,lk,zab,za2],by simp [AV.bare,zal,zaN,zaS,zak,zat,zah,tokz1,lk,zab,za2],zb8 y _,zb8 y _,by simp [wC,AV.bare,zal,zaN,zaS,zak,zat,zah,tokz1,lk,zab,za2,-List.map_map],by simp [AV.bare,zal,zaN,zaS,zak,zat,zah,tokz1,lk,zab,za2],hvb0 _ _,by simp [AV.bare,zal,zaN,zaS,zak,zat,zah,tokz1,lk,zab,za2],trivial⟩)
  rw [show ([yC y,.cells [.sl [] .full],.cells [.int .i64 0],yC y,yC y,wC y 7 S K.length,.cells [.ptr 5 0],.vec (K.map EncE.cs ++ RR) 2 S,.cells [.ptr 5 0]]:List AObj).length = 9 from rfl] at hfr
  unfold yC wC at hfr
  refine ⟨_,hfr,?_⟩
  rintro r m ⟨rfl,rfl⟩ _
  obtain ⟨Ms,hMs⟩:∃ Ms,List.replicate K.length (AObj.map [] []) = Ms:=⟨_,rfl⟩
  have hMm:Mm y K Ms:=by
   rw [← hMs]
   exact ⟨by simp,fun i hi => ⟨[],[],zou _ _,by simp [zab,List.getD,hi]⟩⟩
  obtain ⟨M1,hM1⟩:∃ M1,bA y K S RR (.sl [] .full) 0 ++ Ms = M1:=⟨_,rfl⟩
  obtain ⟨M2,hM2⟩:∃ M2,bA y K S RR (.sl [] .full) ((y.chairs.length:Int) + 1) ++ Ms = M2:=⟨_,rfl⟩
  have hl1:M1.length = 10 + K.length:=by rw [← hM1,czc,ziw,hMm.len]
  have hl2:M2.length = 10 + K.length:=by rw [← hM2,czc,ziw,hMm.len]
  have hm1:[AObj.cells [.int .i64 y.t.last,.sl (y.t.heights.map EncE.cs) .no,.int .i64 y.t.step,.sl (y.t.levels.map EncE.cs) .no,.sl (y.t.marks.map EncE.cs) .no,.int .i64 y.hands,.sl (y.chairs.map EncE.cs) .no,.sl (y.order.map EncE.cs) .no,.sl (y.hires.map EncE.cs) .no],.cells [.sl [] .full],.cells [.int .i64 0],
    .cells [.int .i64 y.t.last,.sl (y.t.heights.map EncE.cs) .no,.int .i64 y.t.step,.sl (y.t.levels.map EncE.cs) .no,.sl (y.t.marks.map EncE.cs) .no,.int .i64 y.hands,.sl (y.chairs.map EncE.cs) .no,.sl (y.order.map EncE.cs) .no,.sl (y.hires.map EncE.cs) .no],
    .cells [.int .i64 y.t.last,.sl (y.t.heights.map EncE.cs) .no,.int .i64 y.t.step,.sl (y.t.levels.map EncE.cs) .no,.sl (y.t.marks.map EncE.cs) .no,.int .i64 y.hands,.sl (y.chairs.map EncE.cs) .no,.sl (y.order.map EncE.cs) .no,.sl (y.hires.map EncE.cs) .no],
    .cells [.int .i64 y.t.last,.sl (y.t.heights.map EncE.cs) .no,.int .i64 y.t.step,.sl (y.t.levels.map EncE.cs) .no,.sl (y.t.marks.map EncE.cs) .no,.int .i64 y.hands,.sl (y.chairs.map EncE.cs) .no,.sl (y.order.map EncE.cs) .no,.sl (y.hires.map EncE.cs) .no,.vec 7 S 0 K.length 2],
    .cells [.ptr 5 0],.vec (K.map EncE.cs ++ RR) 2 S,.cells [.ptr 5 0]] ++ AObj.cells ((List.range K.length).map fun i => .mp (9 + 1 + i)) :: List.replicate K.length (.map [] []) = M1:=by
   rw [hMs,← hM1]; rfl
  have g10:∀ r,zab (M1 ++ r) 0 = yC y:=fun r => by rw [← hM1]; rfl
  have s10:∀ r o,(M1 ++ r).set (10 + K.length) o = M1 ++ r.set 0 o:=fun r o => by rw [← hl1]; exact zbW _ _ 0 _
  have s12:∀ r,(M1 ++ r).set 2 (.cells [.int .i64 ((y.chairs.length:Int) + 1)]) = M2 ++ r:=fun r => by rw [← hM1,← hM2]; rfl
  have g12:∀ r,zab (M1 ++ r) 2 = .cells [.int .i64 0]:=fun r => by rw [← hM1]; rfl
  have g20:∀ r,zab (M2 ++ r) 0 = yC y:=fun r => by rw [← hM2]; rfl
  have g2k:∀ r k,zab (M2 ++ r) (10 + K.length + k) = zab r k:=fun r k => by rw [← hl2]; exact zaP _ _ k
  have s2k:∀ r k o,(M2 ++ r).set (10 + K.length + k) o = M2 ++ r.set k o:=fun r k o => by rw [← hl2]; exact zbW _ _ k _
  have k10:∀ r:List AObj,(M1 ++ r).getD (10 + K.length) .dead = r.getD 0 .dead:=fun r => by rw [← hl1]; exact zaP _ _ 0
  have k12:∀ r:List AObj,(M1 ++ r).getD 2 .dead = .cells [.int .i64 0]:=g12
  have k2k:∀ (r:List AObj) k,(M2 ++ r).getD (10 + K.length + k) .dead = r.getD k .dead:=fun r k => by rw [← hl2]; exact zaP _ _ k
  have hfc:=zrF (S:=S) (RR:=RR) (a:=([],(y.chairs.length:Int) + 1)) hk2 hvb0 hMm (oc0:=.sl [] .full) (mn0:=(y.chairs.length:Int) + 1) ⟨rfl,.inr ⟨rfl,rfl⟩⟩
  have hbm:bM y K S RR (.sl [] .full) ((y.chairs.length:Int) + 1) Ms (.sl [] .full) [] 0 = M2 ++ [.cells [.arr 9 0 K.length 1],.cells [.sl [] .full],.cells [.fn (.func 107) [] [.ptr (10 + K.length + 1) 0,.ptr 0 0,.ptr 8 0,.ptr (10 + K.length) 0,.ptr 2 0,.ptr 1 0,.ptr (10 + K.length + 2) 0]]]:=by
   rw [← hM2,czd]
   unfold bM bT addF
   rw [show 11 + K.length = 10 + K.length + 1 by omega,show 12 + K.length = 10 + K.length + 2 by omega]
   rfl
  rw [hbm,show 11 + K.length = 10 + K.length + 1 by omega,show 12 + K.length = 10 + K.length + 2 by omega] at hfc
  rw [hm1]
  unfold yC at g10 g20
  simp (maxSteps:=4000000) only [go_sem,zae,zac,zad,zaq,zas,czb,cza,↓reduceIte,zaU,zaz,zaA,zay,zaB,zau,zav,zan,zaa,onz,g10,hl1,s10,k10,decide_true,decide_false,czc]
  rw [h1]; clear h1 Q1
  simp only [zaE,zam]
  refine zar fun Q1 h1 => ?_
  simp (maxSteps:=4000000) only [go_sem,zae,zac,zad,zaq,zas,czb,cza,↓reduceIte,zaU,zaz,zaA,zay,zaB,zau,zav,zan,zaa,onz,g10,g12,hl1,s12,k12,decide_true,decide_false,czc]
  refine ⟨(by simp only [InR]; omega),?_⟩
  rw [h1]; clear h1 Q1
  simp only [zaE,zam]
  simp (maxSteps:=4000000) only [go_sem,zae,zac,zad,zaq,zas,czb,cza,↓reduceIte,zaU,zaz,zaA,zay,zaB,zau,zav,zan,zaa,onz,g2k,s2k,k2k,hl2,decide_true,decide_false,czc,czd,czs,List.nil_append]
  refine ⟨_,hfc,?_⟩
  rintro r m ⟨rfl,oc,mn,Ms',nw,V,rfl,hM',hO'⟩ _
  have n1:=bM_A (y:=y) (K:=K) (S:=S) (RR:=RR) (Ms:=Ms') (i:=1) (by omega) oc mn nw V 0
  have n2:=bM_A (y:=y) (K:=K) (S:=S) (RR:=RR) (Ms:=Ms') (i:=2) (by omega) oc mn nw V 0
  have nl:=zhg (y:=y) (S:=S) (RR:=RR) hM'.len oc mn nw V 0
  rw [show zab (bA y K S RR oc mn) 1 = .cells [oc] from rfl] at n1
  rw [show zab (bA y K S RR oc mn) 2 = .cells [.int .i64 mn] from rfl] at n2
  obtain ⟨m,hm⟩:∃ m,bM y K S RR oc mn Ms' nw V 0 = m:=⟨_,rfl⟩
  rw [hm] at n1 n2 nl ⊢
  have hmn:=hO'.1
  generalize tryF y K y.chairs.length [] ([],(y.chairs.length:Int) + 1) = a at hO' hmn hQ0
  obtain ⟨al,am⟩:=a
  dsimp only at hmn
  subst hmn
  have n3:∀ o,zab (m.set 1 o) 2 = .cells [.int .i64 mn]:=fun o => by rw [zaF _ _ _ _ (by omega),if_neg (by decide)]; exact n2
  have n4:∀ o,zab (m.set 1 o) 1 = o:=fun o => zec (by omega) o
  have n5:∀ o p,zab ((m.set 1 o).set 2 p) 1 = o:=fun o p => by rw [zaF _ _ _ _ (by rw [czt]; omega),if_neg (by decide)]; exact n4 o
  have n6:∀ o p,zab ((m.set 1 o).set 2 p) 2 = p:=fun o p => zec (by rw [czt]; omega) p
  rcases hO'.2 with rfl | ⟨rfl,hal⟩
  ·refine ⟨21949123963738723012075312962025600931802499239048399859060604530595504787143150154351985502881171567205176961768353693698,by rfl,?_⟩
   simp (maxSteps:=4000000) only [go_sem,zae,zac,zad,zaq,zas,czb,cza,↓reduceIte,zaU,zaz,zaA,zay,zaB,zau,zav,zan,zaa,onz,(show Nat.testBit 21949123963738723012075312962025600931802499239048399859060604530595504787143150154351985502881171567205176961768353693698 399 = true from rfl),Bool.false_and,Bool.true_and,czp,(show Nat.testBit 21949123963738723012075312962025600931802499239048399859060604530595504787143150154351985502881171567205176961768353693698 400 = false from rfl),(show Nat.testBit 21949123963738723012075312962025600931802499239048399859060604530595504787143150154351985502881171567205176961768353693698 401 = false from rfl),(show Nat.testBit 21949123963738723012075312962025600931802499239048399859060604530595504787143150154351985502881171567205176961768353693698 402 = false from rfl),(show Nat.testBit 21949123963738723012075312962025600931802499239048399859060604530595504787143150154351985502881171567205176961768353693698 403 = true from rfl),(show Nat.testBit 21949123963738723012075312962025600931802499239048399859060604530595504787143150154351985502881171567205176961768353693698 404 = false from rfl),(show Nat.testBit 21949123963738723012075312962025600931802499239048399859060604530595504787143150154351985502881171567205176961768353693698 200 = false from rfl),zgV,ze7,hideO,zrP,vcFr,Go.Fs.freeR,effL,zwf,zll,List.all_cons,List.all_nil,List.contains_cons,List.contains_nil,Nat.reduceBEq,Bool.or_self,(show Nat.testBit 21949123963738723012075312962025600931802499239048399859060604530595504787143150154351985502881171567205176961768353693698 0 = false from rfl),(show Nat.testBit 21949123963738723012075312962025600931802499239048399859060604530595504787143150154351985502881171567205176961768353693698 1 = true from rfl),(show Nat.testBit 21949123963738723012075312962025600931802499239048399859060604530595504787143150154351985502881171567205176961768353693698 2 = false from rfl),(show Nat.testBit 21949123963738723012075312962025600931802499239048399859060604530595504787143150154351985502881171567205176961768353693698 3 = false from rfl),(show Nat.testBit 21949123963738723012075312962025600931802499239048399859060604530595504787143150154351985502881171567205176961768353693698 4 = false from rfl),n1,n2,n3,n4,n5,n6,hQ0]
   rfl
  ·dsimp only at hal
   subst hal
   refine ⟨21949123963738723012075312962025600931802499239048399859060604530595504787143150154351985502881171567205176961768353693698,by rfl,?_⟩
   simp (maxSteps:=4000000) only [go_sem,zae,zac,zad,zaq,zas,czb,cza,↓reduceIte,zaU,zaz,zaA,zay,zaB,zau,zav,zan,zaa,onz,(show Nat.testBit 21949123963738723012075312962025600931802499239048399859060604530595504787143150154351985502881171567205176961768353693698 399 = true from rfl),Bool.false_and,Bool.true_and,czp,(show Nat.testBit 21949123963738723012075312962025600931802499239048399859060604530595504787143150154351985502881171567205176961768353693698 400 = false from rfl),(show Nat.testBit 21949123963738723012075312962025600931802499239048399859060604530595504787143150154351985502881171567205176961768353693698 401 = false from rfl),(show Nat.testBit 21949123963738723012075312962025600931802499239048399859060604530595504787143150154351985502881171567205176961768353693698 402 = false from rfl),(show Nat.testBit 21949123963738723012075312962025600931802499239048399859060604530595504787143150154351985502881171567205176961768353693698 403 = true from rfl),(show Nat.testBit 21949123963738723012075312962025600931802499239048399859060604530595504787143150154351985502881171567205176961768353693698 404 = false from rfl),(show Nat.testBit 21949123963738723012075312962025600931802499239048399859060604530595504787143150154351985502881171567205176961768353693698 200 = false from rfl),zgV,ze7,hideO,zrP,vcFr,Go.Fs.freeR,effL,zwf,zll,List.all_cons,List.all_nil,List.contains_cons,List.contains_nil,Nat.reduceBEq,Bool.or_self,(show Nat.testBit 21949123963738723012075312962025600931802499239048399859060604530595504787143150154351985502881171567205176961768353693698 0 = false from rfl),(show Nat.testBit 21949123963738723012075312962025600931802499239048399859060604530595504787143150154351985502881171567205176961768353693698 1 = true from rfl),(show Nat.testBit 21949123963738723012075312962025600931802499239048399859060604530595504787143150154351985502881171567205176961768353693698 2 = false from rfl),(show Nat.testBit 21949123963738723012075312962025600931802499239048399859060604530595504787143150154351985502881171567205176961768353693698 3 = false from rfl),(show Nat.testBit 21949123963738723012075312962025600931802499239048399859060604530595504787143150154351985502881171567205176961768353693698 4 = false from rfl),n1,n2,n3,n4,n5,n6,hQ0]
   rfl
 ·rw [if_neg e] at hR hQ0
  obtain ⟨rfl,rfl⟩:=hR
  simp (maxSteps:=4000000) only [go_sem,zae,zac,zad,zaq,zas,zab,czb,cza,↓reduceIte,zaU,zaz,zaA,zay,zaB,zau,zav,zan,zaa,onz]
  rw [h1]; clear h1 Q1
  simp only [zaE,zam]
  simp (maxSteps:=4000000) only [go_sem,zae,zac,zad,zaq,zas,zab,czb,cza,↓reduceIte,zaU,zaz,zaA,zay,zaB,zau,zav,zan,zaa,onz,e,hQ0,decide_true,decide_false]
  all_goals exact auz
def P157 (g:FuncId):=(zaw 42 (zct (fun y:Yd => y.t.heights.length ≤ 4096 ∧ y.order.length ≤ 4096) zkV) (P156):zaL) g
theorem zss:zaC Tryz.prog P157:=zaj (zbf zwL) (P156_ok)
theorem zk7 (d:Option Nat):zaI P157 d = none:=(zai (by decide) d).trans (zpv d)
attribute [go_sem] P157 zk7
theorem zhi {y:Yd} (hv:VY y) {hs:List Int} (h:za4 y.t hs = true):hs.length = hrs y:=by
 have h1:=zbI h
 have h2:=hv.fok.len
 have h3:=hv.hrs.1
 omega
theorem prove_eq {y:Yd} (hv:VY y) (hs:List Int):zhY y hs = ze6 y hs:=by
 unfold zhY ze6
 rw [hv.fault,decide_eq_true rfl,Bool.true_and,zs8 hv.f]
 cases c:zby y.t hs
 ·rfl
 ·have hli:za4 y.t hs = true:=by unfold zby at c; simp only [czl] at c; exact c.1
  rw [zlN hv (zhi hv hli)]
theorem prove_bad {y:Yd} (h:za9 y ≠ 0) (hs:List Int):zhY y hs = false:=by
 unfold zhY
 rw [decide_eq_false h]; rfl
def zki (y:Yd) (o hs:List Int):List Sy:=(List.range y.chairs.length).map fun c:Nat => zdt y o hs c
theorem zu5 (y:Yd) (o hs:List Int):(zki y o hs).length = y.chairs.length:=by simp [zki]
theorem playsY_at {y:Yd} (o hs:List Int) {i:Nat} (h:i < y.chairs.length):at_ (zki y o hs) i = zdt y o hs i:=zg6 _ h
theorem playL_eq {y:Yd} (hv:VY y) {hs:List Int} (hl:hs.length = hrs y) (o:List Int):zhZ y (zbH y.t hs) o = zki y o hs:=by
 unfold zhZ zki
 apply List.map_congr_left
 intro c hc
 have hc':c < y.chairs.length:=by simpa using hc
 exact zgg hv hl (by omega) (by omega)
theorem play_bad {y:Yd} (h:za9 y ≠ 0) (o hs:List Int):zgs y o hs = ([],za9 y):=by unfold zgs; rw [if_neg h]
theorem play_no {y:Yd} (hv:VY y) {o hs:List Int} (h:(za4 y.t hs && zaG y.chairs.length o) = false):zgs y o hs = ([],2):=by
 unfold zgs
 rw [if_pos hv.fault,h,if_neg (by simp)]
theorem play_ok {y:Yd} (hv:VY y) {o hs:List Int} (h1:za4 y.t hs = true) (h2:zaG y.chairs.length o = true):zgs y o hs = (zki y o hs,0):=by
 unfold zgs
 rw [if_pos hv.fault,h1,h2,Bool.and_self,if_pos rfl,playL_eq hv (zhi hv h1)]
theorem zk2 {y:Yd} (h:za9 y ≠ 0) (a:Bool):zdI y a = za9 y:=by unfold zdI; rw [if_pos h]
theorem zpi {y:Yd} (hv:VY y):zdI y false = 2:=by unfold zdI; rw [if_neg (by simp [hv.fault]),if_pos rfl]
theorem zg7 {y:Yd} (hv:VY y) (h:zaV y = []):zdI y true = 11:=by unfold zdI; rw [if_neg (by simp [hv.fault]),if_neg (by simp),if_pos h]
theorem ztE {y:Yd} (hv:VY y) (h:zaV y ≠ []):zdI y true = 0:=by unfold zdI; rw [if_neg (by simp [hv.fault]),if_neg (by simp),if_neg h]
def zsO (y:Yd) (o:List Int):List Int:=(at_ (wkY y).ts (zcf y (wkY y).ts o (wkY y).ts.length).2.toNat).hs
theorem worst_mem {y:Yd} (hv:VY y) (h:zaV y ≠ []) (o:List Int):zsO y o ∈ zaV y:=(zkv hv h o).1
theorem zus {y:Yd} (hv:VY y) (h:zaV y ≠ []) (o:List Int):zbR y o (zsO y o) = zc2 y (zaV y) o:=(zkv hv h o).2
theorem zwU {y:Yd} (hv:VY y) (h:zaV y ≠ []) {o:List Int} (ho:zaG y.chairs.length o = true):zha y o = ⟨zc2 y (zaV y) o,zsO y o,0⟩:=by
 unfold zha
 rw [ho,ztE hv h,if_pos rfl,ziO hv h]
 rfl
theorem zjJ {y:Yd} {o:List Int} {e:Int} (h:zdI y (zaG y.chairs.length o) = e) (h0:e ≠ 0):zha y o = ⟨0,[],e⟩:=by
 unfold zha
 rw [h,if_neg h0]
theorem lost_no {y:Yd} (hv:VY y) {o:List Int} (ho:zaG y.chairs.length o = false):zha y o = ⟨0,[],2⟩:=zjJ (by rw [ho,zpi hv]) (by decide)
theorem zw3 {y:Yd} (hv:VY y) (h:zaV y = []) {o:List Int} (ho:zaG y.chairs.length o = true):zha y o = ⟨0,[],11⟩:=zjJ (by rw [ho,zg7 hv h]) (by decide)
theorem lost_bad {y:Yd} (h:za9 y ≠ 0) (o:List Int):zha y o = ⟨0,[],za9 y⟩:=zjJ (zk2 h _) h
theorem zxa {y:Yd} (hv:VY y) (h:zaV y ≠ []) {o:List Int} (ho:zaG y.chairs.length o = true) (n:Int):zeo y o n = decide (zc2 y (zaV y) o ≤ n):=by
 unfold zeo
 rw [zwU hv h ho]; simp
theorem ziG {y:Yd} {o:List Int} {e:Int} (h:zdI y (zaG y.chairs.length o) = e) (h0:e ≠ 0) (n:Int):zeo y o n = false:=by
 unfold zeo
 rw [zjJ h h0]; simp [h0]
theorem zto {y:Yd} (hv:VY y) (h:zaV y ≠ []) {o:List Int} {c:Int} (ho:zxr y o c = true) (h0:0 ≤ c) (h1:c < y.chairs.length):zih y o c = (zfr y (zaV y) o c,0):=by
 unfold zih
 rw [ho,ztE hv h,if_pos rfl,zxd hv h o h0 h1]
theorem zig {y:Yd} {o:List Int} {c e:Int} (h:zdI y (zxr y o c) = e) (h0:e ≠ 0):zih y o c = (⟨0,0⟩,e):=by
 unfold zih
 rw [h,if_neg h0]
theorem free_ok {y:Yd} (hv:VY y) (h:zaV y ≠ []) {o:List Int} {c k:Int} (ho:ziV y o c k = true) (h0:0 ≤ c) (h1:c < y.chairs.length) (k0:0 ≤ k) (k1:k ≤ y.t.last):freeR y o c k = (zrD y (zaV y) o c k,0):=by
 unfold freeR
 rw [ho,ztE hv h,if_pos rfl,free8_eq hv h o h0 h1 k0 k1]
theorem zjL {y:Yd} {o:List Int} {c k e:Int} (h:zdI y (ziV y o c k) = e) (h0:e ≠ 0):freeR y o c k = (0,e):=by
 unfold freeR
 rw [h,if_neg h0]
theorem zxi {y:Yd} (hv:VY y) (h:zaV y ≠ []):zkV y = ⟨(zhA y (zaV y)).1,(zhA y (zaV y)).2,0⟩:=bestR_eq (ztE hv h)
theorem ztx {y:Yd} {e:Int} (h:zdI y true = e) (h0:e ≠ 0):zkV y = ⟨[],0,e⟩:=by
 unfold zkV
 rw [h,if_neg h0]
theorem zxc {y:Yd} (hv:VY y):zfO y = (zdQ (zny y) (2 ^ y.hires.length - 1) (2 ^ y.hires.length),0):=by unfold zfO; rw [if_pos hv.fault]
theorem zvt {y:Yd} (h:za9 y ≠ 0):zfO y = ([],za9 y):=by unfold zfO; rw [if_neg h]
theorem zvK {y:Yd} (h:za9 y ≠ 0):zfc y = (0,za9 y):=by unfold zfc; rw [if_neg h]
theorem zxe {y:Yd} (hv:VY y):zfc y = zhx y y.hires.length 0:=by unfold zfc; rw [if_pos hv.fault,zmc hv]
def zxq (y:Yd) (n:Nat):Bool:=(zaJ y.t).any fun p => (List.range n).all fun k => zcX y p k
theorem zxj {y:Yd} {n:Nat} (h:n ≤ y.hires.length):zuH y n [] = zxq y n:=by
 unfold zuH zxq
 rw [Nat.min_eq_left h]
 simp
theorem zw0 {y:Yd} {n:Nat}:zxq y n = true ↔ ∃ p ∈ zaJ y.t,∀ k,k < n → zcX y p k = true:=by
 unfold zxq
 simp [List.any_eq_true,czG]
theorem preY_all {y:Yd}:zxq y y.hires.length = true ↔ zaV y ≠ []:=by
 rw [zw0]
 constructor
 ·rintro ⟨p,hp,h⟩ e
  have:p ∈ zaV y:=zfJ.2 ⟨hp,by unfold zc7; rw [czG]; exact fun k hk => h k (by simpa using hk)⟩
  rw [e] at this; cases this
 ·intro h
  obtain ⟨p,hp⟩:=List.exists_mem_of_ne_nil _ h
  obtain ⟨h1,h2⟩:=zfJ.1 hp
  refine ⟨p,h1,fun k hk => ?_⟩
  unfold zc7 at h2
  rw [czG] at h2
  exact h2 k (by simpa using hk)
theorem can_pre {y:Yd} (hv:VY y) {n:Nat} (h:n < y.hires.length):zv0 (zny y) (2 * 2 ^ n - 1) = zxq y (n + 1):=by
 have hp:(2:Nat) ^ (n + 1) ≤ 2 ^ y.hires.length:=Nat.pow_le_pow_right (by omega) (by omega)
 have hp0:=Nat.two_pow_pos (n + 1)
 have e:((2:Int) * 2 ^ n - 1) = ((2 ^ (n + 1) - 1:Nat):Int):=by
  have:((2:Int) * 2 ^ n) = ((2 ^ (n + 1):Nat):Int):=by rw [Nat.pow_succ]; simp; omega
  omega
 rw [e,Bool.eq_iff_iff,(psY hv).can _ (by omega),zw0]
 unfold PossY
 constructor
 ·rintro ⟨p,h1,h2⟩
  exact ⟨p,h1,fun k hk => h2 k (by omega) (by show Nat.testBit _ _ = true; rw [zcC]; simp; omega)⟩
 ·rintro ⟨p,h1,h2⟩
  exact ⟨p,h1,fun k hk hb => h2 k (by have hb':Nat.testBit (2 ^ (n + 1) - 1) k = true:=hb; rw [zcC] at hb'; simpa using hb')⟩
theorem zmb {y:Yd} (hv:VY y):∀ f n,f + n = y.hires.length → zhx y f n = if zeQ (zny y) f n < 0 then (0,7) else (zeQ (zny y) f n,0)
 | 0,n,_ => by simp [zhx,zeQ]
 | f + 1,n,h => by
  unfold zhx zeQ
  rw [zxj (by omega),can_pre hv (by omega)]
  cases c:zxq y (n + 1)
  ·simp
  ·simp only [if_true]
   exact zmb hv f (n + 1) (by omega)
theorem first8_eq {y:Yd} (hv:VY y):zfc y = if zeQ (zny y) y.hires.length 0 < 0 then (0,7) else (zeQ (zny y) y.hires.length 0,0):=by
 rw [zxe hv,zmb hv _ _ (by omega)]
theorem zwY {y:Yd}:∀ f n,f + n = y.hires.length → (zhx y f n = (0,7) ∧ ∀ k,n ≤ k → k < y.hires.length → zxq y (k + 1) = true) ∨
  ∃ m:Nat,n ≤ m ∧ m < y.hires.length ∧ zhx y f n = ((m:Int),0) ∧ zxq y (m + 1) = false ∧ ∀ k,n ≤ k → k < m → zxq y (k + 1) = true
 | 0,n,h => .inl ⟨rfl,fun k h1 h2 => by omega⟩
 | f + 1,n,h => by
  unfold zhx
  rw [zxj (by omega)]
  cases c:zxq y (n + 1)
  ·exact .inr ⟨n,czf _,by omega,by simp,c,fun k h1 h2 => by omega⟩
  ·simp only [if_true]
   rcases zwY (y:=y) f (n + 1) (by omega) with ⟨h1,h2⟩ | ⟨m,h1,h2,h3,h4,h5⟩
   ·refine .inl ⟨h1,fun k k1 k2 => ?_⟩
    by_cases e:k = n
    ·subst e; exact c
    ·exact h2 k (by omega) k2
   ·refine .inr ⟨m,by omega,h2,h3,h4,fun k k1 k2 => ?_⟩
    by_cases e:k = n
    ·subst e; exact c
    ·exact h5 k (by omega) k2
theorem all_bok {y:Yd} (hv:VY y):(zny y).length ≤ 4096 ∧ ∀ x ∈ zny y,BOk x:=by
 have hok:HOk y.t:=hv.fok.vok.hok
 have h1:=ziP hok
 have h2:=List.length_filter_le (zby y.t) (zcq y.t)
 refine ⟨?_,fun x hx => ?_⟩
 ·unfold zny zaJ
  rw [czz]; omega
 ·unfold zny at hx
  obtain ⟨p,_,rfl⟩:=czx.1 hx
  have h3:=rbp_lt (zcX y p) y.hires.length
  have h4:2 ^ y.hires.length ≤ 2 ^ 8:=Nat.pow_le_pow_right (by omega) (by have:=hv.r5; omega)
  unfold znp BOk
  omega
end Go.Proofs
