/- The texts HD, HM1, HG, HM2, HM3, H1, H2, H3, joined. -/
import Derived.Test.YtilbconikmpadaaGreatG7
import Derived.Test.YtilbconikmpadaaGreatG6
import Derived.Test.YtilbconikmpadaaGreatG10
import Derived.Test.YtilbconikmpadaaGreatG11
set_option linter.all false
namespace Go.Fs
structure BA (n:Nat) where
 l:List Bool
 h:l.length = n
theorem BA.ext {n:Nat} {a b:BA n} (h:a.l = b.l):a = b:=by cases a; cases b; simp_all
instance {n:Nat}:Inhabited (BA n):=⟨⟨List.replicate n false,by simp⟩⟩
theorem zly:∀ (cs:List AV) (l:List Bool),zds cs = some l → cs = l.map AV.bool
 | [],l,h => by simp only [zds,czg] at h; subst h; rfl
 | c :: cs,l,h => by
  unfold zds at h
  split at h
  ·cases h; simp_all
  ·rename_i n r heq
   cases heq
   simp only [czr] at h
   obtain ⟨y,h1,rfl⟩:=h
   rw [zly _ _ h1]
   rfl
  ·cases h
theorem zlx (l:List Bool):zds (l.map AV.bool) = some l:=by
 induction l with
 | nil => rfl
 | cons x l ih => simp [zds,ih]
def zpA (n:Nat) (cs:List AV):Option (BA n) :=
 match zds cs with
 | some l => if h:l.length = n then some ⟨l,h⟩ else none
 | none => none
theorem zpz {n:Nat} {cs:List AV} {x:BA n} (h:zpA n cs = some x):cs = x.l.map AV.bool:=by
 unfold zpA at h
 split at h
 ·rename_i l hl
  split at h
  ·cases h; exact zly _ _ hl
  ·cases h
 ·cases h
theorem zpy {n:Nat} (x:BA n):zpA n (x.l.map AV.bool) = some x:=by
 unfold zpA
 rw [zlx]
 simp [x.h]
theorem zg4 {p:AV → Prop} (hp:∀ b,p (.bool b)) (l:List Bool):∀ c ∈ l.map AV.bool,p c:=fun c hc => by
 obtain ⟨b,_,rfl⟩:=czx.1 hc
 exact hp b
theorem zm4 (l:List Bool):∀ c ∈ l.map AV.bool,zbt 1 c:=zg4 (fun b => trivial) l
instance {n:Nat}:Enc (BA n) where
 enc x:=.agg (x.l.map AV.bool)
 dec
  | .agg cs => zpA n cs
  | _ => none
 law v x h:=by
  split at h
  ·rw [zpz h]
  ·cases h
 dep:=2
 ok x:=zm4 x.l
instance {n:Nat}:EncE (BA n) where
 cs x:=x.l.map AV.bool
 dcs cs:=zpA n cs
 law v x h:=zpz h
 inv x:=zpy x
 dep:=1
 sz:=n
 len x:=by simp [x.h]
 ok x:=zm4 x.l
section
variable {n:Nat}
theorem enc_ba (x:BA n):Enc.enc x = .agg (x.l.map AV.bool):=rfl
theorem cs_ba (x:BA n):EncE.cs x = x.l.map AV.bool:=rfl
theorem dec_ba (cs:List AV):(Enc.dec (.agg cs):Option (BA n)) = zpA n cs:=rfl
theorem dcs_ba (cs:List AV):(EncE.dcs cs:Option (BA n)) = zpA n cs:=rfl
theorem dep_ba:EncE.dep (BA n) = 1:=rfl
theorem sz_ba:EncE.sz (BA n) = n:=rfl
theorem eta_ba (x:BA n):(⟨x.l,x.h⟩:BA n) = x:=rfl
end
structure Ch where
 row:Int
 hours:Int
 rot:Int
instance:Inhabited Ch:=⟨⟨0,0,0⟩⟩
instance:Enc Ch where
 enc m:=.agg [.int .i64 m.row,.int .i64 m.hours,.int .i64 m.rot]
 dec
  | .agg [.int .i64 a,.int .i64 b,.int .i64 c] => some ⟨a,b,c⟩
  | _ => none
 law v x h:=by
  split at h
  ·cases h; rfl
  ·cases h
 dep:=2
 ok x:=by simp [zbt]
instance:EncE Ch where
 cs m:=[.int .i64 m.row,.int .i64 m.hours,.int .i64 m.rot]
 dcs
  | [.int .i64 a,.int .i64 b,.int .i64 c] => some ⟨a,b,c⟩
  | _ => none
 law v x h:=by
  split at h
  ·cases h; rfl
  ·cases h
 inv _:=rfl
 dep:=1
 sz:=3
 len _:=rfl
 ok x:=by simp [zbt]
theorem enc_ch (m:Ch):Enc.enc m = .agg [.int .i64 m.row,.int .i64 m.hours,.int .i64 m.rot]:=rfl
theorem cs_ch (m:Ch):EncE.cs m = [.int .i64 m.row,.int .i64 m.hours,.int .i64 m.rot]:=rfl
theorem dec_ch (a b c:Int):(Enc.dec (.agg [.int .i64 a,.int .i64 b,.int .i64 c]):Option Ch) = some ⟨a,b,c⟩:=rfl
theorem dcs_ch (a b c:Int):(EncE.dcs [.int .i64 a,.int .i64 b,.int .i64 c]:Option Ch) = some ⟨a,b,c⟩:=rfl
theorem dep_ch:EncE.dep Ch = 1:=rfl
theorem sz_ch:EncE.sz Ch = 3:=rfl
theorem eta_ch (r:Ch):(⟨r.row,r.hours,r.rot⟩:Ch) = r:=rfl
structure Sy where
 wet:Int
 rot:Int
 free:List Int
instance:Inhabited Sy:=⟨⟨0,0,[]⟩⟩
instance:Enc Sy where
 enc m:=.agg [.int .i64 m.wet,.int .i64 m.rot,.sl (m.free.map EncE.cs) .no]
 dec
  | .agg [.int .i64 a,.int .i64 b,.sl es .no] => (zdS es:Option (List Int)).map fun c => ⟨a,b,c⟩
  | _ => none
 law v x h:=by
  split at h
  ·simp only [czr] at h
   obtain ⟨c,h1,rfl⟩:=h
   rw [zbw _ _ h1]
  ·cases h
 dep:=3
 ok x:=by
  simp only [zbt,czn,czk,or_false,forall_eq_or_imp,forall_eq,true_and,czx,forall_exists_index,and_imp,forall_apply_eq_imp_iff₂]
  exact fun a _ => EncE.ok a
instance:EncE Sy where
 cs m:=[.int .i64 m.wet,.int .i64 m.rot,.sl (m.free.map EncE.cs) .no]
 dcs
  | [.int .i64 a,.int .i64 b,.sl es .no] => (zdS es:Option (List Int)).map fun c => ⟨a,b,c⟩
  | _ => none
 law v x h:=by
  split at h
  ·simp only [czr] at h
   obtain ⟨c,h1,rfl⟩:=h
   rw [zbw _ _ h1]
  ·cases h
 inv x:=by simp only [zdD,Option.map_some]
 dep:=2
 sz:=3
 len _:=rfl
 ok x:=by
  simp only [zbt,czn,czk,or_false,forall_eq_or_imp,forall_eq,true_and,czx,forall_exists_index,and_imp,forall_apply_eq_imp_iff₂]
  exact fun a _ => EncE.ok a
theorem enc_sy (m:Sy):Enc.enc m = .agg [.int .i64 m.wet,.int .i64 m.rot,.sl (m.free.map EncE.cs) .no]:=rfl
theorem cs_sy (m:Sy):EncE.cs m = [.int .i64 m.wet,.int .i64 m.rot,.sl (m.free.map EncE.cs) .no]:=rfl
theorem dec_sy (a b:Int) (es:List (List AV)):(Enc.dec (.agg [.int .i64 a,.int .i64 b,.sl es .no]):Option Sy) = (zdS es:Option (List Int)).map fun c => ⟨a,b,c⟩:=rfl
theorem dcs_sy (a b:Int) (es:List (List AV)):(EncE.dcs [.int .i64 a,.int .i64 b,.sl es .no]:Option Sy) = (zdS es:Option (List Int)).map fun c => ⟨a,b,c⟩:=rfl
theorem zui:EncE.dep Sy = 2:=rfl
theorem sz_sy:EncE.sz Sy = 3:=rfl
theorem eta_sy (r:Sy):(⟨r.wet,r.rot,r.free⟩:Sy) = r:=rfl
structure Sea where
 hs:List Int
 rows:List (BA 10)
instance:Inhabited Sea:=⟨⟨[],[]⟩⟩
def zjJ:List AV → Option Sea
 | [.sl a .no,.sl b .no] =>
  match (zdS a:Option (List Int)),(zdS b:Option (List (BA 10))) with
  | some a,some b => some ⟨a,b⟩
  | _,_ => none
 | _ => none
theorem zjg {cs:List AV} {s:Sea} (h:zjJ cs = some s):cs = [.sl (s.hs.map EncE.cs) .no,.sl (s.rows.map EncE.cs) .no]:=by
 unfold zjJ at h
 split at h
 ·split at h
  ·rename_i h1 h2
   cases h
   rw [zbw _ _ h1,zbw _ _ h2]
  ·cases h
 ·cases h
theorem znp (s:Sea):∀ c ∈ ([.sl (s.hs.map EncE.cs) .no,.sl (s.rows.map EncE.cs) .no]:List AV),zbt 2 c:=by
 simp only [zbt,czn,czk,or_false,forall_eq_or_imp,forall_eq,true_and,czx,forall_exists_index,and_imp,forall_apply_eq_imp_iff₂]
 exact ⟨fun a _ => EncE.ok a,fun a _ => EncE.ok a⟩
instance:Enc Sea where
 enc s:=.agg [.sl (s.hs.map EncE.cs) .no,.sl (s.rows.map EncE.cs) .no]
 dec
  | .agg cs => zjJ cs
  | _ => none
 law v x h:=by
  split at h
  ·rw [zjg h]
  ·cases h
 dep:=3
 ok:=znp
instance:EncE Sea where
 cs s:=[.sl (s.hs.map EncE.cs) .no,.sl (s.rows.map EncE.cs) .no]
 dcs:=zjJ
 law v x h:=zjg h
 inv x:=by simp only [zjJ,zdD]
 dep:=2
 sz:=2
 len _:=rfl
 ok:=znp
theorem enc_sea (s:Sea):Enc.enc s = .agg [.sl (s.hs.map EncE.cs) .no,.sl (s.rows.map EncE.cs) .no]:=rfl
theorem cs_sea (s:Sea):EncE.cs s = [.sl (s.hs.map EncE.cs) .no,.sl (s.rows.map EncE.cs) .no]:=rfl
theorem dec_sea (a b:List (List AV)):(Enc.dec (.agg [.sl a .no,.sl b .no]):Option Sea) = match (zdS a:Option (List Int)),(zdS b:Option (List (BA 10))) with
  | some a,some b => some ⟨a,b⟩
  | _,_ => none:=rfl
theorem dcs_sea (a b:List (List AV)):(EncE.dcs [.sl a .no,.sl b .no]:Option Sea) = match (zdS a:Option (List Int)),(zdS b:Option (List (BA 10))) with
  | some a,some b => some ⟨a,b⟩
  | _,_ => none:=rfl
theorem zf7:EncE.dep Sea = 2:=rfl
theorem sz_sea:EncE.sz Sea = 2:=rfl
theorem eta_sea (s:Sea):(⟨s.hs,s.rows⟩:Sea) = s:=rfl
structure Yd where
 t:Tb
 hands:Int
 chairs:List Ch
 order:List Int
 hires:List Rg
def ydC (y:Yd):List AV:=[.int .i64 y.t.last,.sl (y.t.heights.map EncE.cs) .no,.int .i64 y.t.step,.sl (y.t.levels.map EncE.cs) .no,.sl (y.t.marks.map EncE.cs) .no,
 .int .i64 y.hands,.sl (y.chairs.map EncE.cs) .no,.sl (y.order.map EncE.cs) .no,.sl (y.hires.map EncE.cs) .no]
def zjY:List AV → Option Yd
 | [.int .i64 a,.sl b .no,.int .i64 c,.sl d .no,.sl e .no,.int .i64 f,.sl g .no,.sl h .no,.sl i .no] =>
  match (zdS b:Option (List Rg)),(zdS d:Option (List Int)),(zdS e:Option (List Mk)),(zdS g:Option (List Ch)),(zdS h:Option (List Int)),(zdS i:Option (List Rg)) with
  | some b,some d,some e,some g,some h,some i => some ⟨⟨a,b,c,d,e⟩,f,g,h,i⟩
  | _,_,_,_,_,_ => none
 | _ => none
theorem zfM {cs:List AV} {y:Yd} (h:zjY cs = some y):cs = ydC y:=by
 unfold zjY at h
 split at h
 ·split at h
  ·rename_i h1 h2 h3 h4 h5 h6
   cases h
   rw [zbw _ _ h1,zbw _ _ h2,zbw _ _ h3,zbw _ _ h4,zbw _ _ h5,zbw _ _ h6]
   rfl
  ·cases h
 ·cases h
theorem zfS (y:Yd):∀ c ∈ ydC y,zbt 2 c:=by
 simp only [ydC,zbt,czn,czk,or_false,forall_eq_or_imp,forall_eq,true_and,czx,forall_exists_index,and_imp,forall_apply_eq_imp_iff₂]
 exact ⟨fun a _ => EncE.ok a,fun a _ => EncE.ok a,fun a _ => EncE.ok a,fun a _ => EncE.ok a,fun a _ => EncE.ok a,fun a _ => EncE.ok a⟩
instance:Enc Yd where
 enc y:=.agg (ydC y)
 dec
  | .agg cs => zjY cs
  | _ => none
 law v x h:=by
  split at h
  ·rw [zfM h]
  ·cases h
 dep:=3
 ok:=zfS
theorem enc_yd (y:Yd):Enc.enc y = .agg [.int .i64 y.t.last,.sl (y.t.heights.map EncE.cs) .no,.int .i64 y.t.step,.sl (y.t.levels.map EncE.cs) .no,.sl (y.t.marks.map EncE.cs) .no,
 .int .i64 y.hands,.sl (y.chairs.map EncE.cs) .no,.sl (y.order.map EncE.cs) .no,.sl (y.hires.map EncE.cs) .no]:=rfl
def zbY:=And.intro @zso (And.intro @zsq (And.intro @zsp (And.intro @zeL (And.intro @zsr (And.intro @zsn (And.intro @zkm (And.intro @znT (And.intro @enc_rg (And.intro @enc_mk (And.intro @enc_ch (And.intro @enc_sy (And.intro @enc_sea (And.intro @enc_ba (And.intro @zpv @enc_yd))))))))))))))
theorem dec_yd (a c f:Int) (b d e g h i:List (List AV)):(Enc.dec (.agg [.int .i64 a,.sl b .no,.int .i64 c,.sl d .no,.sl e .no,.int .i64 f,.sl g .no,.sl h .no,.sl i .no]):Option Yd) =
  match (zdS b:Option (List Rg)),(zdS d:Option (List Int)),(zdS e:Option (List Mk)),(zdS g:Option (List Ch)),(zdS h:Option (List Int)),(zdS i:Option (List Rg)) with
  | some b,some d,some e,some g,some h,some i => some ⟨⟨a,b,c,d,e⟩,f,g,h,i⟩
  | _,_,_,_,_,_ => none:=rfl
theorem eta_yd (y:Yd):(⟨⟨y.t.last,y.t.heights,y.t.step,y.t.levels,y.t.marks⟩,y.hands,y.chairs,y.order,y.hires⟩:Yd) = y:=rfl
theorem eta_yd' (y:Yd):(⟨y.t,y.hands,y.chairs,y.order,y.hires⟩:Yd) = y:=rfl
theorem zbf {n:Nat} {mem:List AObj} (l:List Bool):(l.map AV.bool).map (zcb (n + 1) mem) = l.map AV.bool:=by
 rw [List.map_map]; rfl
theorem za6 (l:List Bool):(l.map AV.bool).map AV.strip = l.map AV.bool:=by rw [List.map_map]; rfl
theorem zaZ (l:List Bool):(l.map AV.bool).map AV.strip1 = l.map AV.bool:=by rw [List.map_map]; rfl
theorem zbe (l:List Bool):(l.map AV.bool).map AV.soft = l.map AV.bool:=by rw [List.map_map]; rfl
theorem zbs {n:Nat} (l:List Bool):(∀ c ∈ l.map AV.bool,imm (n + 1) c) = True:=eq_true (zg4 (fun b => trivial) l)
theorem zbg {n:Nat} (l:List Bool):(∀ c ∈ l.map AV.bool,zjU (n + 1) c) = True:=eq_true (zg4 (fun b => trivial) l)
theorem zbq (l:List Bool):(∀ c ∈ l.map AV.bool,c.one = true) = True:=eq_true (zg4 (fun b => rfl) l)
theorem bel_bools {k n:Nat} (l:List Bool):(∀ c ∈ l.map AV.bool,bel k (n + 1) c) = True:=eq_true (zg4 (fun b => trivial) l)
theorem take_ba {n:Nat} (x:BA n):(x.l.map AV.bool).take n = x.l.map AV.bool:=cze (by simp [x.h])
theorem zrq {n:Nat} {mem:List AObj} (l:List Bool):(l.map AV.bool).map (zb1 (zcb (n + 1) mem) mem) = l.map AV.bool:=by
 rw [List.map_map]; rfl
theorem zwm {l:List Bool} {i:Nat} (h:i < l.length):(l.map AV.bool).getD i .undef = .bool (at_ l i):=by simp [at_,List.getD,h]
theorem zdropB:List.drop 10 [AV.bool false,AV.bool false,AV.bool false,AV.bool false,AV.bool false,AV.bool false,AV.bool false,AV.bool false,AV.bool false,AV.bool false] = []:=rfl
theorem zmB {l:List Bool} {i:Nat} (h:i < l.length) (v:Bool):zap (l.map AV.bool) i [.bool v] = (l.set i v).map AV.bool:=by
 unfold zap
 rw [← List.map_take,← List.map_drop,List.set_eq_take_append_cons_drop,if_pos h]
 simp
theorem over_at {a b c v:List AV} (h:v.length = b.length):zap (a ++ (b ++ c)) a.length v = a ++ (v ++ c):=by
 unfold zap
 rw [List.take_left,List.drop_append,czM (by omega),List.nil_append,Nat.add_sub_cancel_left,h,List.drop_left,czd]
theorem zjL {sz:Nat}:∀ es:List (List AV),(∀ e ∈ es,e.length = sz) → zdc sz es.length es.flatten = es
 | [],_ => rfl
 | e :: es,h => by
  have h0:=h e (by simp)
  simp only [cza,List.flatten_cons,zdc]
  rw [List.take_left' h0,List.drop_left' h0,zjL es (fun x hx => h x (by simp [hx]))]
theorem zvQ {mem:List AObj} {n m:Nat} {v:AV} (h:zbt n v) (hm:n ≤ m):zb1 (zcb m mem) mem v = v:=by
 have hp:=zij (mem:=mem) n m v h hm
 cases v <;> first | exact hp | (exfalso; cases n <;> simp [zbt] at h)
theorem zvG {α:Type} [EncE α] {mem:List AObj} {n:Nat} (h:EncE.dep α ≤ n) (l:List α):((l.map EncE.cs).flatten).map (zb1 (zcb n mem) mem) = (l.map EncE.cs).flatten:=by
 refine zcP fun c hc => ?_
 obtain ⟨e,he,hce⟩:=List.mem_flatten.1 hc
 obtain ⟨x,_,rfl⟩:=czx.1 he
 exact zvQ (EncE.ok x c hce) h
theorem zwQ {k n:Nat} (p q:Prop):(∀ c:AV,(p → AV.bool false = c → bel k (n + 1) c) ∧ (q → AV.bool true = c → bel k (n + 1) c)) = True:=eq_true fun c => ⟨fun _ e => e ▸ trivial,fun _ e => e ▸ trivial⟩
theorem zwP {k n:Nat} (p q:Prop):(∀ c:AV,p ∧ AV.bool false = c ∨ q ∧ AV.bool true = c → bel k (n + 1) c) = True:=eq_true fun c h => by
 rcases h with ⟨_,e⟩ | ⟨_,e⟩ <;> subst e <;> trivial
def za4:=And.intro @zn0 (And.intro @cs_arr (And.intro @zsv (And.intro @zeI (And.intro @zsB (And.intro @zsA (And.intro @cs_rg (And.intro @cs_mk (And.intro @cs_ch (And.intro @cs_sy (And.intro @cs_sea (And.intro @cs_ba (And.intro @zcn (And.intro @zdT (And.intro @zlo (And.intro @znW (And.intro @znV (And.intro @dep_rg (And.intro @dep_mk (And.intro @dep_ch (And.intro @zui (And.intro @zf7 (And.intro @dep_ba (And.intro @znZ (And.intro @zuv (And.intro @zuu (And.intro @zpN (And.intro @bel_int (And.intro @zpP (And.intro @zus (And.intro @zut (And.intro @zsT (And.intro @zsU (And.intro @bel_mp (And.intro @zsR (And.intro @bel_agg (And.intro @bel_tup (And.intro @zsS (And.intro @zur (And.intro @bel_mpr (And.intro @bel_fn (And.intro @zm7 (And.intro @zlA (And.intro @zlz (And.intro @zlB (And.intro @zm8 (And.intro @zbp (And.intro @zdd (And.intro @zdx (And.intro @zbF (And.intro @zdo (And.intro @ziU (And.intro @zcD (And.intro @bel_vec (And.intro @bel_vp (And.intro @zpQ (And.intro @zuw (And.intro @bel_bools (And.intro @zwQ @zwP))))))))))))))))))))))))))))))))))))))))))))))))))))))))))
attribute [go_sem] enc_ba cs_ba dec_ba dcs_ba dep_ba sz_ba eta_ba enc_ch cs_ch dec_ch dcs_ch dep_ch sz_ch eta_ch enc_sy cs_sy dec_sy dcs_sy zui sz_sy eta_sy enc_sea cs_sea dec_sea dcs_sea zf7 sz_sea eta_sea enc_yd dec_yd eta_yd eta_yd' zds zlx zpy zbf za6 zaZ zbe zbs zbg zbq take_ba zrq zdropB
end Go.Fs
namespace Go.Fs
def zlT (W:Nat → Bool) (r h:Nat):Bool:=(List.range r).all fun k => W (h - k)
def zeP (W:Nat → Bool) (r:Nat):Nat → Option Nat
 | 0 => none
 | k + 1 => match zeP W r k with
  | some h => some h
  | none => if decide (r ≤ k + 1) && zlT W r k then some k else none
def zgn (W:Nat → Bool) (r n:Nat):Nat:=(zeP W r n).getD n
theorem zgG {W:Nat → Bool} {r:Nat}:∀ {k h:Nat},zeP W r k = some h → h < k
 | 0,h,e => by cases e
 | k + 1,h,e => by
  unfold zeP at e
  cases c:zeP W r k with
  | some h' =>
   rw [c] at e
   have:=zgG c
   cases e; omega
  | none =>
   rw [c] at e
   simp only at e
   split at e
   ·cases e; omega
   ·cases e
theorem zoH {W:Nat → Bool} {r k h:Nat} (e:zeP W r k = some h):∀ m,zeP W r (k + m) = some h
 | 0 => e
 | m + 1 => by
  show zeP W r (k + m + 1) = some h
  unfold zeP
  rw [zoH e m]
theorem zhf {W:Nat → Bool} {r k n h:Nat} (hk:k ≤ n) (e:zeP W r k = some h):zeP W r n = some h:=by
 have:=zoH e (n - k)
 rwa [show k + (n - k) = n by omega] at this
theorem zib {W:Nat → Bool} {r:Nat}:∀ k,k < r → zeP W r k = none
 | 0,_ => rfl
 | k + 1,h => by
  unfold zeP
  rw [zib k (by omega),if_neg]
  simp; omega
theorem zoI {W:Nat → Bool} {r k n h:Nat} (e:zeP W r n = some h) (hk:h < k) (hkn:k ≤ n):zeP W r k = some h:=by
 cases c:zeP W r k with
 | some h' => rw [zhf hkn c] at e; exact e
 | none =>
  exfalso
  have key:∀ m,zeP W r (k + m) = some h → False:=by
   intro m
   induction m with
   | zero => intro q; rw [Nat.add_zero,c] at q; cases q
   | succ m ih =>
    intro q
    rw [← Nat.add_assoc] at q
    unfold zeP at q
    cases c2:zeP W r (k + m) with
    | some h2 => rw [c2] at q; cases q; exact ih c2
    | none =>
     rw [c2] at q
     simp only at q
     split at q
     ·cases q; omega
     ·cases q
  have:=key (n - k)
  rw [show k + (n - k) = n by omega] at this
  exact this e
theorem rotR_le (W:Nat → Bool) (r n:Nat):zgn W r n ≤ n:=by
 unfold zgn
 cases c:zeP W r n with
 | none => exact czf _
 | some h => have:=zgG c; simp; omega
def zkI (W:Nat → Bool):Nat → Nat
 | 0 => 0
 | k + 1 => if W k then zkI W k + 1 else 0
theorem runW_le (W:Nat → Bool):∀ k,zkI W k ≤ k
 | 0 => czf _
 | k + 1 => by
  unfold zkI
  have:=runW_le W k
  split <;> omega
theorem zka (W:Nat → Bool):∀ (r k:Nat),1 ≤ r → (r ≤ zkI W (k + 1) ↔ r ≤ k + 1 ∧ zlT W r k = true)
 | 0,k,h => by omega
 | 1,k,_ => by
  unfold zkI
  cases c:W k
  ·simp [zlT,c]
  ·simp [zlT,c]
 | r + 2,0,_ => by
  unfold zkI zkI
  split <;> omega
 | r + 2,k + 1,_ => by
  have ih:=zka W (r + 1) k (by omega)
  have e:zlT W (r + 2) (k + 1) = (W (k + 1) && zlT W (r + 1) k):=by
   unfold zlT
   rw [List.range_succ_eq_map,List.all_cons,List.all_map]
   congr 1
   have:(fun k_1 => W (k + 1 - k_1)) ∘ Nat.succ = fun j => W (k - j):=by
    funext j
    show W (k + 1 - (j + 1)) = W (k - j)
    congr 1
    omega
   rw [this]
  rw [e]
  show r + 2 ≤ (if W (k + 1) then zkI W (k + 1) + 1 else 0) ↔ _
  cases c:W (k + 1)
  ·simp
  ·simp only [if_true,Bool.true_and]
   rw [show r + 2 ≤ zkI W (k + 1) + 1 ↔ r + 1 ≤ zkI W (k + 1) by omega,ih]
   constructor
   ·rintro ⟨h1,h2⟩; exact ⟨by omega,h2⟩
   ·rintro ⟨h1,h2⟩; exact ⟨by omega,h2⟩
def zrw (W:Nat → Bool) (r:Int) (n:Nat):Nat → Int
 | 0 => n
 | k + 1 => if W k && decide ((zkI W (k + 1):Int) = r) then min (zrw W r n k) k else zrw W r n k
theorem zrv {W:Nat → Bool} {r n:Nat} (hr:1 ≤ r):∀ k,k ≤ n → zrw W r n k = (((zeP W r k).getD n:Nat):Int)
 | 0,_ => rfl
 | k + 1,hk => by
  have ih:=zrv (W:=W) (n:=n) hr k (by omega)
  unfold zrw zeP
  rw [ih]
  cases c:zeP W r k with
  | some h =>
   have:=zgG c
   simp only [Option.getD_some]
   split <;> omega
  | none =>
   simp only [Option.getD_none]
   have hi:=zka W r k hr
   have hlt:k = 0 ∨ zkI W k < r:=by
    by_cases q:zkI W k < r
    ·exact .inr q
    ·left
     cases k with
     | zero => rfl
     | succ k =>
      exfalso
      obtain ⟨h1,h2⟩:=(zka W r k hr).1 (by omega)
      unfold zeP at c
      cases c2:zeP W r k with
      | some h => rw [c2] at c; cases c
      | none => rw [c2] at c; simp [h1,h2] at c
   by_cases q:decide (r ≤ k + 1) && zlT W r k
   ·rw [if_pos q]
    have q':=q
    simp only [czl,decide_eq_true_eq] at q'
    have h1:=hi.2 q'
    have h2:W k = true ∧ zkI W (k + 1) = r:=by
     unfold zkI at h1 ⊢
     cases c3:W k
     ·rw [c3] at h1; simp at h1; omega
     ·rw [c3] at h1
      simp only [if_true] at h1 ⊢
      refine ⟨trivial,?_⟩
      rcases hlt with rfl | h
      ·simp [zkI] at h1 ⊢; omega
      ·omega
    rw [h2.1,h2.2]
    simp; omega
   ·rw [if_neg q,if_neg]
    ·rfl
    ·intro h
     simp only [czl,decide_eq_true_eq] at h
     apply q
     simp only [czl,decide_eq_true_eq]
     exact hi.1 (by omega)
def zd0 (W:Nat → Bool):Nat → Int
 | 0 => -1
 | k + 1 => if W k then k else zd0 W k
theorem zkg (W:Nat → Bool):∀ k,-1 ≤ zd0 W k ∧ zd0 W k < k
 | 0 => by simp [zd0]
 | k + 1 => by
  unfold zd0
  have:=zkg W k
  split <;> omega
def zl8 (W:Nat → Bool) (rot:Nat) (hours:Int) (h:Nat):Bool:=!W h && (decide (h < rot) && (decide (zd0 W h < 0) || decide (hours < h - zd0 W h)))
def zl6 (W:Nat → Bool) (n:Nat):Int:=(((List.range n).filter W).length:Nat)
def zfH (W:Nat → Bool) (rot:Nat) (hours:Int) (n:Nat):List Int:=((List.range n).filter (zl8 W rot hours)).map fun h:Nat => (h:Int)
theorem zlq (W:Nat → Bool) (n:Nat):zl6 W (n + 1) = if W n then zl6 W n + 1 else zl6 W n:=by
 unfold zl6
 rw [List.range_succ,List.filter_append,czc]
 cases c:W n <;> simp [c]
theorem cntW_bd (W:Nat → Bool) (n:Nat):0 ≤ zl6 W n ∧ zl6 W n ≤ n:=by
 unfold zl6
 have:=List.length_filter_le W (List.range n)
 simp at this
 omega
theorem zwo (W:Nat → Bool) (rot:Nat) (hours:Int) (n:Nat):zfH W rot hours (n + 1) = if zl8 W rot hours n then zfH W rot hours n ++ [(n:Int)] else zfH W rot hours n:=by
 unfold zfH
 rw [List.range_succ,List.filter_append,List.map_append]
 cases c:zl8 W rot hours n <;> simp [c]
theorem zlf (W:Nat → Bool) (rot:Nat) (hours:Int) (n:Nat):(zfH W rot hours n).length ≤ n:=by
 unfold zfH
 have:=List.length_filter_le (zl8 W rot hours) (List.range n)
 simp at this ⊢
 omega
theorem zgN {W:Nat → Bool} {rot:Nat} {hours:Int} {n:Nat} {x:Int}:x ∈ zfH W rot hours n ↔ ∃ h:Nat,h < n ∧ zl8 W rot hours h = true ∧ x = h:=by
 unfold zfH
 simp only [czx,List.mem_filter,List.mem_range]
 constructor
 ·rintro ⟨h,⟨h1,h2⟩,rfl⟩; exact ⟨h,h1,h2,rfl⟩
 ·rintro ⟨h,h1,h2,rfl⟩; exact ⟨h,⟨h1,h2⟩,rfl⟩
theorem zl2 {W:Nat → Bool} {rot:Nat} {hours:Int} {n:Nat} {h:Nat} (hh:h < n):(zfH W rot hours n).contains (h:Int) = zl8 W rot hours h:=by
 rw [Bool.eq_iff_iff]
 simp only [List.contains_eq_mem,decide_eq_true_eq]
 rw [zgN]
 constructor
 ·rintro ⟨k,_,h2,e⟩
  rwa [show h = k by omega]
 ·intro q; exact ⟨h,hh,q,rfl⟩
def syW (W:Nat → Bool) (c:Ch) (n:Nat):Sy:=⟨zl6 W n,(zgn W c.rot.toNat n:Nat),zfH W (zgn W c.rot.toNat n) c.hours n⟩
theorem rotP_last {W:Nat → Bool} {r n k:Nat} (hr:1 ≤ r) (hk:k < n) (hw:W k = false):decide ((k:Int) < zrw W r n k) = decide (k < zgn W r n):=by
 rw [zrv hr k (by omega)]
 unfold zgn
 cases c:zeP W r n with
 | some h =>
  have hh:=zgG c
  by_cases q:h < k
  ·rw [zoI c q (by omega)]
   simp
  ·have hne:h ≠ k:=by
    rintro rfl
    have:=zoI c (k:=h + 1) (by omega) (by omega)
    unfold zeP at this
    cases c2:zeP W r h with
    | some h2 =>
     rw [c2] at this
     have:=zgG c2
     simp_all
    | none =>
     rw [c2] at this
     simp only at this
     split at this
     ·rename_i q2
      simp only [czl,decide_eq_true_eq] at q2
      have h3:=(zka W r h hr).2 q2
      unfold zkI at h3
      rw [hw] at h3
      simp at h3
      omega
     ·cases this
   have hn:zeP W r k = none:=by
    cases c2:zeP W r k with
    | none => rfl
    | some h2 =>
     have h3:=zgG c2
     have:=zhf (n:=n) (by omega) c2
     rw [c] at this
     cases this
     omega
   rw [hn]
   simp; omega
 | none =>
  have hn:zeP W r k = none:=by
   cases c2:zeP W r k with
   | none => rfl
   | some h2 => rw [zhf (by omega) c2] at c; cases c
  rw [hn]
  simp
theorem zoq {W V:Nat → Bool} {c:Ch} {n:Nat} (h:∀ k,k < n → W k = V k):syW W c n = syW V c n:=by
 have hall:∀ r k,k < n → zlT W r k = zlT V r k:=fun r k hk => by
  unfold zlT
  congr 1
  funext j
  exact h _ (by omega)
 have hrot:∀ r k,k ≤ n → zeP W r k = zeP V r k:=fun r k => by
  induction k with
  | zero => intro _; rfl
  | succ k ih =>
   intro hk
   unfold zeP
   rw [ih (by omega),hall r k (by omega)]
 have hlast:∀ k,k ≤ n → zd0 W k = zd0 V k:=fun k => by
  induction k with
  | zero => intro _; rfl
  | succ k ih =>
   intro hk
   unfold zd0
   rw [ih (by omega),h k (by omega)]
 have hR:zgn W c.rot.toNat n = zgn V c.rot.toNat n:=by unfold zgn; rw [hrot _ _ (czf _)]
 have hc:zl6 W n = zl6 V n:=by
  unfold zl6
  congr 2
  apply List.filter_congr
  intro k hk
  exact h k (by simpa using hk)
 have hf:zfH W (zgn V c.rot.toNat n) c.hours n = zfH V (zgn V c.rot.toNat n) c.hours n:=by
  unfold zfH
  congr 1
  apply List.filter_congr
  intro k hk
  have hk':k < n:=by simpa using hk
  unfold zl8
  rw [h k hk',hlast k (by omega)]
 unfold syW
 rw [hR,hc,hf]
end Go.Fs
namespace Go.Proofs
open Go.Fs
set_option maxHeartbeats 4000000
structure PS (n0:Nat) (P:(Nat → Prop) → Prop) (al:List Int) (q:List Int → Bool):Prop where
 mono:∀ S T:Nat → Prop,(∀ k,k < n0 → T k → S k) → P S → P T
 none:∀ S:Nat → Prop,(∀ k,k < n0 → ¬ S k) → P S
 can:∀ m:Nat,m < 2 ^ n0 → (canB al (m:Int) = true ↔ P (fun k => m.testBit k = true))
 cast:∀ l:List Nat,q (zbQ l) = true ↔ P (fun k => k ∉ l)
structure LeastG (n0:Nat) (P:(Nat → Prop) → Prop) (l:List Nat):Prop where
 inc:Inc 0 n0 l
 poss:P (fun k => k ∉ l)
 least:∀ l',Inc 0 n0 l' → P (fun k => k ∉ l') → zcA (zbQ l') (zbQ l) = false
theorem LeastG.eq {n0:Nat} {P:(Nat → Prop) → Prop} {a b:List Nat} (h1:LeastG n0 P a) (h2:LeastG n0 P b):a = b :=
 zlu (zh7 (h2.least a h1.inc h1.poss) (h1.least b h2.inc h2.poss))
theorem can_bitsG {n0:Nat} {P:(Nat → Prop) → Prop} {al:List Int} {q:List Int → Bool} (hv:PS n0 P al q) {b:Nat} (hb:b < 2 ^ n0):canB al (((2 ^ n0 - 1) - ((2 ^ n0 - 1) &&& b):Nat):Int) = true ↔ P (fun k => k ∉ zeF b n0):=by
 rw [hv.can _ (by have:=Nat.two_pow_pos n0; omega)]
 have key:∀ k,k < n0 → (((2 ^ n0 - 1) - ((2 ^ n0 - 1) &&& b)).testBit k = true ↔ k ∉ zeF b n0):=by
  intro k hk
  rw [zor rfl hb]
  unfold zeF
  rw [List.mem_filter,List.mem_range]
  simp [hk]
 exact ⟨fun h => hv.mono _ _ (fun k hk hS => (key k hk).2 hS) h,fun h => hv.mono _ _ (fun k hk hS => (key k hk).1 hS) h⟩
theorem ziH {n0:Nat} {P:(Nat → Prop) → Prop} {al:List Int} {q:List Int → Bool} (hv:PS n0 P al q):∀ n,n ≤ 2 ^ n0 → ∃ l,zhz al (2 ^ n0 - 1) n = zbQ l ∧ Inc 0 n0 l ∧ P (fun k => k ∉ l) ∧
  ∀ b,b < n → P (fun k => k ∉ zeF b n0) → zcA (zbQ (zeF b n0)) (zbQ l) = false
 | 0,_ => by
  have h2:=Nat.two_pow_pos n0
  refine ⟨zeF (2 ^ n0 - 1) n0,by rw [zhz,zm5 (n:=n0) (by omega)],zmD _ _,hv.none _ fun k hk => ?_,fun b hb => by omega⟩
  intro q
  apply q
  unfold zeF
  rw [List.mem_filter,List.mem_range,ze2]
  simpa using hk
 | n + 1,hn => by
  obtain ⟨l,h1,h2,h3,h4⟩:=ziH hv n (by omega)
  have hb:n < 2 ^ n0:=by omega
  have hc:=can_bitsG hv hb
  rw [zhz,h1,zm5 hb]
  cases c1:zcA (zbQ (zeF n n0)) (zbQ l)
  ·refine ⟨l,by rw [Bool.false_and,if_neg (by simp)],h2,h3,fun b hb hP => ?_⟩
   by_cases e:b = n
   ·subst e; exact c1
   ·exact h4 b (by omega) hP
  ·cases c2:canB al (((2 ^ n0 - 1) - ((2 ^ n0 - 1) &&& n):Nat):Int)
   ·refine ⟨l,by rw [Bool.true_and,if_neg (by simp)],h2,h3,fun b hb hP => ?_⟩
    by_cases e:b = n
    ·subst e
     rw [hc.2 hP] at c2; cases c2
    ·exact h4 b (by omega) hP
   ·refine ⟨zeF n n0,by rw [Bool.true_and,if_pos rfl],zmD _ _,hc.1 c2,fun b hb hP => ?_⟩
    by_cases e:b = n
    ·subst e; exact zlW _
    ·rw [Bool.eq_false_iff]
     intro q
     have:=h4 b (by omega) hP
     rw [znm q c1] at this
     cases this
theorem zdZ {n0:Nat} {P:(Nat → Prop) → Prop} {al:List Int} {q:List Int → Bool} (hv:PS n0 P al q):∃ l,zhz al (2 ^ n0 - 1) (2 ^ n0) = zbQ l ∧ LeastG n0 P l:=by
 obtain ⟨l,h1,h2,h3,h4⟩:=ziH hv _ (czf _)
 refine ⟨l,h1,h2,h3,fun l' hi hP => ?_⟩
 have:=h4 (zju l') (toBits_lt fun x hx => (hi.mem x hx).2)
 rw [zir hi] at this
 exact this hP
/-! The program's search. -/
def zc2 (q:List Int → Bool) (n0:Nat):Nat → List Nat → Nat → Option (List Nat)
 | 0,out,_ => if q (zbQ out) then some out else none
 | m + 1,out,frm => (List.range (n0 - m - frm)).findSome? fun k => zc2 q n0 m (out ++ [frm + k]) (frm + k + 1)
theorem zjB {n0:Nat} {P:(Nat → Prop) → Prop} {al:List Int} {q:List Int → Bool} (hv:PS n0 P al q):∀ (m:Nat) (out:List Nat) (frm:Nat),
  (∀ x,zc2 q n0 m out frm = some x → ∃ y,x = out ++ y ∧ Inc frm n0 y ∧ y.length = m ∧ q (zbQ x) = true ∧
   ∀ z,Inc frm n0 z → z.length = m → q (zbQ (out ++ z)) = true → zb8 (zbQ z) (zbQ y) = false) ∧
  (zc2 q n0 m out frm = none → ∀ z,Inc frm n0 z → z.length = m → q (zbQ (out ++ z)) = false)
 | 0,out,frm => by
  unfold zc2
  constructor
  ·intro x hx
   split at hx
   ·rename_i c
    cases hx
    refine ⟨[],by simp,trivial,rfl,c,fun z _ hz _ => ?_⟩
    rw [List.length_eq_zero_iff] at hz
    subst hz; rfl
   ·cases hx
  ·intro hx z _ hz
   rw [List.length_eq_zero_iff] at hz
   subst hz
   rw [List.append_nil]
   split at hx
   ·cases hx
   ·rename_i c; simpa using c
 | m + 1,out,frm => by
  have ih:=fun k => zjB hv m (out ++ [frm + k]) (frm + k + 1)
  have hz1:∀ z,Inc frm n0 z → z.length = m + 1 → ∃ a r,z = a :: r ∧ frm ≤ a ∧ a - frm < n0 - m - frm ∧ Inc (a + 1) n0 r ∧ r.length = m:=by
   intro z hz hl
   cases z with
   | nil => simp at hl
   | cons a r =>
    have hr:r.length = m:=by simpa using hl
    have h1:=hz.1
    refine ⟨a,r,rfl,h1.1,?_,hz.2,hr⟩
    by_cases e:r = []
    ·subst e; simp at hr; omega
    ·have:=hz.2.len e; omega
  unfold zc2
  constructor
  ·intro x hx
   rw [List.findSome?_eq_some_iff] at hx
   obtain ⟨l1,k,l2,hl,hk,hno⟩:=hx
   have hkk:l1 = List.range k ∧ k < n0 - m - frm:=by
    have h1:=congrArg List.length hl
    simp at h1
    have h3:=congrArg (fun l => l[l1.length]?) hl
    simp at h3
    rw [List.getElem?_range (by omega)] at h3
    have h4:l1.length = k:=by simpa using h3
    have h5:=congrArg (List.take l1.length) hl
    rw [List.take_left,List.take_range] at h5
    refine ⟨?_,by omega⟩
    rw [← h5]
    congr 1
    omega
   obtain ⟨y,h1,h2,h3,h4,h5⟩:=(ih k).1 x hk
   refine ⟨(frm + k) :: y,by rw [h1]; simp,⟨⟨by omega,by omega⟩,h2⟩,by simp [h3],h4,fun z hz hl hp => ?_⟩
   obtain ⟨a,r,rfl,g1,g2,g3,g4⟩:=hz1 z hz hl
   by_cases c:a - frm < k
   ·have:=(ih (a - frm)).2 (hno (a - frm) (by rw [hkk.1]; simpa using c)) r (by rw [show frm + (a - frm) + 1 = a + 1 by omega]; exact g3) g4
    rw [show frm + (a - frm) = a by omega,czd] at this
    rw [show out ++ a :: r = out ++ ([a] ++ r) from rfl,this] at hp
    cases hp
   ·show zb8 ((a:Int) :: zbQ r) (((frm + k:Nat):Int) :: zbQ y) = false
    unfold zb8
    by_cases e:a = frm + k
    ·subst e
     rw [if_pos rfl]
     refine h5 r g3 g4 ?_
     rw [czd]; exact hp
    ·rw [if_neg (by omega)]
     simp; omega
  ·intro hx z hz hl
   rw [List.findSome?_eq_none_iff] at hx
   obtain ⟨a,r,rfl,g1,g2,g3,g4⟩:=hz1 z hz hl
   have:=(ih (a - frm)).2 (hx (a - frm) (by simpa using g2)) r (by rw [show frm + (a - frm) + 1 = a + 1 by omega]; exact g3) g4
   rw [show frm + (a - frm) = a by omega,czd] at this
   exact this
def zhP (q:List Int → Bool) (n0:Nat):Nat → Nat → Option (List Nat)
 | 0,_ => none
 | f + 1,m => match zc2 q n0 m [] 0 with
  | some x => some x
  | none => zhP q n0 f (m + 1)
theorem ziG {n0:Nat} {P:(Nat → Prop) → Prop} {al:List Int} {q:List Int → Bool} (hv:PS n0 P al q):∀ (f m:Nat),m + f = n0 + 1 → (∀ z,Inc 0 n0 z → z.length < m → ¬ P (fun k => k ∉ z)) → ∃ x,zhP q n0 f m = some x ∧ LeastG n0 P x
 | 0,m,hf,hno => by
  exfalso
  refine hno (List.range n0) (zmP List.pairwise_lt_range fun x hx => by rw [List.mem_range] at hx; omega) (by simp; omega) (hv.none _ fun k hk q => q (by simpa using hk))
 | f + 1,m,hf,hno => by
  obtain ⟨h1,h2⟩:=zjB hv m [] 0
  unfold zhP
  cases c:zc2 q n0 m [] 0 with
  | some x =>
   obtain ⟨y,e,g1,g2,g3,g4⟩:=h1 x c
   rw [List.nil_append] at e
   subst e
   refine ⟨x,rfl,g1,(hv.cast x).1 g3,fun z hz hP => ?_⟩
   rw [Bool.eq_false_iff]
   intro q
   rw [zeZ] at q
   have hl:∀ l:List Nat,(zbQ l).length = l.length:=fun l => by simp [zbQ]
   rw [hl,hl] at q
   rcases q with q | ⟨q,q2⟩
   ·exact hno z hz (by omega) hP
   ·have:=g4 z hz (by omega) ((hv.cast _).2 hP)
    rw [this] at q2; cases q2
  | none =>
   refine ziG hv f (m + 1) (by omega) fun z hz hl hP => ?_
   by_cases e:z.length = m
   ·have:=h2 c z hz e
    rw [List.nil_append,(hv.cast z).2 hP] at this
    cases this
   ·exact hno z hz (by omega) hP
theorem zwb {n0:Nat} {P:(Nat → Prop) → Prop} {al:List Int} {q:List Int → Bool} (hv:PS n0 P al q):∃ x,zhP q n0 (n0 + 1) 0 = some x ∧ zhz al (2 ^ n0 - 1) (2 ^ n0) = zbQ x ∧ LeastG n0 P x:=by
 obtain ⟨x,h1,h2⟩:=ziG hv (n0 + 1) 0 (by omega) (fun z _ h => by omega)
 obtain ⟨l,g1,g2⟩:=zdZ hv
 have e:=h2.eq g2
 subst e
 exact ⟨x,h1,g1,g2⟩
theorem snoc_ind {α:Type} {P:List α → Prop} (h0:P []) (h1:∀ l x,P l → P (l ++ [x])):∀ l,P l:=by
 have key:∀ (n:Nat) (l:List α),l.length = n → P l:=by
  intro n
  induction n with
  | zero => intro l hl; rw [List.length_eq_zero_iff] at hl; rw [hl]; exact h0
  | succ n ih =>
   intro l hl
   have hne:l ≠ []:=by intro e; rw [e] at hl; simp at hl
   rw [← List.dropLast_concat_getLast hne]
   exact h1 _ _ (ih _ (by simp [hl]))
 exact fun l => key _ l rfl
def hrs (y:Yd):Nat:=(y.t.last + 1).toNat
def inY (hands:Int) (order:List Int) (c:Int) (h:Nat):Bool:=(order.take (hands * ((h:Int) + 1)).toNat).contains c
def lvY (y:Yd) (c:Int):Int:=at_ y.t.levels (at_ y.chairs c.toNat).row.toNat
def ziZ (y:Yd) (order hs:List Int) (c:Int) (h:Nat):Bool:=decide (lvY y c < at_ hs h) && !inY y.hands order c h
def znt (y:Yd) (order hs:List Int) (c:Int):Nat:=zgn (ziZ y order hs c) (at_ y.chairs c.toNat).rot.toNat (hrs y)
def zfO (y:Yd) (order hs:List Int) (c:Int) (h:Nat):Bool:=zl8 (ziZ y order hs c) (znt y order hs c) (at_ y.chairs c.toNat).hours h
def zbG (y:Yd) (order hs:List Int) (c:Int):Sy:=syW (ziZ y order hs c) (at_ y.chairs c.toNat) (hrs y)
theorem zil (y:Yd) (order hs:List Int) (c:Int):(zbG y order hs c).rot = znt y order hs c:=rfl
theorem zi5 (y:Yd) (order hs:List Int) (c:Int):(zbG y order hs c).free = zfH (ziZ y order hs c) (znt y order hs c) (at_ y.chairs c.toNat).hours (hrs y):=rfl
def za2 (n:Nat) (l:List Int):Bool:=(List.range l.length).all fun i => inB (at_ l i) 0 ((n:Int) - 1) && !(l.take i).contains (at_ l i)
theorem zlD {α:Type} [Inhabited α] {a b:List α} {i:Nat} (h:i < a.length):at_ (a ++ b) i = at_ a i:=by
 simp [at_,List.getD,czi h]
theorem zjk {α:Type} [Inhabited α] (a:List α) (x:α):at_ (a ++ [x]) a.length = x:=by simp [at_,List.getD]
theorem zjD (n:Nat) (l:List Int) (x:Int):za2 n (l ++ [x]) = (za2 n l && (inB x 0 ((n:Int) - 1) && !l.contains x)):=by
 unfold za2
 rw [czc,cza,czy,Nat.zero_add,List.range_succ,List.all_append]
 congr 1
 ·apply zdP
  intro i hi
  have hi':i < l.length:=by simpa using hi
  rw [zlD hi',List.take_append_of_le_length (by omega)]
 ·simp only [List.all_cons,List.all_nil,Bool.and_true]
  rw [zjk,List.take_left']
  rfl
theorem zf1 (n:Nat):∀ l:List Int,za2 n l = true ↔ (∀ x ∈ l,0 ≤ x ∧ x < n) ∧ l.Nodup:=by
 apply snoc_ind
 ·simp [za2]
 ·intro l x ih
  rw [zjD,czl,ih,czl,zbn]
  rw [List.nodup_append]
  simp only [czv,czC,Bool.not_eq_true',List.contains_eq_mem,decide_eq_false_iff_not]
  constructor
  ·rintro ⟨⟨h1,h2⟩,h3,h4⟩
   refine ⟨?_,h2,by simp,?_⟩
   ·rintro y (h | rfl)
    ·exact h1 y h
    ·omega
   ·rintro a ha b rfl e
    subst e
    exact h4 ha
  ·rintro ⟨h1,h2,_,h4⟩
   refine ⟨⟨fun y hy => h1 y (.inl hy),h2⟩,?_,?_⟩
   ·have:=h1 x (.inr rfl); omega
   ·intro hx; exact h4 x hx x rfl rfl
theorem zpi {n:Nat} {l:List Int} (h:za2 n l = true) (k:Nat):za2 n (l.take k) = true:=by
 rw [zf1] at h ⊢
 exact ⟨fun x hx => h.1 x (List.mem_of_mem_take hx),h.2.sublist (List.take_sublist _ _)⟩
theorem zkT:∀ (n:Nat) (l:List Int),(∀ x ∈ l,0 ≤ x ∧ x < (n:Int)) → l.Nodup → l.length ≤ n
 | 0,l,h,_ => by
  cases l with
  | nil => exact czf _
  | cons x r => have:=h x (by simp); omega
 | n + 1,l,h,hd => by
  have h1:=zkT n (l.erase (n:Int)) (fun x hx => by
   have hx':=List.mem_of_mem_erase hx
   have:=h x hx'
   have hne:x ≠ (n:Int):=by
    rintro rfl
    exact absurd hx (hd.not_mem_erase)
   omega) (hd.erase _)
  have h2:l.length ≤ (l.erase (n:Int)).length + 1:=by
   rw [List.length_erase]
   split <;> omega
  omega
theorem zev {n:Nat} {l:List Int} (h:za2 n l = true):l.length ≤ n:=by
 rw [zf1] at h
 exact zkT n l h.1 h.2
structure VY (y:Yd):Prop where
 c5:y.chairs.length ≤ 5
 r5:y.hires.length ≤ 5
 f:zbl y.t = 0
 tr:zaC y.t ≠ []
 h0:0 ≤ y.hands
 h5:y.hands ≤ 5
 ord:za2 y.chairs.length y.order = true
 ch:∀ c ∈ y.chairs,(0 ≤ c.row ∧ c.row < y.t.levels.length) ∧ (0 ≤ c.hours ∧ c.hours ≤ 5) ∧ 1 ≤ c.rot ∧ c.rot ≤ 9
 hi:∀ h ∈ y.hires,(0 ≤ h.lo ∧ h.lo < y.chairs.length) ∧ 0 ≤ h.hi ∧ h.hi ≤ y.t.last
def zdw (t:Tb) (c:Ch):Bool:=inB c.row 0 ((t.levels.length:Int) - 1) && inB c.hours 0 5 && inB c.rot 1 9
def zfd (n:Nat) (last:Int) (h:Rg):Bool:=inB h.lo 0 ((n:Int) - 1) && inB h.hi 0 last
def zbB (y:Yd):Int :=
 if 5 < y.chairs.length ∨ 5 < y.hires.length then 3
 else if zbl y.t ≠ 0 then zbl y.t
 else if zaC y.t = [] then 11
 else if (inB y.hands 0 5 && za2 y.chairs.length y.order) = false then 1
 else if y.chairs.all (zdw y.t) = false then 1
 else if y.hires.all (zfd y.chairs.length y.t.last) = false then 1
 else 0
theorem zhG {y:Yd} (h:zbB y = 0):VY y:=by
 unfold zbB at h
 split at h
 ·cases h
 rename_i g1
 split at h
 ·exact absurd h ‹_›
 rename_i g2
 split at h
 ·cases h
 rename_i g3
 split at h
 ·cases h
 rename_i g4
 split at h
 ·cases h
 rename_i g5
 split at h
 ·cases h
 rename_i g6
 simp only [Bool.not_eq_false,czl,zbn,czG,zdw,zfd,ne_eq,Decidable.not_not] at g2 g4 g5 g6
 refine ⟨by omega,by omega,g2,g3,g4.1.1,g4.1.2,g4.2,fun c hc => ?_,fun h hh => ?_⟩
 ·have:=g5 c hc; omega
 ·have:=g6 h hh; omega
theorem VY.fault {y:Yd} (h:VY y):zbB y = 0:=by
 have h1:=h.c5
 have h2:=h.r5
 unfold zbB
 rw [if_neg (by omega),if_neg (by simp [h.f]),if_neg h.tr,if_neg,if_neg,if_neg]
 ·simp only [Bool.not_eq_false,czG,zfd,czl,zbn]
  intro x hx
  have:=h.hi x hx
  omega
 ·simp only [Bool.not_eq_false,czG,zdw,czl,zbn]
  intro x hx
  have:=h.ch x hx
  omega
 ·simp only [Bool.not_eq_false,czl,zbn]
  exact ⟨⟨h.h0,h.h5⟩,h.ord⟩
theorem VY.fok {y:Yd} (h:VY y):FOk y.t:=fok_of h.f
theorem VY.l0 {y:Yd} (h:VY y):0 ≤ y.t.last ∧ y.t.last ≤ 9:=⟨h.fok.l0,h.fok.l9⟩
theorem VY.hrs {y:Yd} (h:VY y):((hrs y:Nat):Int) = y.t.last + 1 ∧ 1 ≤ hrs y ∧ hrs y ≤ 10:=by
 have:=h.l0
 unfold Go.Proofs.hrs
 omega
theorem VY.at {y:Yd} (h:VY y) {c:Int} (h0:0 ≤ c) (h1:c < y.chairs.length):c.toNat < y.chairs.length ∧ (0 ≤ (at_ y.chairs c.toNat).row ∧ (at_ y.chairs c.toNat).row < y.t.levels.length) ∧
  (0 ≤ (at_ y.chairs c.toNat).hours ∧ (at_ y.chairs c.toNat).hours ≤ 5) ∧ 1 ≤ (at_ y.chairs c.toNat).rot ∧ (at_ y.chairs c.toNat).rot ≤ 9:=by
 have hc:c.toNat < y.chairs.length:=by omega
 exact ⟨hc,h.ch _ (zbb hc)⟩
/-! Hires. -/
def rbp (p:Nat → Bool):Nat → Nat
 | 0 => 0
 | n + 1 => if p n then rbp p n ||| 2 ^ n else rbp p n
theorem zhL (p:Nat → Bool):∀ n k,(rbp p n).testBit k = (decide (k < n) && p k)
 | 0,k => by simp [rbp]
 | n + 1,k => by
  have ih:=zhL p n k
  unfold rbp
  by_cases e:k = n
  ·subst e
   cases c:p k
   ·simp only [czp,if_false,ih]; simp
   ·simp [Nat.testBit_or,ih,Nat.testBit_two_pow]
  ·have e1:decide (k < n + 1) = decide (k < n):=by simp; omega
   rw [e1]
   split
   ·rw [Nat.testBit_or,ih,Nat.testBit_two_pow]
    simp
    intro h; omega
   ·exact ih
def zcx (y:Yd) (hs:List Int) (k:Nat):Bool:=zfO y y.order hs (at_ y.hires k).lo (at_ y.hires k).hi.toNat
def zcG (y:Yd) (hs:List Int):Bool:=(List.range y.hires.length).all (zcx y hs)
def bitsY (y:Yd) (hs:List Int):Nat:=rbp (zcx y hs) y.hires.length
def zkh (y:Yd) (hs:List Int):Bool:=zbE y.t hs && zcG y hs
def zaJ (y:Yd):List (List Int):=(zaC y.t).filter (zcG y)
def allY (y:Yd):List Int:=(zaC y.t).map fun hs => (bitsY y hs:Int)
/-! Verdicts, hours, losses. -/
def zkZ (p:List Int → Bool) (ls:List (List Int)):Int:=((ls.filter p).length:Nat)
def zdR (y:Yd) (ls:List (List Int)) (order:List Int) (c hour:Int):Int :=
 if zkZ (fun hs => zfO y order hs c hour.toNat) ls = ls.length then 1 else if zkZ (fun hs => zfO y order hs c hour.toNat) ls = 0 then 2 else 3
def zeG (y:Yd) (ls:List (List Int)) (order:List Int) (c:Int):Rg:=ls.foldl (fun r hs => zdu r ((zbG y order hs c).free.length:Nat)) zjI
def zcM (y:Yd) (order hs:List Int) (n:Nat):Int:=(((List.range n).filter fun c:Nat => decide ((znt y order hs c:Int) ≤ y.t.last)).length:Nat)
def zb7 (y:Yd) (order hs:List Int):Int:=zcM y order hs y.chairs.length
def zgQ (y:Yd) (ls:List (List Int)) (order:List Int):Int:=ls.foldl (fun n hs => max n (zb7 y order hs)) 0
theorem zgF (y:Yd) (order hs:List Int) (n:Nat):zcM y order hs (n + 1) = if (znt y order hs n:Int) ≤ y.t.last then zcM y order hs n + 1 else zcM y order hs n:=by
 unfold zcM
 rw [List.range_succ,List.filter_append,czc]
 by_cases c:(znt y order hs n:Int) ≤ y.t.last <;> simp [c]
theorem zeO (y:Yd) (order hs:List Int) (n:Nat):0 ≤ zcM y order hs n ∧ zcM y order hs n ≤ n:=by
 unfold zcM
 have:=List.length_filter_le (fun c:Nat => decide ((znt y order hs c:Int) ≤ y.t.last)) (List.range n)
 simp at this
 omega
theorem zli {α:Type} (f:α → Int):∀ (l:List α) (n:Int),n ≤ l.foldl (fun n a => max n (f a)) n ∧ ∀ a ∈ l,f a ≤ l.foldl (fun n a => max n (f a)) n
 | [],n => ⟨Int.le_refl _,fun a h => by cases h⟩
 | x :: l,n => by
  obtain ⟨h1,h2⟩:=zli f l (max n (f x))
  refine ⟨by simp only [List.foldl_cons]; omega,fun a ha => ?_⟩
  simp only [List.foldl_cons]
  rcases czn.1 ha with rfl | h
  ·omega
  ·exact h2 a h
theorem zjH {α:Type} (f:α → Int):∀ (l:List α) (n:Int),l.foldl (fun n a => max n (f a)) n = n ∨ ∃ a ∈ l,l.foldl (fun n a => max n (f a)) n = f a
 | [],n => .inl rfl
 | x :: l,n => by
  rcases zjH f l (max n (f x)) with h | ⟨a,ha,h⟩
  ·simp only [List.foldl_cons]
   by_cases c:f x ≤ n
   ·left; rw [h]; omega
   ·right; exact ⟨x,by simp,by rw [h]; omega⟩
  ·right; exact ⟨a,by simp [ha],by simpa using h⟩
structure IsLoss (y:Yd) (ls:List (List Int)) (order:List Int) (m:Int):Prop where
 ex:∃ hs ∈ ls,zb7 y order hs = m
 le:∀ hs ∈ ls,zb7 y order hs ≤ m
theorem loss_is {y:Yd} {ls:List (List Int)} (h:ls ≠ []) (order:List Int):IsLoss y ls order (zgQ y ls order):=by
 obtain ⟨h1,h2⟩:=zli (fun hs => zb7 y order hs) ls 0
 refine ⟨?_,h2⟩
 rcases zjH (fun hs => zb7 y order hs) ls 0 with q | ⟨a,ha,q⟩
 ·cases ls with
  | nil => exact absurd rfl h
  | cons x r =>
   refine ⟨x,by simp,?_⟩
   have h3:=h2 x (by simp)
   have h4:=(zeO y order x y.chairs.length).1
   show zb7 y order x = List.foldl _ 0 _
   rw [q] at h3 ⊢
   unfold zb7 at h3 ⊢
   omega
 ·exact ⟨a,ha,q.symm⟩
theorem IsLoss.eq {y:Yd} {ls ls':List (List Int)} {order:List Int} {m m':Int} (h:IsLoss y ls order m) (h':IsLoss y ls' order m') (h1:∀ hs ∈ ls,∃ hs' ∈ ls',zb7 y order hs' = zb7 y order hs)
  (h2:∀ hs ∈ ls',∃ hs' ∈ ls,zb7 y order hs' = zb7 y order hs):m = m':=by
 obtain ⟨a,ha,e⟩:=h.ex
 obtain ⟨b,hb,e'⟩:=h'.ex
 obtain ⟨a',ha',g⟩:=h1 a ha
 obtain ⟨b',hb',g'⟩:=h2 b hb
 have:=h.le b' hb'
 have:=h'.le a' ha'
 omega
/-! Wet in fewer hours. -/
theorem zoJ {W V:Nat → Bool} {r r' n:Nat} (hr:r ≤ r') (h:∀ k,k < n → W k = true → V k = true):∀ k,k ≤ n → ∀ x,zeP W r' k = some x → ∃ z,z ≤ x ∧ zeP V r k = some z
 | 0,_,x,e => by cases e
 | k + 1,hk,x,e => by
  unfold zeP at e ⊢
  cases c:zeP W r' k with
  | some x' =>
   rw [c] at e
   cases e
   obtain ⟨z,h1,h2⟩:=zoJ hr h k (by omega) _ c
   rw [h2]
   exact ⟨z,h1,rfl⟩
  | none =>
   rw [c] at e
   simp only at e
   split at e
   ·rename_i q
    cases e
    simp only [czl,decide_eq_true_eq] at q
    cases c2:zeP V r k with
    | some z => exact ⟨z,by have:=zgG c2; omega,rfl⟩
    | none =>
     refine ⟨k,czf _,?_⟩
     simp only
     rw [if_pos]
     simp only [czl,decide_eq_true_eq]
     refine ⟨by omega,?_⟩
     have q2:=q.2
     unfold zlT at q2 ⊢
     rw [czG] at q2 ⊢
     intro j hj
     exact h _ (by omega) (q2 j (by simp at hj ⊢; omega))
   ·cases e
theorem zoG {W V:Nat → Bool} {r r' n:Nat} (hr:r ≤ r') (h:∀ k,k < n → W k = true → V k = true):zgn V r n ≤ zgn W r' n:=by
 unfold zgn
 cases c:zeP W r' n with
 | none => exact rotR_le V r n
 | some x =>
  obtain ⟨z,h1,h2⟩:=zoJ hr h n (czf _) x c
  rw [h2]; exact h1
theorem zmM {W V:Nat → Bool} {n:Nat} (h:∀ k,k < n → W k = true → V k = true):∀ k,k ≤ n → zd0 W k ≤ zd0 V k
 | 0,_ => Int.le_refl _
 | k + 1,hk => by
  have ih:=zmM h k (by omega)
  have hb:=zkg W k
  unfold zd0
  cases c:W k
  ·simp only [czp,if_false]
   split
   ·omega
   ·exact ih
  ·rw [h k (by omega) c]
   exact Int.le_refl _
theorem zpH {W V:Nat → Bool} {rw rv n:Nat} {hw hv:Int} (h:∀ k,k < n → W k = true → V k = true) (hr:rv ≤ rw) (hh:hw ≤ hv) {k:Nat} (hk:k < n) (hc:zl8 V rv hv k = true):zl8 W rw hw k = true:=by
 have hl:=zmM h k (by omega)
 unfold zl8 at hc ⊢
 simp only [czl,czI,decide_eq_true_eq,Bool.not_eq_true'] at hc ⊢
 refine ⟨?_,by omega,by omega⟩
 cases c:W k
 ·rfl
 ·rw [h k hk c] at hc; cases hc.1
theorem zpC {W V:Nat → Bool}:∀ n,(∀ k,k < n → W k = true → V k = true) → zl6 W n ≤ zl6 V n
 | 0,_ => Int.le_refl _
 | n + 1,h => by
  have ih:=zpC n (fun k hk => h k (by omega))
  rw [zlq,zlq]
  cases c:W n
  ·simp only [czp,if_false]
   split <;> omega
  ·rw [h n (by omega) c]
   simp only [if_true]
   omega
/-! The least loss. -/
structure MinLoss (y:Yd) (ls:List (List Int)) (b:List Int) (m:Int):Prop where
 ex:∃ x,za2 y.chairs.length (b ++ x) = true ∧ zgQ y ls (b ++ x) = m
 le:∀ x,za2 y.chairs.length (b ++ x) = true → m ≤ zgQ y ls (b ++ x)
theorem MinLoss.eq {y:Yd} {ls:List (List Int)} {b:List Int} {m m':Int} (h:MinLoss y ls b m) (h':MinLoss y ls b m'):m = m':=by
 obtain ⟨x,h1,h2⟩:=h.ex
 obtain ⟨x',h1',h2'⟩:=h'.ex
 have:=h.le x' h1'
 have:=h'.le x h1
 omega
def leastF (y:Yd) (ls:List (List Int)):Nat → List Int → Int
 | 0,b => zgQ y ls b
 | f + 1,b => (List.range y.chairs.length).foldl (fun best (c:Nat) => if (decide (0 < best) && za2 y.chairs.length (b ++ [(c:Int)])) = true then min best (leastF y ls f (b ++ [(c:Int)])) else best) (zgQ y ls b)
def leastY (y:Yd) (ls:List (List Int)) (b:List Int):Int:=leastF y ls (y.chairs.length - b.length) b
def permF (n:Nat):Nat → List Int → List (List Int)
 | 0,now => [now]
 | f + 1,now => (List.range n).flatMap fun c:Nat => if now.contains (c:Int) then [] else permF n f (now ++ [(c:Int)])
def tryP (f:List Int → Int) (a:List Int × Int) (p:List Int):List Int × Int:=if f p < a.2 then (p,f p) else a
def zi4 (t:Tb):Nat → List Int → List (List Int)
 | 0,p => if zfi t p then [p] else []
 | f + 1,p => (List.range (szR (at_ t.heights p.length)).toNat).flatMap fun n:Nat => zi4 t f (p ++ [(at_ t.heights p.length).lo + n])
def zhJ (t:Tb) (f:Nat) (p:List Int) (n:Nat):List (List Int):=(List.range n).flatMap fun n:Nat => zi4 t f (p ++ [(at_ t.heights p.length).lo + n])
theorem zi3 (t:Tb) (f:Nat) (p:List Int) (n:Nat):zhJ t f p (n + 1) = zhJ t f p n ++ zi4 t f (p ++ [(at_ t.heights p.length).lo + n]):=by
 simp only [zhJ,List.range_succ,List.flatMap_append,List.flatMap_cons,List.flatMap_nil,List.append_nil]
theorem zgz (t:Tb) (f:Nat) (p:List Int) (n:Nat):∀ k,∃ r,zhJ t f p (n + k) = zhJ t f p n ++ r
 | 0 => ⟨[],by simp⟩
 | k + 1 => by
  obtain ⟨r,hr⟩:=zgz t f p n k
  exact ⟨r ++ _,by rw [← Nat.add_assoc,zi3,hr,czd]⟩
theorem znG {t:Tb}:∀ (f:Nat) (b p:List Int),p ∈ zi4 t f b ↔ ∃ x,p = b ++ x ∧ x.length = f ∧ (∀ i,i < f → (at_ t.heights (b.length + i)).lo ≤ at_ x i ∧ at_ x i ≤ (at_ t.heights (b.length + i)).hi) ∧ zfi t p = true
 | 0,b,p => by
  unfold zi4
  constructor
  ·intro h
   split at h
   ·rename_i c
    simp only [czC] at h
    subst h
    exact ⟨[],by simp,rfl,fun i hi => by omega,c⟩
   ·cases h
  ·rintro ⟨x,rfl,hx,_,hp⟩
   rw [List.length_eq_zero_iff] at hx
   subst hx
   rw [List.append_nil] at hp ⊢
   rw [if_pos hp]
   simp
 | f + 1,b,p => by
  unfold zi4
  simp only [List.mem_flatMap,List.mem_range]
  constructor
  ·rintro ⟨n,hn,hp⟩
   obtain ⟨x,rfl,hx,hb,hpr⟩:=(znG f _ p).1 hp
   refine ⟨((at_ t.heights b.length).lo + n) :: x,by simp,by simp [hx],fun i hi => ?_,by simpa using hpr⟩
   cases i with
   | zero =>
    rw [zfm]
    unfold szR at hn
    simp only [Nat.add_zero]
    omega
   | succ i =>
    rw [zcX]
    have:=hb i (by omega)
    rw [czc,cza,czy,Nat.zero_add,show b.length + 1 + i = b.length + (i + 1) by omega] at this
    exact this
  ·rintro ⟨x,rfl,hx,hb,hp⟩
   cases x with
   | nil => simp at hx
   | cons a r =>
    have h0:=hb 0 (by omega)
    rw [zfm,Nat.add_zero] at h0
    have ea:(at_ t.heights b.length).lo + (((a - (at_ t.heights b.length).lo).toNat:Nat):Int) = a:=by omega
    refine ⟨(a - (at_ t.heights b.length).lo).toNat,by unfold szR; omega,?_⟩
    rw [ea]
    refine (znG f _ _).2 ⟨r,by simp,by simpa using hx,fun i hi => ?_,hp⟩
    have:=hb (i + 1) (by omega)
    rw [zcX] at this
    rw [czc,cza,czy,Nat.zero_add,show b.length + 1 + i = b.length + (i + 1) by omega]
    exact this
def zmq (t:Tb):List (List Int):=zi4 t (t.last + 1).toNat []
theorem ztT {t:Tb} (h:zbl t = 0) (p:List Int):zfi t p = zbE t p:=by unfold zfi; simp [h]
theorem zt4 {t:Tb} (h:zbl t = 0) (p:List Int):p ∈ zmq t ↔ p ∈ zaC t:=by
 have hf:=fok_of h
 unfold zmq
 rw [znG,zei hf.vok,ztT h]
 constructor
 ·rintro ⟨x,_,_,_,hp⟩; exact hp
 ·intro hp
  have hl:za3 t p = true:=by
   unfold zbE at hp
   simp only [czl] at hp
   exact hp.1
  have hL:=(zv8 p).1 hl
  have hlen:=zbI hl
  have:=hf.len
  refine ⟨p,by simp,by omega,fun i hi => ?_,hp⟩
  rw [czy,Nat.zero_add]
  exact hL.rng i (by omega)
theorem ztJ {t:Tb} (hok:HOk t):∀ (f:Nat) (p:List Int),p.length + f = t.heights.length → ((zi4 t f p).length:Int) ≤ zcI (t.heights.drop p.length)
 | 0,p,h => by
  rw [czM (by omega)]
  unfold zi4
  split <;> simp [zcI]
 | f + 1,p,h => by
  have hk:p.length < t.heights.length:=by omega
  have hp1:1 ≤ zcI (t.heights.drop (p.length + 1)):=zoQ fun r hr => (hok.h r (List.mem_of_mem_drop hr)).2.1
  have hr:=hok.h _ (zbb hk)
  have key:∀ n:Nat,((zhJ t f p n).length:Int) ≤ n * zcI (t.heights.drop (p.length + 1)):=by
   intro n
   induction n with
   | zero => simp [zhJ]
   | succ n ih =>
    rw [zi3,czc]
    have hb:((zi4 t f (p ++ [(at_ t.heights p.length).lo + (n:Int)])).length:Int) ≤ zcI (t.heights.drop (p.length + 1)):=by
     have:=ztJ hok f (p ++ [(at_ t.heights p.length).lo + (n:Int)]) (by simp; omega)
     simpa using this
    have e:((n + 1:Nat):Int) * zcI (t.heights.drop (p.length + 1)) = n * zcI (t.heights.drop (p.length + 1)) + zcI (t.heights.drop (p.length + 1)):=by
     rw [Int.natCast_add,Int.add_mul]; simp
    rw [e]
    omega
  have:=key (szR (at_ t.heights p.length)).toNat
  rw [show zi4 t (f + 1) p = zhJ t f p (szR (at_ t.heights p.length)).toNat from rfl,zgX hk]
  have e2:zcI (at_ t.heights p.length :: t.heights.drop (p.length + 1)) = szR (at_ t.heights p.length) * zcI (t.heights.drop (p.length + 1)):=rfl
  rw [e2]
  have e3:(((szR (at_ t.heights p.length)).toNat:Nat):Int) = szR (at_ t.heights p.length):=by unfold szR; omega
  rw [e3] at this
  exact this
theorem znq {t:Tb} (hv:VOk t):(zmq t).length ≤ 2000:=by
 have hl:=hv.last
 have:=ztJ hv.hok (t.last + 1).toNat [] (by simp; omega)
 obtain ⟨e1,e2⟩:=zfE t.heights (fun r hr => (hv.hok.h r hr).2.1) 1 (by omega) (by omega)
 have hm:=hv.many
 unfold zde at hm
 rw [e1] at hm
 simp only [czy,List.drop_zero] at this
 unfold zmq
 omega
/-! Hours in which rows are wet, by the program. -/
def rowB (hs:List Int) (lv:Int):List Bool:=(List.range 10).map fun i => decide (i < hs.length) && decide (lv < at_ hs i)
theorem ztQ (hs:List Int) (lv:Int):(rowB hs lv).length = 10:=by simp [rowB]
theorem zru {hs:List Int} {lv:Int} {i:Nat} (h:i < 10) (h':i < hs.length):at_ (rowB hs lv) i = decide (lv < at_ hs i):=by
 unfold rowB
 rw [zhu _ h]
 simp [h']
def zq0 (hs:List Int) (lv:Int):BA 10:=⟨rowB hs lv,ztQ hs lv⟩
def zbP (t:Tb) (hs:List Int):Sea:=⟨hs,t.levels.map (zq0 hs)⟩
def znr (y:Yd) (p q:List Int):Bool:=y.chairs.all fun c => decide (rowB p (at_ y.t.levels c.row.toNat) = rowB q (at_ y.t.levels c.row.toNat))
def zn2 (y:Yd) (a:List (List Int)) (p:List Int):List (List Int):=if a = [] ∨ znr y (at_ a (a.length - 1)) p = false then a ++ [p] else a
def zbd (y:Yd):List (List Int):=(zmq y.t).foldl (zn2 y) []
theorem zux {y:Yd} {a:List (List Int)} {p q:List Int} (h:q ∈ a):q ∈ zn2 y a p:=by
 unfold zn2
 split
 ·simp [h]
 ·exact h
theorem zlG (y:Yd):∀ (l a:List (List Int)),(∀ q ∈ a,q ∈ l.foldl (zn2 y) a) ∧ (∀ q ∈ l.foldl (zn2 y) a,q ∈ a ∨ q ∈ l) ∧ ∀ q ∈ l,∃ p ∈ l.foldl (zn2 y) a,p = q ∨ znr y p q = true
 | [],a => ⟨fun q h => h,fun q h => .inl h,fun q h => by cases h⟩
 | x :: l,a => by
  simp only [List.foldl_cons]
  obtain ⟨h1,h2,h3⟩:=zlG y l (zn2 y a x)
  refine ⟨fun q hq => h1 q (zux hq),fun q hq => ?_,fun q hq => ?_⟩
  ·rcases h2 q hq with h | h
   ·unfold zn2 at h
    split at h
    ·rcases czv.1 h with h | h
     ·exact .inl h
     ·simp at h; subst h; exact .inr (by simp)
    ·exact .inl h
   ·exact .inr (by simp [h])
  ·rcases czn.1 hq with rfl | hq
   ·by_cases c:a = [] ∨ znr y (at_ a (a.length - 1)) q = false
    ·exact ⟨q,h1 q (by unfold zn2; rw [if_pos c]; simp),.inl rfl⟩
    ·simp only [not_or,Bool.not_eq_false] at c
     refine ⟨at_ a (a.length - 1),h1 _ (zux (zbb ?_)),.inr c.2⟩
     have:=List.length_pos_iff.2 c.1
     omega
   ·exact h3 q hq
theorem zkp (y:Yd):∀ (l a:List (List Int)),(l.foldl (zn2 y) a).length ≤ a.length + l.length
 | [],a => by simp
 | x :: l,a => by
  have:=zkp y l (zn2 y a x)
  simp only [List.foldl_cons,cza]
  have h:(zn2 y a x).length ≤ a.length + 1:=by
   unfold zn2
   split <;> simp
  omega
theorem zwC {y:Yd} (hv:VOk y.t):(zbd y).length ≤ 2000:=by
 have h1:=zkp y (zmq y.t) []
 have h2:=znq hv
 unfold zbd
 simp at h1
 omega
structure Like (y:Yd) (p q:List Int):Prop where
 w:∀ c ∈ y.chairs,∀ h,h < hrs y → decide (at_ y.t.levels c.row.toNat < at_ p h) = decide (at_ y.t.levels c.row.toNat < at_ q h)
theorem zfy {y:Yd} (h:VY y) {p:List Int} (hp:p ∈ zaC y.t):p.length = hrs y:=by
 have h1:=zgu h.fok.vok hp
 have h2:=h.fok.len
 have h3:=h.hrs.1
 omega
theorem like_of {y:Yd} (h:VY y) {p q:List Int} (hp:p.length = hrs y) (hq:q.length = hrs y) (hs:znr y p q = true):Like y p q:=by
 refine ⟨fun c hc k hk => ?_⟩
 unfold znr at hs
 rw [czG] at hs
 have h1:=of_decide_eq_true (hs c hc)
 have h3:=h.hrs
 rw [← zru (by omega) (by omega),← zru (by omega) (by omega),h1]
theorem Like.refl (y:Yd) (p:List Int):Like y p p:=⟨fun _ _ _ _ => rfl⟩
theorem ziE {y:Yd} {p q:List Int} (h:Like y p q) (o:List Int) {c:Int} (hc:c.toNat < y.chairs.length):zbG y o p c = zbG y o q c:=by
 unfold zbG
 refine zoq fun k hk => ?_
 unfold ziZ lvY
 rw [h.w _ (zbb hc) k hk]
theorem play_eta {y:Yd} {p q o:List Int} {c:Int} (h:zbG y o p c = zbG y o q c):znt y o p c = znt y o q c ∧ (zbG y o p c).free = (zbG y o q c).free:=by
 have h1:(zbG y o p c).rot = (zbG y o q c).rot:=by rw [h]
 rw [zil,zil] at h1
 exact ⟨by omega,by rw [h]⟩
theorem zga {y:Yd} (o p:List Int) (c:Int) {k:Nat} (hk:k < hrs y):zfO y o p c k = (zbG y o p c).free.contains (k:Int):=by
 rw [zi5,zl2 hk]; rfl
theorem zr2 {y:Yd} (hv:VY y) {p q:List Int} (h:Like y p q):zcG y p = zcG y q:=by
 unfold zcG
 apply zdP
 intro k hk
 have hk':k < y.hires.length:=by simpa using hk
 have hh:=hv.hi _ (zbb hk')
 have h3:=hv.hrs
 unfold zcx
 rw [zga _ _ _ (by omega),zga _ _ _ (by omega),ziE h _ (by omega)]
theorem zr1 {y:Yd} {p q:List Int} (h:Like y p q) (o:List Int):zb7 y o p = zb7 y o q:=by
 unfold zb7 zcM
 congr 2
 apply List.filter_congr
 intro c hc
 have hc':c < y.chairs.length:=by simpa using hc
 rw [(play_eta (ziE h o (c:=c) (by omega))).1]
def zfv (y:Yd):List (List Int):=(zbd y).filter (zcG y)
theorem zb3 {y:Yd} {p:List Int}:p ∈ zaJ y ↔ p ∈ zaC y.t ∧ zcG y p = true:=List.mem_filter
theorem ziT {y:Yd} (hv:VY y) {p:List Int} (h:p ∈ zbd y):p ∈ zaC y.t:=by
 obtain ⟨_,h2,_⟩:=zlG y (zmq y.t) []
 rcases h2 p h with q | q
 ·cases q
 ·exact (zt4 hv.f p).1 q
theorem zm2 {y:Yd} (hv:VY y) {q:List Int} (h:q ∈ zaC y.t):∃ p ∈ zbd y,Like y p q:=by
 obtain ⟨_,_,h3⟩:=zlG y (zmq y.t) []
 obtain ⟨p,hp,e⟩:=h3 q ((zt4 hv.f q).2 h)
 refine ⟨p,hp,?_⟩
 rcases e with rfl | e
 ·exact .refl _ _
 ·exact like_of hv (zfy hv (ziT hv hp)) (zfy hv h) e
theorem zj2 {y:Yd} (hv:VY y) {p:List Int} (h:p ∈ zfv y):p ∈ zaJ y:=by
 obtain ⟨h1,h2⟩:=List.mem_filter.1 h
 exact zb3.2 ⟨ziT hv h1,h2⟩
theorem zkq {y:Yd} (hv:VY y) {q:List Int} (h:q ∈ zaJ y):∃ p ∈ zfv y,Like y p q:=by
 obtain ⟨h1,h2⟩:=zb3.1 h
 obtain ⟨p,hp,hl⟩:=zm2 hv h1
 exact ⟨p,List.mem_filter.2 ⟨hp,by rw [zr2 hv hl]; exact h2⟩,hl⟩
theorem zj1 {y:Yd} (hv:VY y):zfv y = [] ↔ zaJ y = []:=by
 constructor
 ·intro h
  cases c:zaJ y with
  | nil => rfl
  | cons q r =>
   obtain ⟨p,hp,_⟩:=zkq hv (q:=q) (by rw [c]; simp)
   rw [h] at hp; cases hp
 ·intro h
  cases c:zfv y with
  | nil => rfl
  | cons q r =>
   have:=zj2 hv (p:=q) (by rw [c]; simp)
   rw [h] at this; cases this
theorem work_loss {y:Yd} (hv:VY y) (h:zaJ y ≠ []) (o:List Int):zgQ y (zfv y) o = zgQ y (zaJ y) o:=by
 have h':zfv y ≠ []:=fun e => h ((zj1 hv).1 e)
 exact (loss_is h' o).eq (loss_is h o) (fun p hp => ⟨p,zj2 hv hp,rfl⟩) fun q hq => by
  obtain ⟨p,hp,hl⟩:=zkq hv hq
  exact ⟨p,hp,zr1 hl o⟩
set_option maxRecDepth 8000
theorem zpw (n lo hi:Int):zaU Tryz.prog 82 [Enc.enc n,Enc.enc lo,Enc.enc hi] (· = Enc.enc (inB n lo hi)):=by
 simp only [zbY]
 refine cpz P50_ok Tryz.func82 zaF ?_
 rw [Tryz.ntmps82]
 simp only [Tryz.f82,zah,zaq]
 simp (maxSteps:=4000000) only [go_sem,AV.one,zae,zac,zad,zap,zas,zab,czb,cza,↓reduceIte,zbf,zbs,za6,zaZ,zbe,zbg,zbq,zaa,zao,onz]
 rfl
theorem znU (l:List Int) (h:l ≠ [] ∧ l.length ≤ 4096):zaU Tryz.prog 159 [Enc.enc l] (· = Enc.enc (zt1 l)):=by
 simp only [zbY]
 refine cpz P50_ok Tryz.func159 zaF ?_
 rw [Tryz.ntmps159]
 simp only [Tryz.f159,zah,zaq]
 simp (maxSteps:=4000000) only [go_sem,AV.one,zae,zac,zad,zap,zas,zab,czb,cza,↓reduceIte,zbf,zbs,za6,zaZ,zbe,zbg,zbq,zaa,zao,onz]
 exact h
def P100 (g:FuncId):=(zax 82 (zeB (fun _ _ _ => True) inB) (zax 159 (zcU (fun l:List Int => l ≠ [] ∧ l.length ≤ 4096) zt1) (P50)):zaN) g
theorem zod:zaD Tryz.prog P100:=zaj (zcc fun a b c _ => zpw a b c) (zaj (zbm znU) (P50_ok))
theorem zqU (d:Option Nat):zaK P100 d = none:=(zai (by decide) d).trans ((zai (by decide) d).trans (zn8 d))
attribute [go_sem] P100 zqU
theorem zss (r:Rg) (n:Int):zaU Tryz.prog 140 [Enc.enc r,Enc.enc n] (· = Enc.enc (zdu r n)):=by
 simp only [zbY]
 refine cpz zod Tryz.func140 zaF ?_
 rw [Tryz.ntmps140]
 simp only [Tryz.f140,zah,zaq]
 simp (maxSteps:=4000000) only [go_sem,AV.one,zae,zac,zad,zap,zas,zab,czb,cza,↓reduceIte,zbf,zbs,za6,zaZ,zbe,zbg,zbq,zaa,zao,onz,ziu]
 exact ⟨rfl,by simp,rfl⟩
theorem zpk (y:Yd) (n:Int) (h:y.chairs.length ≤ 4096):zaU Tryz.prog 93 [Enc.enc y,Enc.enc n] (· = Enc.enc (inB n 0 ((y.chairs.length:Int) - 1))):=by
 simp only [zbY]
 refine cpz zod Tryz.func93 zaF ?_
 rw [Tryz.ntmps93]
 simp only [Tryz.f93,zah,zaq]
 simp (maxSteps:=4000000) only [go_sem,AV.one,zae,zac,zad,zap,zas,zab,czb,cza,↓reduceIte,zbf,zbs,za6,zaZ,zbe,zbg,zbq,zaa,zao,onz]
 all_goals exact auz
theorem zr5 (y:Yd) (n:Int):zaU Tryz.prog 94 [Enc.enc y,Enc.enc n] (· = Enc.enc (inB n 0 y.t.last)):=by
 simp only [zbY]
 refine cpz zod Tryz.func94 zaF ?_
 rw [Tryz.ntmps94]
 simp only [Tryz.f94,zah,zaq]
 simp (maxSteps:=4000000) only [go_sem,AV.one,zae,zac,zad,zap,zas,zab,czb,cza,↓reduceIte,zbf,zbs,za6,zaZ,zbe,zbg,zbq,zaa,zao,onz]
def P101 (g:FuncId):=(zax 140 (zbL (fun (_:Rg) (_:Int) => True) zdu) (zax 93 (zbL (fun (y:Yd) (_:Int) => y.chairs.length ≤ 4096) (fun y n => inB n 0 ((y.chairs.length:Int) - 1))) (zax 94 (zbL (fun (_:Yd) (_:Int) => True) (fun y n => inB n 0 y.t.last)) (P100))):zaN) g
theorem ztk:zaD Tryz.prog P101:=zaj (zaR fun r n _ => zss r n) (zaj (zaR zpk) (zaj (zaR fun y n _ => zr5 y n) (zod)))
theorem zqT (d:Option Nat):zaK P101 d = none:=(zai (by decide) d).trans ((zai (by decide) d).trans ((zai (by decide) d).trans (zqU d)))
attribute [go_sem] P101 zqT
theorem zwD (y:Yd) (c:Ch) (h:y.t.levels.length ≤ 4096):zaU Tryz.prog 79 [Enc.enc y,Enc.enc c] (· = Enc.enc (zdw y.t c)):=by
 simp only [zbY]
 refine cpz ztk Tryz.func79 zaF ?_
 rw [Tryz.ntmps79]
 simp only [Tryz.f79,zah,zaq]
 simp (maxSteps:=4000000) only [go_sem,AV.one,zae,zac,zad,zap,zas,zab,czb,cza,↓reduceIte,zbf,zbs,za6,zaZ,zbe,zbg,zbq,zaa,zao,onz]
 all_goals (repeat' first | (with_reducible first | rfl | apply And.intro | assumption) | ((with_reducible show zaf _ _ = true); rfl)) <;> try first | omega | (simp only [InR]; omega)
 rfl
theorem hire_call (y:Yd) (c:Rg) (h:y.chairs.length ≤ 4096):zaU Tryz.prog 80 [Enc.enc y,Enc.enc c] (· = Enc.enc (zfd y.chairs.length y.t.last c)):=by
 simp only [zbY]
 refine cpz ztk Tryz.func80 zaF ?_
 rw [Tryz.ntmps80]
 simp only [Tryz.f80,zah,zaq]
 simp (maxSteps:=4000000) only [go_sem,AV.one,zae,zac,zad,zap,zas,zab,czb,cza,↓reduceIte,zbf,zbs,za6,zaZ,zbe,zbg,zbq,zaa,zao,onz]
 all_goals (repeat' first | (with_reducible first | rfl | apply And.intro | assumption) | ((with_reducible show zaf _ _ = true); rfl)) <;> try first | omega | (simp only [InR]; omega)
 rfl
def P102 (g:FuncId):=(zax 79 (zbL (fun (y:Yd) (_:Ch) => y.t.levels.length ≤ 4096) (fun y c => zdw y.t c)) (zax 80 (zbL (fun (y:Yd) (_:Rg) => y.chairs.length ≤ 4096) (fun y c => zfd y.chairs.length y.t.last c)) (P101)):zaN) g
theorem P102_ok:zaD Tryz.prog P102:=zaj (zaR zwD) (zaj (zaR hire_call) (ztk))
theorem zqS (d:Option Nat):zaK P102 d = none:=(zai (by decide) d).trans ((zai (by decide) d).trans (zqT d))
attribute [go_sem] P102 zqS
theorem zs7 (x:Ch) (f:FnB 79 Yd) (hp:f.x.t.levels.length ≤ 4096):zaU Tryz.prog 132 [Enc.enc x,Enc.enc (RefC.mk f)] (· = Enc.enc (!zdw f.x.t x)):=by
 simp only [zbY]
 refine cpz P102_ok Tryz.func132 zaF ?_
 rw [Tryz.ntmps132]
 simp only [Tryz.f132,zah,zaq]
 simp (maxSteps:=4000000) only [go_sem,AV.one,zae,zac,zad,zap,zas,zab,czb,cza,↓reduceIte,zbf,zbs,za6,zaZ,zbe,zbg,zbq,zaa,zao,onz]
 all_goals exact auz
def P103 (g:FuncId):=(zax 132 (zbL (fun (_:Ch) (f:RefC (FnB 79 Yd)) => let f:=f.x; f.x.t.levels.length ≤ 4096) (fun (x:Ch) (f:RefC (FnB 79 Yd)) => let f:=f.x; !zdw f.x.t x)) (P102):zaN) g
theorem P103_ok:zaD Tryz.prog P103:=zaj (zaR fun x f h => zs7 x f.x h) (P102_ok)
theorem zqR (d:Option Nat):zaK P103 d = none:=(zai (by decide) d).trans (zqS d)
attribute [go_sem] P103 zqR
theorem zs4 (l:List (Ch)) (f:FnC 132 (FnB 79 Yd)) (h:l.length ≤ 4096 ∧ let f:=f.x; f.x.t.levels.length ≤ 4096):zaU Tryz.prog 161 [Enc.enc l,Enc.enc f] (· = Enc.enc (let f:=f.x; zbu (fun x => !zdw f.x.t x) l l.length 0)):=by
 obtain ⟨f⟩:=f
 obtain ⟨h,hp⟩:=h
 simp only at hp
 simp only [zbY]
 refine cpz P103_ok Tryz.func161 zaF ?_
 rw [Tryz.ntmps161]
 simp only [Tryz.f161,zah,zaq]
 simp (maxSteps:=4000000) only [go_sem,AV.one,zae,zac,zad,zap,zas,zab,czb,cza,↓reduceIte,zbf,zbs,za6,zaZ,zbe,zbg,zbq,zaa,zao,onz]
 refine zbA (l.length) [] [0,1,4,7] (fun i => [(8,.int .i64 i)]) (fun _ m => m) (fun i => zbu (fun x => !zdw f.x.t x) l (l.length - i) i = zbu (fun x => !zdw f.x.t x) l l.length 0) ?_ ?_ ?_ ?_
 ·rfl
 ·simp [AV.bare,zal,zaP,zaS,zak,zau,zag,tokz1,lk,zab,za4]
 ·intro i hi hI
  rw [show l.length - i = (l.length - (i + 1)) + 1 by omega,zbu] at hI
  cases c:zdw f.x.t (at_ l i) <;>
   simp (maxSteps:=4000000) only [go_sem,AV.one,zae,zac,zad,zap,zas,zab,czb,cza,↓reduceIte,zbf,zbs,za6,zaZ,zbe,zbg,zbq,zaa,zao,onz,zat hi,czH.2 hi,c]
  all_goals all_goals (repeat' first | (with_reducible first | rfl | apply And.intro | assumption) | ((with_reducible show zaf _ _ = true); rfl)) <;> try first | omega | (simp only [InR]; omega)
  ·rw [c] at hI
   rw [← hI]; rfl
  ·rw [c] at hI
   refine nxt hi hI ?_
   simp [AV.bare,zal,zaP,zaS,zak,zau,zag,tokz1,lk,zab,za4]
 ·intro hI
  simp (maxSteps:=4000000) only [go_sem,AV.one,zae,zac,zad,zap,zas,zab,czb,cza,↓reduceIte,zbf,zbs,za6,zaZ,zbe,zbg,zbq,zaa,zao,onz]
  rw [← hI]; simp [zbu]
def P104 (g:FuncId):=(zax 161 (zbL (fun (l:List (Ch)) (f:FnC 132 (FnB 79 Yd)) => l.length ≤ 4096 ∧ let f:=f.x; f.x.t.levels.length ≤ 4096) (fun l f => let f:=f.x; zbu (fun x => !zdw f.x.t x) l l.length 0)) (P103):zaN) g
theorem P104_ok:zaD Tryz.prog P104:=zaj (zaR zs4) (P103_ok)
theorem zqQ (d:Option Nat):zaK P104 d = none:=(zai (by decide) d).trans (zqR d)
attribute [go_sem] P104 zqQ
theorem zs5 (l:List (Ch)) (f:FnC 132 (FnB 79 Yd)) (h:l.length ≤ 4096 ∧ let f:=f.x; f.x.t.levels.length ≤ 4096):zaU Tryz.prog 131 [Enc.enc l,Enc.enc f] (· = Enc.enc (let f:=f.x; l.any (fun x => !zdw f.x.t x))):=by
 obtain ⟨f⟩:=f
 obtain ⟨h,hp⟩:=h
 simp only at hp
 simp only [zbY]
 refine cpz P104_ok Tryz.func131 zaF ?_
 rw [Tryz.ntmps131]
 simp only [Tryz.f131,zah,zaq]
 simp (maxSteps:=4000000) only [go_sem,AV.one,zae,zac,zad,zap,zas,zab,czb,cza,↓reduceIte,zbf,zbs,za6,zaZ,zbe,zbg,zbq,zaa,zao,onz]
 all_goals (repeat' first | (with_reducible first | rfl | apply And.intro | assumption) | ((with_reducible show zaf _ _ = true); rfl)) <;> try first | omega | (simp only [InR]; omega)
 congr 1
 exact ze6 (fun x => !zdw f.x.t x) l l.length 0 (by omega)
def P105 (g:FuncId):=(zax 131 (zbL (fun (l:List (Ch)) (f:FnC 132 (FnB 79 Yd)) => l.length ≤ 4096 ∧ let f:=f.x; f.x.t.levels.length ≤ 4096) (fun l f => let f:=f.x; l.any (fun x => !zdw f.x.t x))) (P104):zaN) g
theorem P105_ok:zaD Tryz.prog P105:=zaj (zaR zs5) (P104_ok)
theorem zqP (d:Option Nat):zaK P105 d = none:=(zai (by decide) d).trans (zqQ d)
attribute [go_sem] P105 zqP
theorem zs6 (l:List (Ch)) (f:FnB 79 Yd) (h:l.length ≤ 4096 ∧ f.x.t.levels.length ≤ 4096):zaU Tryz.prog 83 [Enc.enc l,Enc.enc f] (· = Enc.enc (l.all (fun x => zdw f.x.t x))):=by
 obtain ⟨h,hp⟩:=h
 simp only [zbY]
 refine cpz P105_ok Tryz.func83 zaF ?_
 rw [Tryz.ntmps83]
 simp only [Tryz.f83,zah,zaq]
 simp (maxSteps:=4000000) only [go_sem,AV.one,zae,zac,zad,zap,zas,zab,czb,cza,↓reduceIte,zbf,zbs,za6,zaZ,zbe,zbg,zbq,zaa,zao,onz]
 all_goals (repeat' first | (with_reducible first | rfl | apply And.intro | assumption) | ((with_reducible show zaf _ _ = true); rfl)) <;> try first | omega | (simp only [InR]; omega)
 rw [zjm]
def P106 (g:FuncId):=(zax 83 (zbL (fun (l:List (Ch)) (f:FnB 79 Yd) => l.length ≤ 4096 ∧ f.x.t.levels.length ≤ 4096) (fun l f => l.all (fun x => zdw f.x.t x))) (P105):zaN) g
theorem P106_ok:zaD Tryz.prog P106:=zaj (zaR zs6) (P105_ok)
theorem zqO (d:Option Nat):zaK P106 d = none:=(zai (by decide) d).trans (zqP d)
attribute [go_sem] P106 zqO
theorem zs3 (x:Rg) (f:FnB 80 Yd) (hp:f.x.chairs.length ≤ 4096):zaU Tryz.prog 134 [Enc.enc x,Enc.enc (RefC.mk f)] (· = Enc.enc (!zfd f.x.chairs.length f.x.t.last x)):=by
 simp only [zbY]
 refine cpz P106_ok Tryz.func134 zaF ?_
 rw [Tryz.ntmps134]
 simp only [Tryz.f134,zah,zaq]
 simp (maxSteps:=4000000) only [go_sem,AV.one,zae,zac,zad,zap,zas,zab,czb,cza,↓reduceIte,zbf,zbs,za6,zaZ,zbe,zbg,zbq,zaa,zao,onz]
 all_goals exact auz
def P107 (g:FuncId):=(zax 134 (zbL (fun (_:Rg) (f:RefC (FnB 80 Yd)) => let f:=f.x; f.x.chairs.length ≤ 4096) (fun (x:Rg) (f:RefC (FnB 80 Yd)) => let f:=f.x; !zfd f.x.chairs.length f.x.t.last x)) (P106):zaN) g
theorem P107_ok:zaD Tryz.prog P107:=zaj (zaR fun x f h => zs3 x f.x h) (P106_ok)
theorem zqN (d:Option Nat):zaK P107 d = none:=(zai (by decide) d).trans (zqO d)
attribute [go_sem] P107 zqN
theorem zsZ (l:List (Rg)) (f:FnC 134 (FnB 80 Yd)) (h:l.length ≤ 4096 ∧ let f:=f.x; f.x.chairs.length ≤ 4096):zaU Tryz.prog 162 [Enc.enc l,Enc.enc f] (· = Enc.enc (let f:=f.x; zbu (fun x => !zfd f.x.chairs.length f.x.t.last x) l l.length 0)):=by
 obtain ⟨f⟩:=f
 obtain ⟨h,hp⟩:=h
 simp only at hp
 simp only [zbY]
 refine cpz P107_ok Tryz.func162 zaF ?_
 rw [Tryz.ntmps162]
 simp only [Tryz.f162,zah,zaq]
 simp (maxSteps:=4000000) only [go_sem,AV.one,zae,zac,zad,zap,zas,zab,czb,cza,↓reduceIte,zbf,zbs,za6,zaZ,zbe,zbg,zbq,zaa,zao,onz]
 refine zbA (l.length) [] [0,1,4,7] (fun i => [(8,.int .i64 i)]) (fun _ m => m) (fun i => zbu (fun x => !zfd f.x.chairs.length f.x.t.last x) l (l.length - i) i = zbu (fun x => !zfd f.x.chairs.length f.x.t.last x) l l.length 0) ?_ ?_ ?_ ?_
 ·rfl
 ·simp [AV.bare,zal,zaP,zaS,zak,zau,zag,tokz1,lk,zab,za4]
 ·intro i hi hI
  rw [show l.length - i = (l.length - (i + 1)) + 1 by omega,zbu] at hI
  cases c:zfd f.x.chairs.length f.x.t.last (at_ l i) <;>
   simp (maxSteps:=4000000) only [go_sem,AV.one,zae,zac,zad,zap,zas,zab,czb,cza,↓reduceIte,zbf,zbs,za6,zaZ,zbe,zbg,zbq,zaa,zao,onz,zat hi,czH.2 hi,c]
  all_goals all_goals (repeat' first | (with_reducible first | rfl | apply And.intro | assumption) | ((with_reducible show zaf _ _ = true); rfl)) <;> try first | omega | (simp only [InR]; omega)
  ·rw [c] at hI
   rw [← hI]; rfl
  ·rw [c] at hI
   refine nxt hi hI ?_
   simp [AV.bare,zal,zaP,zaS,zak,zau,zag,tokz1,lk,zab,za4]
 ·intro hI
  simp (maxSteps:=4000000) only [go_sem,AV.one,zae,zac,zad,zap,zas,zab,czb,cza,↓reduceIte,zbf,zbs,za6,zaZ,zbe,zbg,zbq,zaa,zao,onz]
  rw [← hI]; simp [zbu]
def P108 (g:FuncId):=(zax 162 (zbL (fun (l:List (Rg)) (f:FnC 134 (FnB 80 Yd)) => l.length ≤ 4096 ∧ let f:=f.x; f.x.chairs.length ≤ 4096) (fun l f => let f:=f.x; zbu (fun x => !zfd f.x.chairs.length f.x.t.last x) l l.length 0)) (P107):zaN) g
theorem P108_ok:zaD Tryz.prog P108:=zaj (zaR zsZ) (P107_ok)
theorem zqM (d:Option Nat):zaK P108 d = none:=(zai (by decide) d).trans (zqN d)
attribute [go_sem] P108 zqM
theorem zs1 (l:List (Rg)) (f:FnC 134 (FnB 80 Yd)) (h:l.length ≤ 4096 ∧ let f:=f.x; f.x.chairs.length ≤ 4096):zaU Tryz.prog 133 [Enc.enc l,Enc.enc f] (· = Enc.enc (let f:=f.x; l.any (fun x => !zfd f.x.chairs.length f.x.t.last x))):=by
 obtain ⟨f⟩:=f
 obtain ⟨h,hp⟩:=h
 simp only at hp
 simp only [zbY]
 refine cpz P108_ok Tryz.func133 zaF ?_
 rw [Tryz.ntmps133]
 simp only [Tryz.f133,zah,zaq]
 simp (maxSteps:=4000000) only [go_sem,AV.one,zae,zac,zad,zap,zas,zab,czb,cza,↓reduceIte,zbf,zbs,za6,zaZ,zbe,zbg,zbq,zaa,zao,onz]
 all_goals (repeat' first | (with_reducible first | rfl | apply And.intro | assumption) | ((with_reducible show zaf _ _ = true); rfl)) <;> try first | omega | (simp only [InR]; omega)
 congr 1
 exact ze6 (fun x => !zfd f.x.chairs.length f.x.t.last x) l l.length 0 (by omega)
def P109 (g:FuncId):=(zax 133 (zbL (fun (l:List (Rg)) (f:FnC 134 (FnB 80 Yd)) => l.length ≤ 4096 ∧ let f:=f.x; f.x.chairs.length ≤ 4096) (fun l f => let f:=f.x; l.any (fun x => !zfd f.x.chairs.length f.x.t.last x))) (P108):zaN) g
theorem P109_ok:zaD Tryz.prog P109:=zaj (zaR zs1) (P108_ok)
theorem zqL (d:Option Nat):zaK P109 d = none:=(zai (by decide) d).trans (zqM d)
attribute [go_sem] P109 zqL
theorem zs2 (l:List (Rg)) (f:FnB 80 Yd) (h:l.length ≤ 4096 ∧ f.x.chairs.length ≤ 4096):zaU Tryz.prog 84 [Enc.enc l,Enc.enc f] (· = Enc.enc (l.all (fun x => zfd f.x.chairs.length f.x.t.last x))):=by
 obtain ⟨h,hp⟩:=h
 simp only [zbY]
 refine cpz P109_ok Tryz.func84 zaF ?_
 rw [Tryz.ntmps84]
 simp only [Tryz.f84,zah,zaq]
 simp (maxSteps:=4000000) only [go_sem,AV.one,zae,zac,zad,zap,zas,zab,czb,cza,↓reduceIte,zbf,zbs,za6,zaZ,zbe,zbg,zbq,zaa,zao,onz]
 all_goals (repeat' first | (with_reducible first | rfl | apply And.intro | assumption) | ((with_reducible show zaf _ _ = true); rfl)) <;> try first | omega | (simp only [InR]; omega)
 rw [zjm]
def P110 (g:FuncId):=(zax 84 (zbL (fun (l:List (Rg)) (f:FnB 80 Yd) => l.length ≤ 4096 ∧ f.x.chairs.length ≤ 4096) (fun l f => l.all (fun x => zfd f.x.chairs.length f.x.t.last x))) (P109):zaN) g
theorem P110_ok:zaD Tryz.prog P110:=zaj (zaR zs2) (P109_ok)
theorem zqK (d:Option Nat):zaK P110 d = none:=(zai (by decide) d).trans (zqL d)
attribute [go_sem] P110 zqK
theorem zpj (y:Yd) (l:List Int) (h:y.chairs.length ≤ 4096 ∧ l.length ≤ 4096):zaU Tryz.prog 74 [Enc.enc y,Enc.enc l] (· = Enc.enc (za2 y.chairs.length l)):=by
 have h1:=h.1
 have h2:=h.2
 simp only [zbY]
 refine cpz P110_ok Tryz.func74 zaF ?_
 rw [Tryz.ntmps74]
 simp only [Tryz.f74,zah,zaq]
 simp (maxSteps:=4000000) only [go_sem,AV.one,zae,zac,zad,zap,zas,zab,czb,cza,↓reduceIte,zbf,zbs,za6,zaZ,zbe,zbg,zbq,zaa,zao,onz]
 refine zbA (l.length) [] [1,2,4,7,8] (fun i => [(9,.int .i64 i)]) (fun _ m => m) (fun i => za2 y.chairs.length (l.take i) = true) ?_ ?_ ?_ ?_
 ·rfl
 ·simp [AV.bare,zal,zaP,zaS,zak,zau,zag,tokz1,lk,zab,za4]
 ·intro i hi hI
  have hs:za2 y.chairs.length (l.take (i + 1)) = (inB (at_ l i) 0 ((y.chairs.length:Int) - 1) && !(l.take i).contains (at_ l i)):=by
   rw [zaX hi,zjD,hI,Bool.true_and]
  have hno:za2 y.chairs.length (l.take (i + 1)) = false → za2 y.chairs.length l = false:=fun q => by
   cases c:za2 y.chairs.length l
   ·rfl
   ·rw [zpi c] at q; cases q
  have hti:((i:Int) - 0).toNat = i:=by omega
  have htl:(l.take i).length ≤ 4096:=by rw [czO]; omega
  cases c1:inB (at_ l i) 0 ((y.chairs.length:Int) - 1)
  ·rw [c1] at hs
   have hb:=hno hs
   simp (maxSteps:=4000000) only [go_sem,AV.one,zae,zac,zad,zap,zas,zab,czb,cza,↓reduceIte,zbf,zbs,za6,zaZ,zbe,zbg,zbq,zaa,zao,onz,zat hi,czH.2 hi,c1,hb,hti,zh3]
   all_goals exact auz
  ·cases c2:(l.take i).contains (at_ l i)
   ·rw [c1,c2] at hs
    simp (maxSteps:=4000000) only [go_sem,AV.one,zae,zac,zad,zap,zas,zab,czb,cza,↓reduceIte,zbf,zbs,za6,zaZ,zbe,zbg,zbq,zaa,zao,onz,zat hi,czH.2 hi,c1,c2,hti,zh3]
    all_goals (repeat' first | (with_reducible first | rfl | apply And.intro | assumption) | ((with_reducible show zaf _ _ = true); rfl)) <;> try first | omega | (simp only [InR]; omega)
    refine nxt hi (by rw [hs]; rfl) ?_
    simp [AV.bare,zal,zaP,zaS,zak,zau,zag,tokz1,lk,zab,za4]
   ·rw [c1,c2] at hs
    have hb:=hno hs
    simp (maxSteps:=4000000) only [go_sem,AV.one,zae,zac,zad,zap,zas,zab,czb,cza,↓reduceIte,zbf,zbs,za6,zaZ,zbe,zbg,zbq,zaa,zao,onz,zat hi,czH.2 hi,c1,c2,hb,hti,zh3]
    all_goals exact auz
 ·intro hI
  rw [czm] at hI
  simp (maxSteps:=4000000) only [go_sem,AV.one,zae,zac,zad,zap,zas,zab,czb,cza,↓reduceIte,zbf,zbs,za6,zaZ,zbe,zbg,zbq,zaa,zao,onz,hI]
def P111 (g:FuncId):=(zax 74 (zbL (fun (y:Yd) (l:List Int) => y.chairs.length ≤ 4096 ∧ l.length ≤ 4096) (fun y l => za2 y.chairs.length l)) (P110):zaN) g
theorem zoc:zaD Tryz.prog P111:=zaj (zaR zpj) (P110_ok)
theorem zqJ (d:Option Nat):zaK P111 d = none:=(zai (by decide) d).trans (zqK d)
attribute [go_sem] P111 zqJ
theorem zhS (l:List Int) (x:Int):∀ f n,f + n = l.length → (zgR l x f n = -1 ∧ ∀ k,n ≤ k → k < l.length → at_ l k ≠ x) ∨ ∃ k:Nat,zgR l x f n = k ∧ n ≤ k ∧ k < l.length ∧ at_ l k = x ∧ ∀ j,n ≤ j → j < k → at_ l j ≠ x
 | 0,n,h => .inl ⟨rfl,fun k h1 h2 => by omega⟩
 | f + 1,n,h => by
  unfold zgR
  by_cases c:x = at_ l n
  ·rw [if_pos c]
   exact .inr ⟨n,rfl,czf _,by omega,c.symm,fun j h1 h2 => by omega⟩
  ·rw [if_neg c]
   rcases zhS l x f (n + 1) (by omega) with ⟨h1,h2⟩ | ⟨k,h1,h2,h3,h4,h5⟩
   ·refine .inl ⟨h1,fun k g1 g2 => ?_⟩
    by_cases e:k = n
    ·subst e; exact fun q => c q.symm
    ·exact h2 k (by omega) g2
   ·refine .inr ⟨k,h1,by omega,h3,h4,fun j g1 g2 => ?_⟩
    by_cases e:j = n
    ·subst e; exact fun q => c q.symm
    ·exact h5 j (by omega) g2
theorem indexL_bd (l:List Int) (x:Int):-1 ≤ zgi l x ∧ zgi l x ≤ l.length:=by
 unfold zgi
 rcases zhS l x l.length 0 (by omega) with ⟨h1,_⟩ | ⟨k,h1,_,h3,_⟩ <;> rw [h1] <;> omega
def zb6 (y:Yd) (order:List Int) (c:Int):Int:=if zgi order c < 0 ∨ y.hands = 0 then y.t.last + 1 else min (zgi order c / y.hands) (y.t.last + 1)
theorem zpK (y:Yd) (order:List Int) (c:Int) (h:(0 ≤ y.t.last ∧ y.t.last ≤ 9) ∧ (0 ≤ y.hands ∧ y.hands ≤ 5) ∧ order.length ≤ 4096):zaU Tryz.prog 129 [Enc.enc y,Enc.enc order,Enc.enc c] (· = Enc.enc (zb6 y order c)):=by
 have h1:=h.1
 have h2:=h.2.1
 have h3:=h.2.2
 unfold zb6
 have hbd:=indexL_bd order c
 obtain ⟨i,hi⟩:∃ i,zgi order c = i:=⟨_,rfl⟩
 rw [hi] at hbd ⊢
 cases c1:decide (i < 0)
 ·have g1:¬ i < 0:=by simpa using c1
  cases c2:decide (y.hands = 0)
  ·have g2:¬ y.hands = 0:=by simpa using c2
   rw [if_neg (by omega)]
   have hq0:0 ≤ i / y.hands:=Int.ediv_nonneg (by omega) (by omega)
   have hq1:i / y.hands ≤ i:=Int.ediv_le_self _ (by omega)
   simp only [zbY]
   refine cpz zoc Tryz.func129 zaF ?_
   rw [Tryz.ntmps129]
   simp only [Tryz.f129,zah,zaq]
   simp (maxSteps:=4000000) only [go_sem,AV.one,zae,zac,zad,zap,zas,zab,czb,cza,↓reduceIte,zbf,zbs,za6,zaZ,zbe,zbg,zbq,zaa,zao,onz,hi,c1,c2,ziu]
   all_goals (repeat' first | (with_reducible first | rfl | apply And.intro | assumption) | ((with_reducible show zaf _ _ = true); rfl)) <;> try first | omega | (simp only [InR]; omega)
   all_goals (try simp)
  ·rw [if_pos (by right; simpa using c2)]
   simp only [zbY]
   refine cpz zoc Tryz.func129 zaF ?_
   rw [Tryz.ntmps129]
   simp only [Tryz.f129,zah,zaq]
   simp (maxSteps:=4000000) only [go_sem,AV.one,zae,zac,zad,zap,zas,zab,czb,cza,↓reduceIte,zbf,zbs,za6,zaZ,zbe,zbg,zbq,zaa,zao,onz,hi,c1,c2]
   all_goals exact auz
 ·rw [if_pos (by left; simpa using c1)]
  simp only [zbY]
  refine cpz zoc Tryz.func129 zaF ?_
  rw [Tryz.ntmps129]
  simp only [Tryz.f129,zah,zaq]
  simp (maxSteps:=4000000) only [go_sem,AV.one,zae,zac,zad,zap,zas,zab,czb,cza,↓reduceIte,zbf,zbs,za6,zaZ,zbe,zbg,zbq,zaa,zao,onz,hi,c1]
  all_goals exact auz
theorem znh {l:List Int} {x:Int} {m:Nat}:(l.take m).contains x = true ↔ ∃ k,k < m ∧ k < l.length ∧ at_ l k = x:=by
 simp only [List.contains_eq_mem,decide_eq_true_eq]
 constructor
 ·intro h
  obtain ⟨k,hk,e⟩:=List.mem_iff_getElem.1 h
  rw [czO] at hk
  rw [List.getElem_take] at e
  exact ⟨k,by omega,by omega,by rw [zdy (by omega)]; exact e⟩
 ·rintro ⟨k,h1,h2,e⟩
  rw [← e,zdy h2]
  exact List.mem_take_iff_getElem.2 ⟨k,by omega,rfl⟩
theorem zwJ {y:Yd} {order:List Int} {c:Int} {h:Nat} (h0:0 ≤ y.hands) (hh:(h:Int) ≤ y.t.last):decide ((h:Int) < zb6 y order c) = !inY y.hands order c h:=by
 have key:inY y.hands order c h = true ↔ ¬ (h:Int) < zb6 y order c:=by
  unfold inY zb6 zgi
  rw [znh]
  have hm:((y.hands * ((h:Int) + 1)).toNat:Int) = y.hands * ((h:Int) + 1):=Int.toNat_of_nonneg (Int.mul_nonneg h0 (by omega))
  rcases zhS order c order.length 0 (by omega) with ⟨h1,h2⟩ | ⟨k,h1,_,h3,h4,h5⟩
  ·rw [h1,if_pos (.inl (by decide))]
   constructor
   ·rintro ⟨k,_,g2,g3⟩; exact absurd g3 (h2 k (Nat.zero_le _) g2)
   ·intro q; omega
  ·rw [h1]
   by_cases c2:y.hands = 0
   ·rw [if_pos (.inr c2)]
    constructor
    ·rintro ⟨j,g1,_⟩
     rw [c2,Int.zero_mul] at g1
     simp at g1
    ·intro q; omega
   ·rw [if_neg (by omega)]
    have hd:(k:Int) / y.hands ≤ h ↔ (k:Int) < y.hands * ((h:Int) + 1):=by
     rw [show ((k:Int) / y.hands ≤ h ↔ (k:Int) / y.hands < (h:Int) + 1) from ⟨fun q => by omega,fun q => by omega⟩]
     rw [Int.ediv_lt_iff_lt_mul (by omega),Int.mul_comm]
    constructor
    ·rintro ⟨j,g1,g2,g3⟩
     have hkj:k ≤ j:=by
      apply czE
      intro q
      exact h5 j (Nat.zero_le _) q g3
     have:=hd.2 (by omega)
     omega
    ·intro q
     refine ⟨k,?_,h3,h4⟩
     have:=hd.1 (by omega)
     omega
 cases c1:inY y.hands order c h
 ·rw [Bool.not_false,decide_eq_true_eq]
  apply Classical.byContradiction
  intro q
  rw [key.2 q] at c1; cases c1
 ·rw [Bool.not_true,decide_eq_false_iff_not]
  exact key.1 c1
def P112 (g:FuncId):=(zax 129 (zeB (fun (y:Yd) (order:List Int) (_:Int) => (0 ≤ y.t.last ∧ y.t.last ≤ 9) ∧ (0 ≤ y.hands ∧ y.hands ≤ 5) ∧ order.length ≤ 4096) zb6) (P111):zaN) g
theorem P112_ok:zaD Tryz.prog P112:=zaj (zcc zpK) (zoc)
theorem zqI (d:Option Nat):zaK P112 d = none:=(zai (by decide) d).trans (zqJ d)
attribute [go_sem] P112 zqI
theorem zan {P:Program} {Φ:zaN} {a b c:Code} {Q:QA} {st:St}:vc P Φ (.seq (.seq a b) c) Q st = vc P Φ (.seq a (.seq b c)) Q st:=by
 simp only [vc]
 have:(zaG (vc P Φ b (zaG (vc P Φ c Q) Q)) (zaG (vc P Φ c Q) Q)) = zaG (vc P Φ b (zaG (vc P Φ c Q) Q)) Q:=by
  funext e st
  cases e <;> rfl
 rw [this]
def stayW (y:Yd) (s:Sea) (x:Rg) (h:Nat):Bool:=at_ (at_ s.rows (at_ y.chairs x.lo.toNat).row.toNat).l h && decide ((h:Int) < x.hi)
def zfT (y:Yd) (s:Sea) (x:Rg):Sy:=syW (stayW y s x) (at_ y.chairs x.lo.toNat) (hrs y)
theorem stay_call (y:Yd) (s:Sea) (x:Rg) (h:((0 ≤ y.t.last ∧ y.t.last ≤ 9) ∧ 0 ≤ x.lo ∧ x.lo < y.chairs.length) ∧ (0 ≤ (at_ y.chairs x.lo.toNat).row ∧ (at_ y.chairs x.lo.toNat).row < s.rows.length) ∧ (0 ≤ (at_ y.chairs x.lo.toNat).hours ∧ (at_ y.chairs x.lo.toNat).hours ≤ 5) ∧ 1 ≤ (at_ y.chairs x.lo.toNat).rot ∧ (at_ y.chairs x.lo.toNat).rot ≤ 9) :
  zaU Tryz.prog 128 [Enc.enc y,Enc.enc s,Enc.enc x] (· = Enc.enc (zfT y s x)):=by
 obtain ⟨⟨hl,hx0,hx1⟩,hr,hh,hro⟩:=h
 obtain ⟨ci,hci⟩:=czu hx0
 unfold zfT
 obtain ⟨c,hc⟩:∃ c,at_ y.chairs x.lo.toNat = c:=⟨_,rfl⟩
 obtain ⟨W,hW⟩:∃ W,stayW y s x = W:=⟨_,rfl⟩
 have hWh:∀ k,W k = (at_ (at_ s.rows c.row.toNat).l k && decide ((k:Int) < x.hi)):=fun k => by rw [← hW,← hc]; rfl
 rw [hc] at hr hh hro
 rw [hc,hW]
 obtain ⟨ri,hri⟩:=czu hr.1
 have hcl:ci < y.chairs.length:=by omega
 have hg1:(y.chairs.map EncE.cs).getD ci [] = EncE.cs c:=by rw [zat hcl,← hc,hci]; rfl
 have hrl:ri < s.rows.length:=by omega
 have hg2:=zat (f:=EncE.cs) (l:=s.rows) (i:=ri) hrl
 obtain ⟨B,hB⟩:∃ B,at_ s.rows ri = B:=⟨_,rfl⟩
 rw [hB] at hg2
 have hWB:∀ k,W k = (at_ B.l k && decide ((k:Int) < x.hi)):=fun k => by rw [hWh,hri,← hB]; rfl
 have hBl:=B.h
 obtain ⟨n,hn⟩:∃ n,hrs y = n:=⟨_,rfl⟩
 have hnl:(n:Int) = y.t.last + 1:=by rw [← hn]; unfold hrs; omega
 rw [hn]
 obtain ⟨r,hrr⟩:∃ r:Nat,c.rot = r:=⟨c.rot.toNat,by omega⟩
 have hsy:syW W c n = ⟨zl6 W n,(zgn W r n:Nat),zfH W (zgn W r n) c.hours n⟩:=by unfold syW; rw [hrr]; rfl
 rw [hsy]
 have hrP:∀ k,k ≤ n → zrw W c.rot n k = (((zeP W r k).getD n:Nat):Int):=fun k hk => by rw [hrr]; exact zrv (by omega) k hk
 obtain ⟨F,hF⟩:∃ F:Nat → List Int,∀ k,F k = zfH W (zgn W r n) c.hours k:=⟨_,fun _ => rfl⟩
 have hFl:∀ k,(F k).length ≤ k:=fun k => by rw [hF]; exact zlf _ _ _ _
 have hx2:x.lo.toNat = ci:=by omega
 simp only [zbY]
 refine cpz P112_ok Tryz.func128 zaF ?_
 rw [Tryz.ntmps128]
 simp only [Tryz.f128,zah,zaq]
 iterate 6 (
  refine zar fun Q1 h1 => ?_
  simp (maxSteps:=4000000) only [go_sem,zae,zac,zad,zap,zas,zab,czb,cza,↓reduceIte,zaa,onz,hci,hg1,hg2,hri,hBl]
  all_goals (repeat' first | (with_reducible first | rfl | apply And.intro | assumption) | ((with_reducible show zaf _ _ = true); rfl)) <;> try first | omega | (simp only [InR]; omega)
  rw [h1]; clear h1 Q1; simp only [zaG,zan])
 simp (maxSteps:=4000000) only [go_sem,zae,zac,zad,zap,zas,zab,czb,cza,↓reduceIte,zaa,onz]
 refine zbA (n) [.cell 6 2 1] [5,6,7,8,9,33] (fun k => [(34,.int .i64 k),(10,.int .i64 (zkI W k)),(11,.int .i64 (zd0 W k))]) (fun k m => (m.set 6 (.cells [.int .i64 (zl6 W k),.int .i64 (zrw W c.rot n k),.sl ((F k).map EncE.cs) (.own 7)])).set 7 (.tok (F k).length 1)) (fun _ => True) ?_ ?_ ?_ ?_
 ·trivial
 ·simp [AV.bare,zal,zaP,zaS,zak,zau,zag,tokz1,lk,zab,za4,zl6,zrw,zkI,zd0,hF,zfH,hnl]
 ·intro k hk _
  have hk':(k:Int) < y.t.last + 1:=by omega
  have hkB:=zwm (l:=B.l) (i:=k) (by omega)
  have hfl:=hFl k
  have hcb:=cntW_bd W k
  have hrb:=runW_le W k
  have hlb:=zkg W k
  have hrp:=hrP k (by omega)
  have hrk:zrw W c.rot n k ≤ n ∧ 0 ≤ zrw W c.rot n k:=by
   rw [hrp]
   cases q:zeP W r k with
   | none => simp
   | some z => have:=zgG q; simp; omega
  have hrs':zrw W c.rot n (k + 1) = if W k && decide ((zkI W (k + 1):Int) = c.rot) then min (zrw W c.rot n k) k else zrw W c.rot n k:=rfl
  have hru:zkI W (k + 1) = if W k then zkI W k + 1 else 0:=rfl
  have hla:zd0 W (k + 1) = if W k then (k:Int) else zd0 W k:=rfl
  have hcs:=zlq W k
  have hfs:F (k + 1) = if zl8 W (zgn W r n) c.hours k then F k ++ [(k:Int)] else F k:=by rw [hF,hF,zwo]
  have hca:zl8 W (zgn W r n) c.hours k = (!W k && (decide (k < zgn W r n) && (decide (zd0 W k < 0) || decide (c.hours < k - zd0 W k)))):=rfl
  obtain ⟨ro,hroe⟩:∃ ro,zrw W c.rot n k = ro:=⟨_,rfl⟩
  obtain ⟨ru,hrue⟩:∃ ru,zkI W k = ru:=⟨_,rfl⟩
  obtain ⟨la,hlae⟩:∃ la,zd0 W k = la:=⟨_,rfl⟩
  obtain ⟨cn,hcne⟩:∃ cn,zl6 W k = cn:=⟨_,rfl⟩
  obtain ⟨Fk,hFe⟩:∃ Fk,F k = Fk:=⟨_,rfl⟩
  have hrl:W k = false → decide ((k:Int) < ro) = decide (k < zgn W r n):=fun hw => by rw [← hroe,hrr]; exact rotP_last (by omega) hk hw
  rw [hroe] at hrk hrs'
  rw [hrue] at hrb hru
  rw [hlae] at hlb hla hca
  rw [hcne] at hcb hcs
  rw [hFe] at hfl hfs
  rw [hroe,hrue,hlae,hcne,hFe]
  have hWk:=hWB k
  obtain ⟨bk,hbk⟩:∃ bk,at_ B.l k = bk:=⟨_,rfl⟩
  rw [hbk] at hkB hWk
  have hcc:decide (((ru + 1:Nat):Int) = c.rot) = decide ((ru:Int) + 1 = c.rot):=by simp
  iterate 2 (
   refine zar fun Q1 h1 => ?_
   simp (maxSteps:=4000000) only [go_sem,zae,zac,zad,zap,zas,zab,czb,cza,↓reduceIte,zaa,onz,hk']
   all_goals (repeat' first | (with_reducible first | rfl | apply And.intro | assumption) | ((with_reducible show zaf _ _ = true); rfl)) <;> try first | omega | (simp only [InR]; omega)
   rw [h1]; clear h1 Q1; simp only [zaG,zan])
  refine zar fun Qb hb => ?_
  rw [zff]
  try simp only [zan]
  iterate 2 (
   refine zar fun Q1 h1 => ?_
   simp (maxSteps:=4000000) only [go_sem,zae,zac,zad,zap,zas,zab,czb,cza,↓reduceIte,zaa,onz,hkB]
   all_goals (repeat' first | (with_reducible first | rfl | apply And.intro | assumption) | ((with_reducible show zaf _ _ = true); rfl)) <;> try first | omega | (simp only [InR]; omega)
   rw [h1]; clear h1 Q1; simp only [zaG,zan])
  refine zar fun Qc hc => ?_
  (simp (maxSteps:=4000000) only [zkv,zku,evT,lk,AV.un,AV.av,Nat.reduceEqDiff,↓reduceIte,true_and]; try rw [zjd])
  refine ⟨fun q => ?_,fun q => ?_⟩
  ·rw [q] at hWk
   rw [hWk] at hrs' hru hla hcs hca
   simp only [if_true,Bool.true_and,Bool.not_true,Bool.false_and] at hrs' hru hla hcs hca
   rw [hca] at hfs
   simp only [czp,if_false] at hfs
   have hcc:decide (((ru + 1:Nat):Int) = c.rot) = decide ((ru:Int) + 1 = c.rot):=by simp
   rw [hru,hcc] at hrs'
   try simp only [zan]
   iterate 2 (
    refine zar fun Q1 h1 => ?_
    simp (maxSteps:=4000000) only [go_sem,zae,zac,zad,zap,zas,zab,czb,cza,↓reduceIte,zaa,onz]
    all_goals (repeat' first | (with_reducible first | rfl | apply And.intro | assumption) | ((with_reducible show zaf _ _ = true); rfl)) <;> try first | omega | (simp only [InR]; omega)
    rw [h1]; clear h1 Q1; simp only [zaG,zan])
   refine zar fun Qd hd => ?_
   (simp (maxSteps:=4000000) only [zkv,zku,evT,lk,AV.un,AV.av,Nat.reduceEqDiff,↓reduceIte,true_and]; try rw [zjd])
   refine ⟨fun q2 => ?_,fun q2 => ?_⟩
   all_goals
    rw [q2] at hrs'
    simp only [czp,if_false,if_true] at hrs'
   ·simp (maxSteps:=4000000) only [go_sem,zae,zac,zad,zap,zas,zab,czb,cza,↓reduceIte,zaa,onz,ziu]
    refine ⟨by simp,?_⟩
    simp (maxSteps:=4000000) only [go_sem,zae,zac,zad,zap,zas,zab,czb,cza,↓reduceIte,zaa,onz,hd,hc,hb]
    refine ⟨(by simp only [InR]; omega),nxt hk trivial ?_⟩
    simp [AV.bare,zal,zaP,zaS,zak,zau,zag,tokz1,lk,zab,za4,hrs',hru,hla,hcs,hfs]
   ·simp (maxSteps:=4000000) only [go_sem,zae,zac,zad,zap,zas,zab,czb,cza,↓reduceIte,zaa,onz,hd,hc,hb]
    refine ⟨(by simp only [InR]; omega),nxt hk trivial ?_⟩
    simp [AV.bare,zal,zaP,zaS,zak,zau,zag,tokz1,lk,zab,za4,hrs',hru,hla,hcs,hfs]
  ·rw [q] at hWk
   have hrl':=hrl hWk
   rw [hWk] at hrs' hru hla hcs hca
   simp only [czp,if_false,Bool.false_and,Bool.not_false,Bool.true_and] at hrs' hru hla hcs hca
   rw [← hrl'] at hca
   rw [hca] at hfs
   simp only [hc,zaG,zan]
   refine zar fun Q1 h1 => ?_
   simp (maxSteps:=4000000) only [go_sem,zae,zac,zad,zap,zas,zab,czb,cza,↓reduceIte,zaa,onz]
   all_goals (repeat' first | (with_reducible first | rfl | apply And.intro | assumption) | ((with_reducible show zaf _ _ = true); rfl)) <;> try first | omega | (simp only [InR]; omega)
   rw [h1]; clear h1 Q1; simp only [zaG,zan]
   refine zar fun Qd hd => ?_
   simp (maxSteps:=4000000) only [go_sem,zae,zac,zad,zap,zas,zab,czb,cza,↓reduceIte,zaa,onz]
   refine ⟨fun q2 => ⟨q2,(by simp only [InR]; omega)⟩,fun q2 => ⟨q2,fun q3 => by rw [q2,q3]; rfl⟩,?_⟩
   rw [hd]
   simp only [zaG]
   (simp (maxSteps:=4000000) only [zkv,zku,evT,lk,AV.un,AV.av,Nat.reduceEqDiff,↓reduceIte,true_and]; try rw [zjd])
   refine ⟨fun q2 => ?_,fun q2 => ?_⟩
   all_goals
    rw [q2] at hfs
    simp only [czp,if_false,if_true] at hfs
    simp (maxSteps:=4000000) only [go_sem,zae,zac,zad,zap,zas,zab,czb,cza,↓reduceIte,zaa,onz,hb]
   ·refine ⟨by omega,(by simp only [InR]; omega),nxt hk trivial ?_⟩
    simp [AV.bare,zal,zaP,zaS,zak,zau,zag,tokz1,lk,zab,za4,hrs',hru,hla,hcs,hfs]
   ·refine ⟨(by simp only [InR]; omega),nxt hk trivial ?_⟩
    simp [AV.bare,zal,zaP,zaS,zak,zau,zag,tokz1,lk,zab,za4,hrs',hru,hla,hcs,hfs]
 ·intro _
  have hk':¬ (n:Int) < y.t.last + 1:=by omega
  have hrp:zrw W c.rot n n = (zgn W r n:Nat):=hrP n (czf _)
  have hFn:=hF n
  simp (maxSteps:=4000000) only [go_sem,zae,zac,zad,zap,zas,zab,czb,cza,↓reduceIte,zaa,onz,hk',hrp,hFn]
  all_goals exact auz
def P113 (g:FuncId):=(zax 128 (zeB (fun (y:Yd) (s:Sea) (x:Rg) => ((0 ≤ y.t.last ∧ y.t.last ≤ 9) ∧ 0 ≤ x.lo ∧ x.lo < y.chairs.length) ∧ (0 ≤ (at_ y.chairs x.lo.toNat).row ∧ (at_ y.chairs x.lo.toNat).row < s.rows.length) ∧ (0 ≤ (at_ y.chairs x.lo.toNat).hours ∧ (at_ y.chairs x.lo.toNat).hours ≤ 5) ∧ 1 ≤ (at_ y.chairs x.lo.toNat).rot ∧ (at_ y.chairs x.lo.toNat).rot ≤ 9) zfT) (P112):zaN) g
theorem ztj:zaD Tryz.prog P113:=zaj (zcc stay_call) (P112_ok)
theorem zqH (d:Option Nat):zaK P113 d = none:=(zai (by decide) d).trans (zqI d)
attribute [go_sem] P113 zqH
theorem zgd {α β:Type} [Inhabited α] [Inhabited β] {f:α → β} {l:List α} {i:Nat} (h:i < l.length):at_ (l.map f) i = f (at_ l i):=by simp [at_,h]
def ze3 (w:List Int):Nat → List Bool
 | 0 => List.replicate 10 false
 | k + 1 => (ze3 w k).set (at_ w k).toNat true
theorem zdX (w:List Int):∀ k,(ze3 w k).length = 10
 | 0 => rfl
 | k + 1 => by unfold ze3; rw [czt]; exact zdX w k
theorem zt5 {w:List Int} (hw:∀ x ∈ w,0 ≤ x ∧ x < 10):∀ k,k ≤ w.length → ∀ i,i < 10 → at_ (ze3 w k) i = (w.take k).contains (i:Int)
 | 0,_,i,hi => by
  show at_ (List.replicate 10 false) i = _
  rw [zdy (by simpa using hi),List.getElem_replicate]
  rfl
 | k + 1,hk,i,hi => by
  have ih:=zt5 hw k (by omega) i hi
  have hx:=hw _ (zbb (l:=w) (i:=k) (by omega))
  unfold ze3
  rw [zaX (by omega)]
  by_cases e:(at_ w k).toNat = i
  ·have h1:at_ ((ze3 w k).set (at_ w k).toNat true) i = true:=by
    generalize (at_ w k).toNat = z at e ⊢
    subst e
    rw [zdy (by rw [czt,zdX]; exact hi),List.getElem_set_self]
   rw [h1]
   have:at_ w k = (i:Int):=by omega
   simp [this]
  ·have h1:at_ ((ze3 w k).set (at_ w k).toNat true) i = at_ (ze3 w k) i:=by
    generalize (at_ w k).toNat = z at e ⊢
    rw [zdy (by rw [czt,zdX]; exact hi),zdy (by rw [zdX]; exact hi),List.getElem_set_ne e]
   rw [h1,ih]
   have:¬ (i:Int) = at_ w k:=by omega
   rw [Bool.eq_iff_iff]
   simp only [List.contains_eq_mem,decide_eq_true_eq,czv,czC]
   exact ⟨.inl,fun q => q.resolve_right this⟩
theorem zo4 {hs:List Int} (h10:hs.length ≤ 10) (lv:Int):ze3 (zd5 hs lv) (zd5 hs lv).length = rowB hs lv:=by
 have hm:∀ x:Int,x ∈ zd5 hs lv ↔ ∃ i:Nat,i < hs.length ∧ lv < at_ hs i ∧ x = i:=by
  intro x
  unfold zd5 zjr
  simp only [czx,List.mem_filter,List.mem_range,decide_eq_true_eq]
  constructor
  ·rintro ⟨i,⟨h1,h2⟩,rfl⟩; exact ⟨i,h1,h2,rfl⟩
  ·rintro ⟨i,h1,h2,rfl⟩; exact ⟨i,⟨h1,h2⟩,rfl⟩
 apply List.ext_getElem
 ·rw [zdX,ztQ]
 ·intro i h1 h2
  rw [zdX] at h1
  have g1:=zt5 (w:=zd5 hs lv) (fun x hx => by obtain ⟨k,q1,_,q3⟩:=(hm x).1 hx; omega) _ (czf _) i h1
  rw [zdy (by rw [zdX]; exact h1),czm] at g1
  rw [g1,← zdy h2]
  unfold rowB
  rw [zhu _ h1]
  rw [Bool.eq_iff_iff]
  simp only [List.contains_eq_mem,decide_eq_true_eq,czl]
  rw [hm]
  constructor
  ·rintro ⟨k,q1,q2,q3⟩
   have:i = k:=by omega
   subst this
   exact ⟨q1,q2⟩
  ·rintro ⟨q1,q2⟩; exact ⟨i,q1,q2,rfl⟩
theorem wetL_lt {hs:List Int} (h10:hs.length ≤ 10) {lv x:Int} (hx:x ∈ zd5 hs lv):0 ≤ x ∧ x < 10:=by
 unfold zd5 zjr at hx
 simp only [czx,List.mem_filter,List.mem_range,decide_eq_true_eq] at hx
 obtain ⟨i,⟨h1,_⟩,rfl⟩:=hx
 omega
def seaQ (t:Tb) (hs:List Int):Sea × Bool:=if (zim t hs).2 = 0 then (zbP t hs,true) else (⟨hs,[]⟩,false)
theorem zrH (t:Tb) (hs:List Int):(zim t hs = (t.levels.map (zd5 hs),0) ∧ zbl t = 0 ∧ za3 t hs = true) ∨ ∃ e,zim t hs = ([],e) ∧ e ≠ 0:=by
 unfold zim
 by_cases c:zbl t = 0
 ·rw [if_pos c]
  cases c2:za3 t hs
  ·exact .inr ⟨2,by simp,by decide⟩
  ·exact .inl ⟨by simp,c,rfl⟩
 ·rw [if_neg c]
  exact .inr ⟨_,rfl,c⟩
theorem sea_call (y:Yd) (hs:List Int) (h:y.t.heights.length ≤ 4096 ∧ hs.length ≤ 4096):zaU Tryz.prog 73 [Enc.enc y,Enc.enc hs] (· = Enc.enc (seaQ y.t hs)):=by
 have h1:=h.1
 have h2:=h.2
 simp only [zaa]
 unfold seaQ
 rcases zrH y.t hs with ⟨hp,hf,hl⟩ | ⟨e,hp,he⟩
 case inr =>
  rw [hp,if_neg he]
  simp only [zbY]
  refine cpz ztj Tryz.func73 zaF ?_
  rw [Tryz.ntmps73]
  simp only [Tryz.f73,zah,zaq]
  simp (maxSteps:=4000000) only [go_sem,zae,zac,zad,zap,zas,zab,czb,cza,↓reduceIte,zaa,onz,hp,he]
  all_goals (repeat' first | (with_reducible first | rfl | apply And.intro | assumption) | ((with_reducible show zaf _ _ = true); rfl)) <;> try first | omega | (simp only [InR]; omega)
  refine zbA (0) [] [1,4,5,7,20,21] (fun i => [(22,.int .i64 (0:Int))]) (fun _ m => m) (fun _ => True) ?_ ?_ ?_ ?_
  ·trivial
  ·simp [AV.bare,zal,zaP,zaS,zak,zau,zag,tokz1,lk,zab,za4,-List.map_map]
  ·intro i hi _; omega
  ·intro _
   simp (maxSteps:=4000000) only [go_sem,zae,zac,zad,zap,zas,zab,czb,cza,↓reduceIte,zaa,onz,he,czA,decide_false]
   all_goals exact auz
 have hv:=zcC hf
 have h10:hs.length ≤ 10:=by have:=zbI hl; have:=hv.hok.len; omega
 have hlv:=hv.lv
 rw [hp,if_pos rfl]
 have hso:zbP y.t hs = ⟨hs,y.t.levels.map (zq0 hs)⟩:=rfl
 rw [hso]
 obtain ⟨R,hR⟩:∃ R:Nat → List (BA 10),∀ i,R i = (y.t.levels.take i).map (zq0 hs):=⟨_,fun _ => rfl⟩
 have hRl:∀ i,i ≤ y.t.levels.length → (R i).length = i:=fun i hi => by rw [hR]; simp; omega
 have hRs:∀ i,i < y.t.levels.length → R (i + 1) = R i ++ [zq0 hs (at_ y.t.levels i)]:=fun i hi => by rw [hR,hR,zaX hi,List.map_append]; rfl
 have hRf:R y.t.levels.length = y.t.levels.map (zq0 hs):=by rw [hR,czm]
 rw [← hRf]
 have hR0:R 0 = []:=by rw [hR]; rfl
 simp only [zbY]
 refine cpz ztj Tryz.func73 zaF ?_
 rw [Tryz.ntmps73]
 simp only [Tryz.f73,zah,zaq]
 simp (maxSteps:=4000000) only [go_sem,zae,zac,zad,zap,zas,zab,czb,cza,↓reduceIte,zaa,onz,hp,czz]
 all_goals (repeat' first | (with_reducible first | rfl | apply And.intro | assumption) | ((with_reducible show zaf _ _ = true); rfl)) <;> try first | omega | (simp only [InR]; omega)
 refine zbA (y.t.levels.length) [.cell 1 1 10] [1,4,5,7,20,21] (fun i => [(22,.int .i64 i)]) (fun i m => (m.set 1 (.cells [.sl [] .full,.sl ((R i).map EncE.cs) (.own 2)])).set 2 (.tok i 10)) (fun _ => True) ?_ ?_ ?_ ?_
 ·trivial
 ·simp [AV.bare,zal,zaP,zaS,zak,zau,zag,tokz1,lk,zab,za4,hR0,-List.map_map]
 ·intro i hi _
  have hi':=czH.2 hi
  have hge:((y.t.levels.map (zd5 hs)).map EncE.cs).getD i [] = [AV.sl ((zd5 hs (at_ y.t.levels i)).map EncE.cs) .no]:=by
   rw [zat (by simpa using hi),zgd hi]; rfl
  obtain ⟨w,hw⟩:∃ w,zd5 hs (at_ y.t.levels i) = w:=⟨_,rfl⟩
  have hwl:∀ x ∈ w,0 ≤ x ∧ x < 10:=fun x hx => wetL_lt h10 (by rw [hw]; exact hx)
  have hwn:w.length ≤ hs.length:=by rw [← hw]; exact zh1 _ _ _
  have hrow:ze3 w w.length = (zq0 hs (at_ y.t.levels i)).l:=by rw [← hw]; exact zo4 h10 _
  rw [hw] at hge
  have hm0:[AV.bool false,AV.bool false,AV.bool false,AV.bool false,AV.bool false,AV.bool false,AV.bool false,AV.bool false,AV.bool false,AV.bool false] = (ze3 w 0).map AV.bool:=rfl
  have hrl:=hRl i (by omega)
  simp (maxSteps:=4000000) only [go_sem,zae,zac,zad,zap,zas,zab,czb,cza,↓reduceIte,zaa,onz,hi',hge,hm0]
  all_goals (repeat' first | (with_reducible first | rfl | apply And.intro | assumption) | ((with_reducible show zaf _ _ = true); rfl)) <;> try first | omega | (simp only [InR]; omega)
  refine zbA (w.length) [] [1,4,5,7,9,10,20,21,22,24,25,26,27] (fun k => [(28,.int .i64 k)]) (fun k m => m.set 3 (.cells ((ze3 w k).map AV.bool))) (fun _ => True) ?_ ?_ ?_ ?_
  ·trivial
  ·simp [AV.bare,zal,zaP,zaS,zak,zau,zag,tokz1,lk,zab,za4,-List.map_map]
  ·intro k hk _
   have hk':=czH.2 hk
   have hkx:=hwl _ (zbb hk)
   obtain ⟨x,hx⟩:=czu hkx.1
   have hge2:(w.map EncE.cs).getD k [] = [AV.int .i64 (x:Int)]:=by rw [zat hk,hx]; rfl
   have hml:=zdX w k
   have hov:=zmB (l:=ze3 w k) (i:=x) (by omega) true
   have hms:(ze3 w k).set x true = ze3 w (k + 1):=by
    show _ = (ze3 w k).set (at_ w k).toNat true
    rw [hx]; rfl
   rw [hms] at hov
   have hx10:x < 10:=by omega
   simp (maxSteps:=4000000) only [go_sem,zae,zac,zad,zas,zab,czb,cza,↓reduceIte,zaa,onz,hk',hge2,hml,hov]
   all_goals (repeat' first | (with_reducible first | rfl | apply And.intro | assumption) | ((with_reducible show zaf _ _ = true); rfl)) <;> try first | omega | (simp only [InR]; omega)
   refine nxt hk trivial ?_
   simp [AV.bare,zal,zaP,zaS,zak,zau,zag,tokz1,lk,zab,za4,-List.map_map]
  ·intro _
   have hra:=(zq0 hs (at_ y.t.levels i)).h
   have hts:(zq0 hs (at_ y.t.levels i)).l.map AV.bool = EncE.cs (zq0 hs (at_ y.t.levels i)):=rfl
   simp (maxSteps:=4000000) only [go_sem,zae,zac,zad,zap,zas,zab,czb,cza,↓reduceIte,zaa,onz,czA,decide_false,hrow,hra,hrl]
   all_goals (repeat' first | (with_reducible first | rfl | apply And.intro | assumption) | ((with_reducible show zaf _ _ = true); rfl)) <;> try first | omega | (simp only [InR]; omega)
   refine nxt hi trivial ?_
   simp [AV.bare,zal,zaP,zaS,zak,zau,zag,tokz1,lk,zab,za4,hRs i hi,-List.map_map]
 ·intro _
  simp (maxSteps:=4000000) only [go_sem,zae,zac,zad,zap,zas,zab,czb,cza,↓reduceIte,zaa,onz,czA,decide_false]
  all_goals exact auz
def P114 (g:FuncId):=(zax 73 (zbL (fun (y:Yd) (hs:List Int) => y.t.heights.length ≤ 4096 ∧ hs.length ≤ 4096) (fun y hs => seaQ y.t hs)) (P113):zaN) g
theorem zgf:zaD Tryz.prog P114:=zaj (zaR sea_call) (ztj)
theorem zqG (d:Option Nat):zaK P114 d = none:=(zai (by decide) d).trans (zqH d)
attribute [go_sem] P114 zqG
end Go.Proofs
