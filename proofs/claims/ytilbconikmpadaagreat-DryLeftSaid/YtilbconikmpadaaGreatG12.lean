/- The texts HD, HM1, HG, HM2, HM3, H1, H2, H3, joined. -/
import Derived.Test.YtilbconikmpadaaGreatG7
import Derived.Test.YtilbconikmpadaaGreatG6
import Derived.Test.YtilbconikmpadaaGreatG10
import Derived.Test.YtilbconikmpadaaGreatG11
set_option linter.all false
namespace Go.Fs
structure BA (n:Nat) where
 l:List Bool
 h:l.length = n
theorem BA.ext {n:Nat} {a b:BA n} (h:a.l = b.l):a = b:=by cases a; cases b; simp_all
instance {n:Nat}:Inhabited (BA n):=⟨⟨List.replicate n false,by simp⟩⟩
theorem zkS:∀ (cs:List AV) (l:List Bool),zdh cs = some l → cs = l.map AV.bool
 | [],l,h => by simp only [zdh,czg] at h; subst h; rfl
 | c :: cs,l,h => by
  unfold zdh at h
  split at h
  ·cases h; simp_all
  ·rename_i n r heq
   cases heq
   simp only [czr] at h
   obtain ⟨y,h1,rfl⟩:=h
   rw [zkS _ _ h1]
   rfl
  ·cases h
theorem zkR (l:List Bool):zdh (l.map AV.bool) = some l:=by
 induction l with
 | nil => rfl
 | cons x l ih => simp [zdh,ih]
def zo1 (n:Nat) (cs:List AV):Option (BA n) :=
 match zdh cs with
 | some l => if h:l.length = n then some ⟨l,h⟩ else none
 | none => none
theorem zo0 {n:Nat} {cs:List AV} {x:BA n} (h:zo1 n cs = some x):cs = x.l.map AV.bool:=by
 unfold zo1 at h
 split at h
 ·rename_i l hl
  split at h
  ·cases h; exact zkS _ _ hl
  ·cases h
 ·cases h
theorem zoZ {n:Nat} (x:BA n):zo1 n (x.l.map AV.bool) = some x:=by
 unfold zo1
 rw [zkR]
 simp [x.h]
theorem zgK {p:AV → Prop} (hp:∀ b,p (.bool b)) (l:List Bool):∀ c ∈ l.map AV.bool,p c:=fun c hc => by
 obtain ⟨b,_,rfl⟩:=czx.1 hc
 exact hp b
theorem zmn (l:List Bool):∀ c ∈ l.map AV.bool,zbq 1 c:=zgK (fun b => trivial) l
instance {n:Nat}:Enc (BA n) where
 enc x:=.agg (x.l.map AV.bool)
 dec
  | .agg cs => zo1 n cs
  | _ => none
 law v x h:=by
  split at h
  ·rw [zo0 h]
  ·cases h
 dep:=2
 ok x:=zmn x.l
instance {n:Nat}:EncE (BA n) where
 cs x:=x.l.map AV.bool
 dcs cs:=zo1 n cs
 law v x h:=zo0 h
 inv x:=zoZ x
 dep:=1
 sz:=n
 len x:=by simp [x.h]
 ok x:=zmn x.l
section
variable {n:Nat}
theorem enc_ba (x:BA n):Enc.enc x = .agg (x.l.map AV.bool):=rfl
theorem cs_ba (x:BA n):EncE.cs x = x.l.map AV.bool:=rfl
theorem dec_ba (cs:List AV):(Enc.dec (.agg cs):Option (BA n)) = zo1 n cs:=rfl
theorem dcs_ba (cs:List AV):(EncE.dcs cs:Option (BA n)) = zo1 n cs:=rfl
theorem dep_ba:EncE.dep (BA n) = 1:=rfl
theorem sz_ba:EncE.sz (BA n) = n:=rfl
theorem eta_ba (x:BA n):(⟨x.l,x.h⟩:BA n) = x:=rfl
end
structure Ch where
 row:Int
 hours:Int
 rot:Int
instance:Inhabited Ch:=⟨⟨0,0,0⟩⟩
instance:Enc Ch where
 enc m:=.agg [.int .i64 m.row,.int .i64 m.hours,.int .i64 m.rot]
 dec
  | .agg [.int .i64 a,.int .i64 b,.int .i64 c] => some ⟨a,b,c⟩
  | _ => none
 law v x h:=by
  split at h
  ·cases h; rfl
  ·cases h
 dep:=2
 ok x:=by simp [zbq]
instance:EncE Ch where
 cs m:=[.int .i64 m.row,.int .i64 m.hours,.int .i64 m.rot]
 dcs
  | [.int .i64 a,.int .i64 b,.int .i64 c] => some ⟨a,b,c⟩
  | _ => none
 law v x h:=by
  split at h
  ·cases h; rfl
  ·cases h
 inv _:=rfl
 dep:=1
 sz:=3
 len _:=rfl
 ok x:=by simp [zbq]
theorem enc_ch (m:Ch):Enc.enc m = .agg [.int .i64 m.row,.int .i64 m.hours,.int .i64 m.rot]:=rfl
theorem cs_ch (m:Ch):EncE.cs m = [.int .i64 m.row,.int .i64 m.hours,.int .i64 m.rot]:=rfl
theorem dec_ch (a b c:Int):(Enc.dec (.agg [.int .i64 a,.int .i64 b,.int .i64 c]):Option Ch) = some ⟨a,b,c⟩:=rfl
theorem dcs_ch (a b c:Int):(EncE.dcs [.int .i64 a,.int .i64 b,.int .i64 c]:Option Ch) = some ⟨a,b,c⟩:=rfl
theorem dep_ch:EncE.dep Ch = 1:=rfl
theorem sz_ch:EncE.sz Ch = 3:=rfl
theorem eta_ch (r:Ch):(⟨r.row,r.hours,r.rot⟩:Ch) = r:=rfl
structure Sy where
 wet:Int
 rot:Int
 free:List Int
instance:Inhabited Sy:=⟨⟨0,0,[]⟩⟩
instance:Enc Sy where
 enc m:=.agg [.int .i64 m.wet,.int .i64 m.rot,.sl (m.free.map EncE.cs) .no]
 dec
  | .agg [.int .i64 a,.int .i64 b,.sl es .no] => (zdH es:Option (List Int)).map fun c => ⟨a,b,c⟩
  | _ => none
 law v x h:=by
  split at h
  ·simp only [czr] at h
   obtain ⟨c,h1,rfl⟩:=h
   rw [zbt _ _ h1]
  ·cases h
 dep:=3
 ok x:=by
  simp only [zbq,czn,czk,or_false,forall_eq_or_imp,forall_eq,true_and,czx,forall_exists_index,and_imp,forall_apply_eq_imp_iff₂]
  exact fun a _ => EncE.ok a
instance:EncE Sy where
 cs m:=[.int .i64 m.wet,.int .i64 m.rot,.sl (m.free.map EncE.cs) .no]
 dcs
  | [.int .i64 a,.int .i64 b,.sl es .no] => (zdH es:Option (List Int)).map fun c => ⟨a,b,c⟩
  | _ => none
 law v x h:=by
  split at h
  ·simp only [czr] at h
   obtain ⟨c,h1,rfl⟩:=h
   rw [zbt _ _ h1]
  ·cases h
 inv x:=by simp only [zdq,Option.map_some]
 dep:=2
 sz:=3
 len _:=rfl
 ok x:=by
  simp only [zbq,czn,czk,or_false,forall_eq_or_imp,forall_eq,true_and,czx,forall_exists_index,and_imp,forall_apply_eq_imp_iff₂]
  exact fun a _ => EncE.ok a
theorem enc_sy (m:Sy):Enc.enc m = .agg [.int .i64 m.wet,.int .i64 m.rot,.sl (m.free.map EncE.cs) .no]:=rfl
theorem cs_sy (m:Sy):EncE.cs m = [.int .i64 m.wet,.int .i64 m.rot,.sl (m.free.map EncE.cs) .no]:=rfl
theorem dec_sy (a b:Int) (es:List (List AV)):(Enc.dec (.agg [.int .i64 a,.int .i64 b,.sl es .no]):Option Sy) = (zdH es:Option (List Int)).map fun c => ⟨a,b,c⟩:=rfl
theorem dcs_sy (a b:Int) (es:List (List AV)):(EncE.dcs [.int .i64 a,.int .i64 b,.sl es .no]:Option Sy) = (zdH es:Option (List Int)).map fun c => ⟨a,b,c⟩:=rfl
theorem zts:EncE.dep Sy = 2:=rfl
theorem sz_sy:EncE.sz Sy = 3:=rfl
theorem eta_sy (r:Sy):(⟨r.wet,r.rot,r.free⟩:Sy) = r:=rfl
structure Sea where
 hs:List Int
 rows:List (BA 10)
instance:Inhabited Sea:=⟨⟨[],[]⟩⟩
def zjd:List AV → Option Sea
 | [.sl a .no,.sl b .no] =>
  match (zdH a:Option (List Int)),(zdH b:Option (List (BA 10))) with
  | some a,some b => some ⟨a,b⟩
  | _,_ => none
 | _ => none
theorem ziS {cs:List AV} {s:Sea} (h:zjd cs = some s):cs = [.sl (s.hs.map EncE.cs) .no,.sl (s.rows.map EncE.cs) .no]:=by
 unfold zjd at h
 split at h
 ·split at h
  ·rename_i h1 h2
   cases h
   rw [zbt _ _ h1,zbt _ _ h2]
  ·cases h
 ·cases h
theorem zmN (s:Sea):∀ c ∈ ([.sl (s.hs.map EncE.cs) .no,.sl (s.rows.map EncE.cs) .no]:List AV),zbq 2 c:=by
 simp only [zbq,czn,czk,or_false,forall_eq_or_imp,forall_eq,true_and,czx,forall_exists_index,and_imp,forall_apply_eq_imp_iff₂]
 exact ⟨fun a _ => EncE.ok a,fun a _ => EncE.ok a⟩
instance:Enc Sea where
 enc s:=.agg [.sl (s.hs.map EncE.cs) .no,.sl (s.rows.map EncE.cs) .no]
 dec
  | .agg cs => zjd cs
  | _ => none
 law v x h:=by
  split at h
  ·rw [ziS h]
  ·cases h
 dep:=3
 ok:=zmN
instance:EncE Sea where
 cs s:=[.sl (s.hs.map EncE.cs) .no,.sl (s.rows.map EncE.cs) .no]
 dcs:=zjd
 law v x h:=ziS h
 inv x:=by simp only [zjd,zdq]
 dep:=2
 sz:=2
 len _:=rfl
 ok:=zmN
theorem enc_sea (s:Sea):Enc.enc s = .agg [.sl (s.hs.map EncE.cs) .no,.sl (s.rows.map EncE.cs) .no]:=rfl
theorem cs_sea (s:Sea):EncE.cs s = [.sl (s.hs.map EncE.cs) .no,.sl (s.rows.map EncE.cs) .no]:=rfl
theorem dec_sea (a b:List (List AV)):(Enc.dec (.agg [.sl a .no,.sl b .no]):Option Sea) = match (zdH a:Option (List Int)),(zdH b:Option (List (BA 10))) with
  | some a,some b => some ⟨a,b⟩
  | _,_ => none:=rfl
theorem dcs_sea (a b:List (List AV)):(EncE.dcs [.sl a .no,.sl b .no]:Option Sea) = match (zdH a:Option (List Int)),(zdH b:Option (List (BA 10))) with
  | some a,some b => some ⟨a,b⟩
  | _,_ => none:=rfl
theorem zfU:EncE.dep Sea = 2:=rfl
theorem sz_sea:EncE.sz Sea = 2:=rfl
theorem eta_sea (s:Sea):(⟨s.hs,s.rows⟩:Sea) = s:=rfl
structure Yd where
 t:Tb
 hands:Int
 chairs:List Ch
 order:List Int
 hires:List Rg
def ydC (y:Yd):List AV:=[.int .i64 y.t.last,.sl (y.t.heights.map EncE.cs) .no,.int .i64 y.t.step,.sl (y.t.levels.map EncE.cs) .no,.sl (y.t.marks.map EncE.cs) .no,
 .int .i64 y.hands,.sl (y.chairs.map EncE.cs) .no,.sl (y.order.map EncE.cs) .no,.sl (y.hires.map EncE.cs) .no]
def zju:List AV → Option Yd
 | [.int .i64 a,.sl b .no,.int .i64 c,.sl d .no,.sl e .no,.int .i64 f,.sl g .no,.sl h .no,.sl i .no] =>
  match (zdH b:Option (List Rg)),(zdH d:Option (List Int)),(zdH e:Option (List Mk)),(zdH g:Option (List Ch)),(zdH h:Option (List Int)),(zdH i:Option (List Rg)) with
  | some b,some d,some e,some g,some h,some i => some ⟨⟨a,b,c,d,e⟩,f,g,h,i⟩
  | _,_,_,_,_,_ => none
 | _ => none
theorem zfy {cs:List AV} {y:Yd} (h:zju cs = some y):cs = ydC y:=by
 unfold zju at h
 split at h
 ·split at h
  ·rename_i h1 h2 h3 h4 h5 h6
   cases h
   rw [zbt _ _ h1,zbt _ _ h2,zbt _ _ h3,zbt _ _ h4,zbt _ _ h5,zbt _ _ h6]
   rfl
  ·cases h
 ·cases h
theorem zfD (y:Yd):∀ c ∈ ydC y,zbq 2 c:=by
 simp only [ydC,zbq,czn,czk,or_false,forall_eq_or_imp,forall_eq,true_and,czx,forall_exists_index,and_imp,forall_apply_eq_imp_iff₂]
 exact ⟨fun a _ => EncE.ok a,fun a _ => EncE.ok a,fun a _ => EncE.ok a,fun a _ => EncE.ok a,fun a _ => EncE.ok a,fun a _ => EncE.ok a⟩
instance:Enc Yd where
 enc y:=.agg (ydC y)
 dec
  | .agg cs => zju cs
  | _ => none
 law v x h:=by
  split at h
  ·rw [zfy h]
  ·cases h
 dep:=3
 ok:=zfD
theorem enc_yd (y:Yd):Enc.enc y = .agg [.int .i64 y.t.last,.sl (y.t.heights.map EncE.cs) .no,.int .i64 y.t.step,.sl (y.t.levels.map EncE.cs) .no,.sl (y.t.marks.map EncE.cs) .no,
 .int .i64 y.hands,.sl (y.chairs.map EncE.cs) .no,.sl (y.order.map EncE.cs) .no,.sl (y.hires.map EncE.cs) .no]:=rfl
def zbz:=And.intro @zrJ (And.intro @zrL (And.intro @zrK (And.intro @zeu (And.intro @zrM (And.intro @zni (And.intro @zjO (And.intro @zjN (And.intro @enc_rg (And.intro @enc_mk (And.intro @enc_ch (And.intro @enc_sy (And.intro @enc_sea (And.intro @enc_ba (And.intro @zoW @enc_yd))))))))))))))
theorem dec_yd (a c f:Int) (b d e g h i:List (List AV)):(Enc.dec (.agg [.int .i64 a,.sl b .no,.int .i64 c,.sl d .no,.sl e .no,.int .i64 f,.sl g .no,.sl h .no,.sl i .no]):Option Yd) =
  match (zdH b:Option (List Rg)),(zdH d:Option (List Int)),(zdH e:Option (List Mk)),(zdH g:Option (List Ch)),(zdH h:Option (List Int)),(zdH i:Option (List Rg)) with
  | some b,some d,some e,some g,some h,some i => some ⟨⟨a,b,c,d,e⟩,f,g,h,i⟩
  | _,_,_,_,_,_ => none:=rfl
theorem eta_yd (y:Yd):(⟨⟨y.t.last,y.t.heights,y.t.step,y.t.levels,y.t.marks⟩,y.hands,y.chairs,y.order,y.hires⟩:Yd) = y:=rfl
theorem eta_yd' (y:Yd):(⟨y.t,y.hands,y.chairs,y.order,y.hires⟩:Yd) = y:=rfl
theorem zbc {n:Nat} {mem:List AObj} (l:List Bool):(l.map AV.bool).map (zb3 (n + 1) mem) = l.map AV.bool:=by
 rw [List.map_map]; rfl
theorem za3 (l:List Bool):(l.map AV.bool).map AV.strip = l.map AV.bool:=by rw [List.map_map]; rfl
theorem zaZ (l:List Bool):(l.map AV.bool).map AV.strip1 = l.map AV.bool:=by rw [List.map_map]; rfl
theorem zbb (l:List Bool):(l.map AV.bool).map AV.soft = l.map AV.bool:=by rw [List.map_map]; rfl
theorem zbo {n:Nat} (l:List Bool):(∀ c ∈ l.map AV.bool,imm (n + 1) c) = True:=eq_true (zgK (fun b => trivial) l)
theorem zbd {n:Nat} (l:List Bool):(∀ c ∈ l.map AV.bool,zjo (n + 1) c) = True:=eq_true (zgK (fun b => trivial) l)
theorem zbm (l:List Bool):(∀ c ∈ l.map AV.bool,c.one = true) = True:=eq_true (zgK (fun b => rfl) l)
theorem bel_bools {k n:Nat} (l:List Bool):(∀ c ∈ l.map AV.bool,bel k (n + 1) c) = True:=eq_true (zgK (fun b => trivial) l)
theorem take_ba {n:Nat} (x:BA n):(x.l.map AV.bool).take n = x.l.map AV.bool:=cze (by simp [x.h])
theorem zqM {n:Nat} {mem:List AObj} (l:List Bool):(l.map AV.bool).map (zbV (zb3 (n + 1) mem) mem) = l.map AV.bool:=by
 rw [List.map_map]; rfl
theorem zvE {l:List Bool} {i:Nat} (h:i < l.length):(l.map AV.bool).getD i .undef = .bool (at_ l i):=by simp [at_,List.getD,h]
theorem zdropB:List.drop 10 [AV.bool false,AV.bool false,AV.bool false,AV.bool false,AV.bool false,AV.bool false,AV.bool false,AV.bool false,AV.bool false,AV.bool false] = []:=rfl
theorem zlS {l:List Bool} {i:Nat} (h:i < l.length) (v:Bool):zaq (l.map AV.bool) i [.bool v] = (l.set i v).map AV.bool:=by
 unfold zaq
 rw [← List.map_take,← List.map_drop,List.set_eq_take_append_cons_drop,if_pos h]
 simp
theorem over_at {a b c v:List AV} (h:v.length = b.length):zaq (a ++ (b ++ c)) a.length v = a ++ (v ++ c):=by
 unfold zaq
 rw [List.take_left,List.drop_append,czM (by omega),List.nil_append,Nat.add_sub_cancel_left,h,List.drop_left,czd]
theorem zjf {sz:Nat}:∀ es:List (List AV),(∀ e ∈ es,e.length = sz) → zc4 sz es.length es.flatten = es
 | [],_ => rfl
 | e :: es,h => by
  have h0:=h e (by simp)
  simp only [cza,List.flatten_cons,zc4]
  rw [List.take_left' h0,List.drop_left' h0,zjf es (fun x hx => h x (by simp [hx]))]
theorem zu4 {mem:List AObj} {n m:Nat} {v:AV} (h:zbq n v) (hm:n ≤ m):zbV (zb3 m mem) mem v = v:=by
 have hp:=zhX (mem:=mem) n m v h hm
 cases v <;> first | exact hp | (exfalso; cases n <;> simp [zbq] at h)
theorem zuQ {α:Type} [EncE α] {mem:List AObj} {n:Nat} (h:EncE.dep α ≤ n) (l:List α):((l.map EncE.cs).flatten).map (zbV (zb3 n mem) mem) = (l.map EncE.cs).flatten:=by
 refine zcF fun c hc => ?_
 obtain ⟨e,he,hce⟩:=List.mem_flatten.1 hc
 obtain ⟨x,_,rfl⟩:=czx.1 he
 exact zu4 (EncE.ok x c hce) h
theorem zv8 {k n:Nat} (p q:Prop):(∀ c:AV,(p → AV.bool false = c → bel k (n + 1) c) ∧ (q → AV.bool true = c → bel k (n + 1) c)) = True:=eq_true fun c => ⟨fun _ e => e ▸ trivial,fun _ e => e ▸ trivial⟩
theorem zv7 {k n:Nat} (p q:Prop):(∀ c:AV,p ∧ AV.bool false = c ∨ q ∧ AV.bool true = c → bel k (n + 1) c) = True:=eq_true fun c h => by
 rcases h with ⟨_,e⟩ | ⟨_,e⟩ <;> subst e <;> trivial
def za2:=And.intro @znr (And.intro @cs_arr (And.intro @zrQ (And.intro @zel (And.intro @zrW (And.intro @zrV (And.intro @cs_rg (And.intro @cs_mk (And.intro @cs_ch (And.intro @cs_sy (And.intro @cs_sea (And.intro @cs_ba (And.intro @zch (And.intro @zdJ (And.intro @zkJ (And.intro @znl (And.intro @znk (And.intro @dep_rg (And.intro @dep_mk (And.intro @dep_ch (And.intro @zts (And.intro @zfU (And.intro @dep_ba (And.intro @znq (And.intro @ztC (And.intro @ztB (And.intro @zpb (And.intro @bel_int (And.intro @zpd (And.intro @ztz (And.intro @ztA (And.intro @zsb (And.intro @zsc (And.intro @bel_mp (And.intro @zr9 (And.intro @bel_agg (And.intro @bel_tup (And.intro @zsa (And.intro @zty (And.intro @bel_mpr (And.intro @bel_fn (And.intro @zmr (And.intro @zkX (And.intro @zkW (And.intro @zkY (And.intro @zms (And.intro @zbl (And.intro @zc5 (And.intro @zdl (And.intro @zbB (And.intro @zde (And.intro @ziu (And.intro @zcr (And.intro @bel_vec (And.intro @bel_vp (And.intro @zpe (And.intro @ztD (And.intro @bel_bools (And.intro @zv8 @zv7))))))))))))))))))))))))))))))))))))))))))))))))))))))))))
attribute [go_sem] enc_ba cs_ba dec_ba dcs_ba dep_ba sz_ba eta_ba enc_ch cs_ch dec_ch dcs_ch dep_ch sz_ch eta_ch enc_sy cs_sy dec_sy dcs_sy zts sz_sy eta_sy enc_sea cs_sea dec_sea dcs_sea zfU sz_sea eta_sea enc_yd dec_yd eta_yd eta_yd' zdh zkR zoZ zbc za3 zaZ zbb zbo zbd zbm take_ba zqM zdropB
end Go.Fs
namespace Go.Fs
def zmv (W:Nat → Bool) (r h:Nat):Bool:=(List.range r).all fun k => W (h - k)
def zeV (W:Nat → Bool) (r:Nat):Nat → Option Nat
 | 0 => none
 | k + 1 => match zeV W r k with
  | some h => some h
  | none => if decide (r ≤ k + 1) && zmv W r k then some k else none
def ziA (W:Nat → Bool) (r n:Nat):Nat:=(zeV W r n).getD n
theorem zgp {W:Nat → Bool} {r:Nat}:∀ {k h:Nat},zeV W r k = some h → h < k
 | 0,h,e => by cases e
 | k + 1,h,e => by
  unfold zeV at e
  cases c:zeV W r k with
  | some h' =>
   rw [c] at e
   have:=zgp c
   cases e; omega
  | none =>
   rw [c] at e
   simp only at e
   split at e
   ·cases e; omega
   ·cases e
theorem zn8 {W:Nat → Bool} {r k h:Nat} (e:zeV W r k = some h):∀ m,zeV W r (k + m) = some h
 | 0 => e
 | m + 1 => by
  show zeV W r (k + m + 1) = some h
  unfold zeV
  rw [zn8 e m]
theorem zgS {W:Nat → Bool} {r k n h:Nat} (hk:k ≤ n) (e:zeV W r k = some h):zeV W r n = some h:=by
 have:=zn8 e (n - k)
 rwa [show k + (n - k) = n by omega] at this
theorem zkc {W:Nat → Bool} {r:Nat}:∀ k,k < r → zeV W r k = none
 | 0,_ => rfl
 | k + 1,h => by
  unfold zeV
  rw [zkc k (by omega),if_neg]
  simp; omega
theorem zn9 {W:Nat → Bool} {r k n h:Nat} (e:zeV W r n = some h) (hk:h < k) (hkn:k ≤ n):zeV W r k = some h:=by
 cases c:zeV W r k with
 | some h' => rw [zgS hkn c] at e; exact e
 | none =>
  exfalso
  have key:∀ m,zeV W r (k + m) = some h → False:=by
   intro m
   induction m with
   | zero => intro q; rw [Nat.add_zero,c] at q; cases q
   | succ m ih =>
    intro q
    rw [← Nat.add_assoc] at q
    unfold zeV at q
    cases c2:zeV W r (k + m) with
    | some h2 => rw [c2] at q; cases q; exact ih c2
    | none =>
     rw [c2] at q
     simp only at q
     split at q
     ·cases q; omega
     ·cases q
  have:=key (n - k)
  rw [show k + (n - k) = n by omega] at this
  exact this e
theorem rotR_le (W:Nat → Bool) (r n:Nat):ziA W r n ≤ n:=by
 unfold ziA
 cases c:zeV W r n with
 | none => exact czf _
 | some h => have:=zgp c; simp; omega
def zj8 (W:Nat → Bool):Nat → Nat
 | 0 => 0
 | k + 1 => if W k then zj8 W k + 1 else 0
theorem runW_le (W:Nat → Bool):∀ k,zj8 W k ≤ k
 | 0 => czf _
 | k + 1 => by
  unfold zj8
  have:=runW_le W k
  split <;> omega
theorem zjE (W:Nat → Bool):∀ (r k:Nat),1 ≤ r → (r ≤ zj8 W (k + 1) ↔ r ≤ k + 1 ∧ zmv W r k = true)
 | 0,k,h => by omega
 | 1,k,_ => by
  unfold zj8
  cases c:W k
  ·simp [zmv,c]
  ·simp [zmv,c]
 | r + 2,0,_ => by
  unfold zj8 zj8
  split <;> omega
 | r + 2,k + 1,_ => by
  have ih:=zjE W (r + 1) k (by omega)
  have e:zmv W (r + 2) (k + 1) = (W (k + 1) && zmv W (r + 1) k):=by
   unfold zmv
   rw [List.range_succ_eq_map,List.all_cons,List.all_map]
   congr 1
   have:(fun k_1 => W (k + 1 - k_1)) ∘ Nat.succ = fun j => W (k - j):=by
    funext j
    show W (k + 1 - (j + 1)) = W (k - j)
    congr 1
    omega
   rw [this]
  rw [e]
  show r + 2 ≤ (if W (k + 1) then zj8 W (k + 1) + 1 else 0) ↔ _
  cases c:W (k + 1)
  ·simp
  ·simp only [if_true,Bool.true_and]
   rw [show r + 2 ≤ zj8 W (k + 1) + 1 ↔ r + 1 ≤ zj8 W (k + 1) by omega,ih]
   constructor
   ·rintro ⟨h1,h2⟩; exact ⟨by omega,h2⟩
   ·rintro ⟨h1,h2⟩; exact ⟨by omega,h2⟩
def zqT (W:Nat → Bool) (r:Int) (n:Nat):Nat → Int
 | 0 => n
 | k + 1 => if W k && decide ((zj8 W (k + 1):Int) = r) then min (zqT W r n k) k else zqT W r n k
theorem zqS {W:Nat → Bool} {r n:Nat} (hr:1 ≤ r):∀ k,k ≤ n → zqT W r n k = (((zeV W r k).getD n:Nat):Int)
 | 0,_ => rfl
 | k + 1,hk => by
  have ih:=zqS (W:=W) (n:=n) hr k (by omega)
  unfold zqT zeV
  rw [ih]
  cases c:zeV W r k with
  | some h =>
   have:=zgp c
   simp only [Option.getD_some]
   split <;> omega
  | none =>
   simp only [Option.getD_none]
   have hi:=zjE W r k hr
   have hlt:k = 0 ∨ zj8 W k < r:=by
    by_cases q:zj8 W k < r
    ·exact .inr q
    ·left
     cases k with
     | zero => rfl
     | succ k =>
      exfalso
      obtain ⟨h1,h2⟩:=(zjE W r k hr).1 (by omega)
      unfold zeV at c
      cases c2:zeV W r k with
      | some h => rw [c2] at c; cases c
      | none => rw [c2] at c; simp [h1,h2] at c
   by_cases q:decide (r ≤ k + 1) && zmv W r k
   ·rw [if_pos q]
    have q':=q
    simp only [czl,decide_eq_true_eq] at q'
    have h1:=hi.2 q'
    have h2:W k = true ∧ zj8 W (k + 1) = r:=by
     unfold zj8 at h1 ⊢
     cases c3:W k
     ·rw [c3] at h1; simp at h1; omega
     ·rw [c3] at h1
      simp only [if_true] at h1 ⊢
      refine ⟨trivial,?_⟩
      rcases hlt with rfl | h
      ·simp [zj8] at h1 ⊢; omega
      ·omega
    rw [h2.1,h2.2]
    simp; omega
   ·rw [if_neg q,if_neg]
    ·rfl
    ·intro h
     simp only [czl,decide_eq_true_eq] at h
     apply q
     simp only [czl,decide_eq_true_eq]
     exact hi.1 (by omega)
def zeX (W:Nat → Bool):Nat → Int
 | 0 => -1
 | k + 1 => if W k then k else zeX W k
theorem ztl (W:Nat → Bool):∀ k,-1 ≤ zeX W k ∧ zeX W k < k
 | 0 => by simp [zeX]
 | k + 1 => by
  unfold zeX
  have:=ztl W k
  split <;> omega
def zqq (W:Nat → Bool) (rot:Nat) (hours:Int) (h:Nat):Bool:=!W h && (decide (h < rot) && (decide (zeX W h < 0) || decide (hours < h - zeX W h)))
def znn (W:Nat → Bool) (n:Nat):Int:=(((List.range n).filter W).length:Nat)
def zeZ (W:Nat → Bool) (rot:Nat) (hours:Int) (n:Nat):List Int:=((List.range n).filter (zqq W rot hours)).map fun h:Nat => (h:Int)
theorem zo3 (W:Nat → Bool) (n:Nat):znn W (n + 1) = if W n then znn W n + 1 else znn W n:=by
 unfold znn
 rw [List.range_succ,List.filter_append,czc]
 cases c:W n <;> simp [c]
theorem cntW_bd (W:Nat → Bool) (n:Nat):0 ≤ znn W n ∧ znn W n ≤ n:=by
 unfold znn
 have:=List.length_filter_le W (List.range n)
 simp at this
 omega
theorem zl8 (W:Nat → Bool) (rot:Nat) (hours:Int) (n:Nat):zeZ W rot hours (n + 1) = if zqq W rot hours n then zeZ W rot hours n ++ [(n:Int)] else zeZ W rot hours n:=by
 unfold zeZ
 rw [List.range_succ,List.filter_append,List.map_append]
 cases c:zqq W rot hours n <;> simp [c]
theorem zim (W:Nat → Bool) (rot:Nat) (hours:Int) (n:Nat):(zeZ W rot hours n).length ≤ n:=by
 unfold zeZ
 have:=List.length_filter_le (zqq W rot hours) (List.range n)
 simp at this ⊢
 omega
theorem mem_freeW {W:Nat → Bool} {rot:Nat} {hours:Int} {n:Nat} {x:Int}:x ∈ zeZ W rot hours n ↔ ∃ h:Nat,h < n ∧ zqq W rot hours h = true ∧ x = h:=by
 unfold zeZ
 simp only [czx,List.mem_filter,List.mem_range]
 constructor
 ·rintro ⟨h,⟨h1,h2⟩,rfl⟩; exact ⟨h,h1,h2,rfl⟩
 ·rintro ⟨h,h1,h2,rfl⟩; exact ⟨h,⟨h1,h2⟩,rfl⟩
theorem zlo {W:Nat → Bool} {rot:Nat} {hours:Int} {n:Nat} {h:Nat} (hh:h < n):(zeZ W rot hours n).contains (h:Int) = zqq W rot hours h:=by
 rw [Bool.eq_iff_iff]
 simp only [List.contains_eq_mem,decide_eq_true_eq]
 rw [mem_freeW]
 constructor
 ·rintro ⟨k,_,h2,e⟩
  rwa [show h = k by omega]
 ·intro q; exact ⟨h,hh,q,rfl⟩
def syW (W:Nat → Bool) (c:Ch) (n:Nat):Sy:=⟨znn W n,(ziA W c.rot.toNat n:Nat),zeZ W (ziA W c.rot.toNat n) c.hours n⟩
theorem rotP_last {W:Nat → Bool} {r n k:Nat} (hr:1 ≤ r) (hk:k < n) (hw:W k = false):decide ((k:Int) < zqT W r n k) = decide (k < ziA W r n):=by
 rw [zqS hr k (by omega)]
 unfold ziA
 cases c:zeV W r n with
 | some h =>
  have hh:=zgp c
  by_cases q:h < k
  ·rw [zn9 c q (by omega)]
   simp
  ·have hne:h ≠ k:=by
    rintro rfl
    have:=zn9 c (k:=h + 1) (by omega) (by omega)
    unfold zeV at this
    cases c2:zeV W r h with
    | some h2 =>
     rw [c2] at this
     have:=zgp c2
     simp_all
    | none =>
     rw [c2] at this
     simp only at this
     split at this
     ·rename_i q2
      simp only [czl,decide_eq_true_eq] at q2
      have h3:=(zjE W r h hr).2 q2
      unfold zj8 at h3
      rw [hw] at h3
      simp at h3
      omega
     ·cases this
   have hn:zeV W r k = none:=by
    cases c2:zeV W r k with
    | none => rfl
    | some h2 =>
     have h3:=zgp c2
     have:=zgS (n:=n) (by omega) c2
     rw [c] at this
     cases this
     omega
   rw [hn]
   simp; omega
 | none =>
  have hn:zeV W r k = none:=by
   cases c2:zeV W r k with
   | none => rfl
   | some h2 => rw [zgS (by omega) c2] at c; cases c
  rw [hn]
  simp
theorem znU {W V:Nat → Bool} {c:Ch} {n:Nat} (h:∀ k,k < n → W k = V k):syW W c n = syW V c n:=by
 have hall:∀ r k,k < n → zmv W r k = zmv V r k:=fun r k hk => by
  unfold zmv
  congr 1
  funext j
  exact h _ (by omega)
 have hrot:∀ r k,k ≤ n → zeV W r k = zeV V r k:=fun r k => by
  induction k with
  | zero => intro _; rfl
  | succ k ih =>
   intro hk
   unfold zeV
   rw [ih (by omega),hall r k (by omega)]
 have hlast:∀ k,k ≤ n → zeX W k = zeX V k:=fun k => by
  induction k with
  | zero => intro _; rfl
  | succ k ih =>
   intro hk
   unfold zeX
   rw [ih (by omega),h k (by omega)]
 have hR:ziA W c.rot.toNat n = ziA V c.rot.toNat n:=by unfold ziA; rw [hrot _ _ (czf _)]
 have hc:znn W n = znn V n:=by
  unfold znn
  congr 2
  apply List.filter_congr
  intro k hk
  exact h k (by simpa using hk)
 have hf:zeZ W (ziA V c.rot.toNat n) c.hours n = zeZ V (ziA V c.rot.toNat n) c.hours n:=by
  unfold zeZ
  congr 1
  apply List.filter_congr
  intro k hk
  have hk':k < n:=by simpa using hk
  unfold zqq
  rw [h k hk',hlast k (by omega)]
 unfold syW
 rw [hR,hc,hf]
end Go.Fs
namespace Go.Proofs
open Go.Fs
set_option maxHeartbeats 4000000
structure PS (n0:Nat) (P:(Nat → Prop) → Prop) (al:List Int) (q:List Int → Bool):Prop where
 mono:∀ S T:Nat → Prop,(∀ k,k < n0 → T k → S k) → P S → P T
 none:∀ S:Nat → Prop,(∀ k,k < n0 → ¬ S k) → P S
 can:∀ m:Nat,m < 2 ^ n0 → (zv0 al (m:Int) = true ↔ P (fun k => m.testBit k = true))
 cast:∀ l:List Nat,q (zcg l) = true ↔ P (fun k => k ∉ l)
structure LeastG (n0:Nat) (P:(Nat → Prop) → Prop) (l:List Nat):Prop where
 inc:Inc 0 n0 l
 poss:P (fun k => k ∉ l)
 least:∀ l',Inc 0 n0 l' → P (fun k => k ∉ l') → zcy (zcg l') (zcg l) = false
theorem LeastG.eq {n0:Nat} {P:(Nat → Prop) → Prop} {a b:List Nat} (h1:LeastG n0 P a) (h2:LeastG n0 P b):a = b :=
 zkM (zhM (h2.least a h1.inc h1.poss) (h1.least b h2.inc h2.poss))
theorem can_bitsG {n0:Nat} {P:(Nat → Prop) → Prop} {al:List Int} {q:List Int → Bool} (hv:PS n0 P al q) {b:Nat} (hb:b < 2 ^ n0):zv0 al (((2 ^ n0 - 1) - ((2 ^ n0 - 1) &&& b):Nat):Int) = true ↔ P (fun k => k ∉ zeK b n0):=by
 rw [hv.can _ (by have:=Nat.two_pow_pos n0; omega)]
 have key:∀ k,k < n0 → (((2 ^ n0 - 1) - ((2 ^ n0 - 1) &&& b)).testBit k = true ↔ k ∉ zeK b n0):=by
  intro k hk
  rw [znV rfl hb]
  unfold zeK
  rw [List.mem_filter,List.mem_range]
  simp [hk]
 exact ⟨fun h => hv.mono _ _ (fun k hk hS => (key k hk).2 hS) h,fun h => hv.mono _ _ (fun k hk hS => (key k hk).1 hS) h⟩
theorem zid {n0:Nat} {P:(Nat → Prop) → Prop} {al:List Int} {q:List Int → Bool} (hv:PS n0 P al q):∀ n,n ≤ 2 ^ n0 → ∃ l,zdQ al (2 ^ n0 - 1) n = zcg l ∧ Inc 0 n0 l ∧ P (fun k => k ∉ l) ∧
  ∀ b,b < n → P (fun k => k ∉ zeK b n0) → zcy (zcg (zeK b n0)) (zcg l) = false
 | 0,_ => by
  have h2:=Nat.two_pow_pos n0
  refine ⟨zeK (2 ^ n0 - 1) n0,by rw [zdQ,zmo (n:=n0) (by omega)],zlT _ _,hv.none _ fun k hk => ?_,fun b hb => by omega⟩
  intro q
  apply q
  unfold zeK
  rw [List.mem_filter,List.mem_range,zcC]
  simpa using hk
 | n + 1,hn => by
  obtain ⟨l,h1,h2,h3,h4⟩:=zid hv n (by omega)
  have hb:n < 2 ^ n0:=by omega
  have hc:=can_bitsG hv hb
  rw [zdQ,h1,zmo hb]
  cases c1:zcy (zcg (zeK n n0)) (zcg l)
  ·refine ⟨l,by rw [Bool.false_and,if_neg (by simp)],h2,h3,fun b hb hP => ?_⟩
   by_cases e:b = n
   ·subst e; exact c1
   ·exact h4 b (by omega) hP
  ·cases c2:zv0 al (((2 ^ n0 - 1) - ((2 ^ n0 - 1) &&& n):Nat):Int)
   ·refine ⟨l,by rw [Bool.true_and,if_neg (by simp)],h2,h3,fun b hb hP => ?_⟩
    by_cases e:b = n
    ·subst e
     rw [hc.2 hP] at c2; cases c2
    ·exact h4 b (by omega) hP
   ·refine ⟨zeK n n0,by rw [Bool.true_and,if_pos rfl],zlT _ _,hc.1 c2,fun b hb hP => ?_⟩
    by_cases e:b = n
    ·subst e; exact zli _
    ·rw [Bool.eq_false_iff]
     intro q
     have:=h4 b (by omega) hP
     rw [zmK q c1] at this
     cases this
theorem zm8 {n0:Nat} {P:(Nat → Prop) → Prop} {al:List Int} {q:List Int → Bool} (hv:PS n0 P al q):∃ l,zdQ al (2 ^ n0 - 1) (2 ^ n0) = zcg l ∧ LeastG n0 P l:=by
 obtain ⟨l,h1,h2,h3,h4⟩:=zid hv _ (czf _)
 refine ⟨l,h1,h2,h3,fun l' hi hP => ?_⟩
 have:=h4 (zj2 l') (zw1 fun x hx => (hi.mem x hx).2)
 rw [zmY hi] at this
 exact this hP
/-! The program's search. -/
def zcP (q:List Int → Bool) (n0:Nat):Nat → List Nat → Nat → Option (List Nat)
 | 0,out,_ => if q (zcg out) then some out else none
 | m + 1,out,frm => (List.range (n0 - m - frm)).findSome? fun k => zcP q n0 m (out ++ [frm + k]) (frm + k + 1)
theorem zi8 {n0:Nat} {P:(Nat → Prop) → Prop} {al:List Int} {q:List Int → Bool} (hv:PS n0 P al q):∀ (m:Nat) (out:List Nat) (frm:Nat),
  (∀ x,zcP q n0 m out frm = some x → ∃ y,x = out ++ y ∧ Inc frm n0 y ∧ y.length = m ∧ q (zcg x) = true ∧
   ∀ z,Inc frm n0 z → z.length = m → q (zcg (out ++ z)) = true → zb2 (zcg z) (zcg y) = false) ∧
  (zcP q n0 m out frm = none → ∀ z,Inc frm n0 z → z.length = m → q (zcg (out ++ z)) = false)
 | 0,out,frm => by
  unfold zcP
  constructor
  ·intro x hx
   split at hx
   ·rename_i c
    cases hx
    refine ⟨[],by simp,trivial,rfl,c,fun z _ hz _ => ?_⟩
    rw [List.length_eq_zero_iff] at hz
    subst hz; rfl
   ·cases hx
  ·intro hx z _ hz
   rw [List.length_eq_zero_iff] at hz
   subst hz
   rw [List.append_nil]
   split at hx
   ·cases hx
   ·rename_i c; simpa using c
 | m + 1,out,frm => by
  have ih:=fun k => zi8 hv m (out ++ [frm + k]) (frm + k + 1)
  have hz1:∀ z,Inc frm n0 z → z.length = m + 1 → ∃ a r,z = a :: r ∧ frm ≤ a ∧ a - frm < n0 - m - frm ∧ Inc (a + 1) n0 r ∧ r.length = m:=by
   intro z hz hl
   cases z with
   | nil => simp at hl
   | cons a r =>
    have hr:r.length = m:=by simpa using hl
    have h1:=hz.1
    refine ⟨a,r,rfl,h1.1,?_,hz.2,hr⟩
    by_cases e:r = []
    ·subst e; simp at hr; omega
    ·have:=hz.2.len e; omega
  unfold zcP
  constructor
  ·intro x hx
   rw [List.findSome?_eq_some_iff] at hx
   obtain ⟨l1,k,l2,hl,hk,hno⟩:=hx
   have hkk:l1 = List.range k ∧ k < n0 - m - frm:=by
    have h1:=congrArg List.length hl
    simp at h1
    have h3:=congrArg (fun l => l[l1.length]?) hl
    simp at h3
    rw [List.getElem?_range (by omega)] at h3
    have h4:l1.length = k:=by simpa using h3
    have h5:=congrArg (List.take l1.length) hl
    rw [List.take_left,List.take_range] at h5
    refine ⟨?_,by omega⟩
    rw [← h5]
    congr 1
    omega
   obtain ⟨y,h1,h2,h3,h4,h5⟩:=(ih k).1 x hk
   refine ⟨(frm + k) :: y,by rw [h1]; simp,⟨⟨by omega,by omega⟩,h2⟩,by simp [h3],h4,fun z hz hl hp => ?_⟩
   obtain ⟨a,r,rfl,g1,g2,g3,g4⟩:=hz1 z hz hl
   by_cases c:a - frm < k
   ·have:=(ih (a - frm)).2 (hno (a - frm) (by rw [hkk.1]; simpa using c)) r (by rw [show frm + (a - frm) + 1 = a + 1 by omega]; exact g3) g4
    rw [show frm + (a - frm) = a by omega,czd] at this
    rw [show out ++ a :: r = out ++ ([a] ++ r) from rfl,this] at hp
    cases hp
   ·show zb2 ((a:Int) :: zcg r) (((frm + k:Nat):Int) :: zcg y) = false
    unfold zb2
    by_cases e:a = frm + k
    ·subst e
     rw [if_pos rfl]
     refine h5 r g3 g4 ?_
     rw [czd]; exact hp
    ·rw [if_neg (by omega)]
     simp; omega
  ·intro hx z hz hl
   rw [List.findSome?_eq_none_iff] at hx
   obtain ⟨a,r,rfl,g1,g2,g3,g4⟩:=hz1 z hz hl
   have:=(ih (a - frm)).2 (hx (a - frm) (by simpa using g2)) r (by rw [show frm + (a - frm) + 1 = a + 1 by omega]; exact g3) g4
   rw [show frm + (a - frm) = a by omega,czd] at this
   exact this
def zhr (q:List Int → Bool) (n0:Nat):Nat → Nat → Option (List Nat)
 | 0,_ => none
 | f + 1,m => match zcP q n0 m [] 0 with
  | some x => some x
  | none => zhr q n0 f (m + 1)
theorem zic {n0:Nat} {P:(Nat → Prop) → Prop} {al:List Int} {q:List Int → Bool} (hv:PS n0 P al q):∀ (f m:Nat),m + f = n0 + 1 → (∀ z,Inc 0 n0 z → z.length < m → ¬ P (fun k => k ∉ z)) → ∃ x,zhr q n0 f m = some x ∧ LeastG n0 P x
 | 0,m,hf,hno => by
  exfalso
  refine hno (List.range n0) (inc_of List.pairwise_lt_range fun x hx => by rw [List.mem_range] at hx; omega) (by simp; omega) (hv.none _ fun k hk q => q (by simpa using hk))
 | f + 1,m,hf,hno => by
  obtain ⟨h1,h2⟩:=zi8 hv m [] 0
  unfold zhr
  cases c:zcP q n0 m [] 0 with
  | some x =>
   obtain ⟨y,e,g1,g2,g3,g4⟩:=h1 x c
   rw [List.nil_append] at e
   subst e
   refine ⟨x,rfl,g1,(hv.cast x).1 g3,fun z hz hP => ?_⟩
   rw [Bool.eq_false_iff]
   intro q
   rw [zfF] at q
   have hl:∀ l:List Nat,(zcg l).length = l.length:=fun l => by simp [zcg]
   rw [hl,hl] at q
   rcases q with q | ⟨q,q2⟩
   ·exact hno z hz (by omega) hP
   ·have:=g4 z hz (by omega) ((hv.cast _).2 hP)
    rw [this] at q2; cases q2
  | none =>
   refine zic hv f (m + 1) (by omega) fun z hz hl hP => ?_
   by_cases e:z.length = m
   ·have:=h2 c z hz e
    rw [List.nil_append,(hv.cast z).2 hP] at this
    cases this
   ·exact hno z hz (by omega) hP
theorem zvs {n0:Nat} {P:(Nat → Prop) → Prop} {al:List Int} {q:List Int → Bool} (hv:PS n0 P al q):∃ x,zhr q n0 (n0 + 1) 0 = some x ∧ zdQ al (2 ^ n0 - 1) (2 ^ n0) = zcg x ∧ LeastG n0 P x:=by
 obtain ⟨x,h1,h2⟩:=zic hv (n0 + 1) 0 (by omega) (fun z _ h => by omega)
 obtain ⟨l,g1,g2⟩:=zm8 hv
 have e:=h2.eq g2
 subst e
 exact ⟨x,h1,g1,g2⟩
theorem snoc_ind {α:Type} {P:List α → Prop} (h0:P []) (h1:∀ l x,P l → P (l ++ [x])):∀ l,P l:=by
 have key:∀ (n:Nat) (l:List α),l.length = n → P l:=by
  intro n
  induction n with
  | zero => intro l hl; rw [List.length_eq_zero_iff] at hl; rw [hl]; exact h0
  | succ n ih =>
   intro l hl
   have hne:l ≠ []:=by intro e; rw [e] at hl; simp at hl
   rw [← List.dropLast_concat_getLast hne]
   exact h1 _ _ (ih _ (by simp [hl]))
 exact fun l => key _ l rfl
def hrs (y:Yd):Nat:=(y.t.last + 1).toNat
def inY (hands:Int) (order:List Int) (c:Int) (h:Nat):Bool:=(order.take (hands * ((h:Int) + 1)).toNat).contains c
def lvY (y:Yd) (c:Int):Int:=at_ y.t.levels (at_ y.chairs c.toNat).row.toNat
def zmz (y:Yd) (order hs:List Int) (c:Int) (h:Nat):Bool:=decide (lvY y c < at_ hs h) && !inY y.hands order c h
def zlg (y:Yd) (order hs:List Int) (c:Int):Nat:=ziA (zmz y order hs c) (at_ y.chairs c.toNat).rot.toNat (hrs y)
def zkN (y:Yd) (order hs:List Int) (c:Int) (h:Nat):Bool:=zqq (zmz y order hs c) (zlg y order hs c) (at_ y.chairs c.toNat).hours h
def zdt (y:Yd) (order hs:List Int) (c:Int):Sy:=syW (zmz y order hs c) (at_ y.chairs c.toNat) (hrs y)
theorem zkj (y:Yd) (order hs:List Int) (c:Int):(zdt y order hs c).rot = zlg y order hs c:=rfl
theorem zlP (y:Yd) (order hs:List Int) (c:Int):(zdt y order hs c).free = zeZ (zmz y order hs c) (zlg y order hs c) (at_ y.chairs c.toNat).hours (hrs y):=rfl
def zaG (n:Nat) (l:List Int):Bool:=(List.range l.length).all fun i => inB (at_ l i) 0 ((n:Int) - 1) && !(l.take i).contains (at_ l i)
theorem zsf {α:Type} [Inhabited α] {a b:List α} {i:Nat} (h:i < a.length):at_ (a ++ b) i = at_ a i:=by
 simp [at_,List.getD,czi h]
theorem zwa {α:Type} [Inhabited α] (a:List α) (x:α):at_ (a ++ [x]) a.length = x:=by simp [at_,List.getD]
theorem zei (n:Nat) (l:List Int) (x:Int):zaG n (l ++ [x]) = (zaG n l && (inB x 0 ((n:Int) - 1) && !l.contains x)):=by
 unfold zaG
 rw [czc,cza,czy,Nat.zero_add,List.range_succ,List.all_append]
 congr 1
 ·apply zdE
  intro i hi
  have hi':i < l.length:=by simpa using hi
  rw [zsf hi',List.take_append_of_le_length (by omega)]
 ·simp only [List.all_cons,List.all_nil,Bool.and_true]
  rw [zwa,List.take_left']
  rfl
theorem zfP (n:Nat):∀ l:List Int,zaG n l = true ↔ (∀ x ∈ l,0 ≤ x ∧ x < n) ∧ l.Nodup:=by
 apply snoc_ind
 ·simp [zaG]
 ·intro l x ih
  rw [zei,czl,ih,czl,zbJ]
  rw [List.nodup_append]
  simp only [czv,czC,Bool.not_eq_true',List.contains_eq_mem,decide_eq_false_iff_not]
  constructor
  ·rintro ⟨⟨h1,h2⟩,h3,h4⟩
   refine ⟨?_,h2,by simp,?_⟩
   ·rintro y (h | rfl)
    ·exact h1 y h
    ·omega
   ·rintro a ha b rfl e
    subst e
    exact h4 ha
  ·rintro ⟨h1,h2,_,h4⟩
   refine ⟨⟨fun y hy => h1 y (.inl hy),h2⟩,?_,?_⟩
   ·have:=h1 x (.inr rfl); omega
   ·intro hx; exact h4 x hx x rfl rfl
theorem zgx {n:Nat} {l:List Int} (h:zaG n l = true) (k:Nat):zaG n (l.take k) = true:=by
 rw [zfP] at h ⊢
 exact ⟨fun x hx => h.1 x (List.mem_of_mem_take hx),h.2.sublist (List.take_sublist _ _)⟩
theorem zkl:∀ (n:Nat) (l:List Int),(∀ x ∈ l,0 ≤ x ∧ x < (n:Int)) → l.Nodup → l.length ≤ n
 | 0,l,h,_ => by
  cases l with
  | nil => exact czf _
  | cons x r => have:=h x (by simp); omega
 | n + 1,l,h,hd => by
  have h1:=zkl n (l.erase (n:Int)) (fun x hx => by
   have hx':=List.mem_of_mem_erase hx
   have:=h x hx'
   have hne:x ≠ (n:Int):=by
    rintro rfl
    exact absurd hx (hd.not_mem_erase)
   omega) (hd.erase _)
  have h2:l.length ≤ (l.erase (n:Int)).length + 1:=by
   rw [List.length_erase]
   split <;> omega
  omega
theorem zcY {n:Nat} {l:List Int} (h:zaG n l = true):l.length ≤ n:=by
 rw [zfP] at h
 exact zkl n l h.1 h.2
theorem zrd {n:Nat} {l:List Int} (h:l.length < n):∃ c:Nat,c < n ∧ l.contains (c:Int) = false:=by
 apply Classical.byContradiction
 intro q
 have hall:∀ c:Nat,c < n → (c:Int) ∈ l:=fun c hc => by
  apply Classical.byContradiction
  intro q2
  exact q ⟨c,hc,by simpa using q2⟩
 have hsub:((List.range n).map fun c:Nat => (c:Int)) ⊆ l:=by
  intro x hx
  obtain ⟨c,hc,rfl⟩:=czx.1 hx
  exact hall c (by simpa using hc)
 have hnd:((List.range n).map fun c:Nat => (c:Int)).Nodup:=by
  rw [List.nodup_iff_pairwise_ne,List.pairwise_map]
  exact List.pairwise_lt_range.imp fun h => by omega
 have:=List.Nodup.length_le_of_subset hnd hsub
 simp at this
 omega
structure VY (y:Yd):Prop where
 c5:y.chairs.length ≤ 5
 r5:y.hires.length ≤ 5
 f:zbp y.t = 0
 tr:zaJ y.t ≠ []
 h0:0 ≤ y.hands
 h5:y.hands ≤ 5
 ord:zaG y.chairs.length y.order = true
 ch:∀ c ∈ y.chairs,(0 ≤ c.row ∧ c.row < y.t.levels.length) ∧ (0 ≤ c.hours ∧ c.hours ≤ 5) ∧ 1 ≤ c.rot ∧ c.rot ≤ 9
 hi:∀ h ∈ y.hires,(0 ≤ h.lo ∧ h.lo < y.chairs.length) ∧ 0 ≤ h.hi ∧ h.hi ≤ y.t.last
def zdk (t:Tb) (c:Ch):Bool:=inB c.row 0 ((t.levels.length:Int) - 1) && inB c.hours 0 5 && inB c.rot 1 9
def zeY (n:Nat) (last:Int) (h:Rg):Bool:=inB h.lo 0 ((n:Int) - 1) && inB h.hi 0 last
def za9 (y:Yd):Int :=
 if 5 < y.chairs.length ∨ 5 < y.hires.length then 3
 else if zbp y.t ≠ 0 then zbp y.t
 else if zaJ y.t = [] then 11
 else if (inB y.hands 0 5 && zaG y.chairs.length y.order) = false then 1
 else if y.chairs.all (zdk y.t) = false then 1
 else if y.hires.all (zeY y.chairs.length y.t.last) = false then 1
 else 0
theorem zg9 {y:Yd} (h:za9 y = 0):VY y:=by
 unfold za9 at h
 split at h
 ·cases h
 rename_i g1
 split at h
 ·exact absurd h ‹_›
 rename_i g2
 split at h
 ·cases h
 rename_i g3
 split at h
 ·cases h
 rename_i g4
 split at h
 ·cases h
 rename_i g5
 split at h
 ·cases h
 rename_i g6
 simp only [Bool.not_eq_false,czl,zbJ,czG,zdk,zeY,ne_eq,Decidable.not_not] at g2 g4 g5 g6
 refine ⟨by omega,by omega,g2,g3,g4.1.1,g4.1.2,g4.2,fun c hc => ?_,fun h hh => ?_⟩
 ·have:=g5 c hc; omega
 ·have:=g6 h hh; omega
theorem VY.fault {y:Yd} (h:VY y):za9 y = 0:=by
 have h1:=h.c5
 have h2:=h.r5
 unfold za9
 rw [if_neg (by omega),if_neg (by simp [h.f]),if_neg h.tr,if_neg,if_neg,if_neg]
 ·simp only [Bool.not_eq_false,czG,zeY,czl,zbJ]
  intro x hx
  have:=h.hi x hx
  omega
 ·simp only [Bool.not_eq_false,czG,zdk,czl,zbJ]
  intro x hx
  have:=h.ch x hx
  omega
 ·simp only [Bool.not_eq_false,czl,zbJ]
  exact ⟨⟨h.h0,h.h5⟩,h.ord⟩
theorem VY.fok {y:Yd} (h:VY y):FOk y.t:=fok_of h.f
theorem VY.l0 {y:Yd} (h:VY y):0 ≤ y.t.last ∧ y.t.last ≤ 9:=⟨h.fok.l0,h.fok.l9⟩
theorem VY.hrs {y:Yd} (h:VY y):((hrs y:Nat):Int) = y.t.last + 1 ∧ 1 ≤ hrs y ∧ hrs y ≤ 10:=by
 have:=h.l0
 unfold Go.Proofs.hrs
 omega
theorem VY.at {y:Yd} (h:VY y) {c:Int} (h0:0 ≤ c) (h1:c < y.chairs.length):c.toNat < y.chairs.length ∧ (0 ≤ (at_ y.chairs c.toNat).row ∧ (at_ y.chairs c.toNat).row < y.t.levels.length) ∧
  (0 ≤ (at_ y.chairs c.toNat).hours ∧ (at_ y.chairs c.toNat).hours ≤ 5) ∧ 1 ≤ (at_ y.chairs c.toNat).rot ∧ (at_ y.chairs c.toNat).rot ≤ 9:=by
 have hc:c.toNat < y.chairs.length:=by omega
 exact ⟨hc,h.ch _ (zbh hc)⟩
/-! Hires. -/
def rbp (p:Nat → Bool):Nat → Nat
 | 0 => 0
 | n + 1 => if p n then rbp p n ||| 2 ^ n else rbp p n
theorem rbp_lt (p:Nat → Bool) (n:Nat):rbp p n < 2 ^ n:=by
 induction n with
 | zero => simp [rbp]
 | succ n ih =>
  have h1:2 ^ n < 2 ^ (n + 1):=Nat.pow_lt_pow_right (by omega) (by omega)
  unfold rbp
  split
  ·exact Nat.or_lt_two_pow (by omega) h1
  ·omega
theorem zeJ (p:Nat → Bool):∀ n k,(rbp p n).testBit k = (decide (k < n) && p k)
 | 0,k => by simp [rbp]
 | n + 1,k => by
  have ih:=zeJ p n k
  unfold rbp
  by_cases e:k = n
  ·subst e
   cases c:p k
   ·simp only [czp,if_false,ih]; simp
   ·simp [Nat.testBit_or,ih,Nat.testBit_two_pow]
  ·have e1:decide (k < n + 1) = decide (k < n):=by simp; omega
   rw [e1]
   split
   ·rw [Nat.testBit_or,ih,Nat.testBit_two_pow]
    simp
    intro h; omega
   ·exact ih
theorem rbp_full (p:Nat → Bool) (n:Nat):decide (((rbp p n:Nat):Int) = 2 ^ n - 1) = (List.range n).all p:=by
 have h2:=Nat.two_pow_pos n
 have e:((2:Int) ^ n - 1) = ((2 ^ n - 1:Nat):Int):=by
  rw [show ((2:Int) ^ n) = ((2 ^ n:Nat):Int) by simp]; omega
 rw [e,Bool.eq_iff_iff,decide_eq_true_eq,czG]
 constructor
 ·intro h k hk
  have h':rbp p n = 2 ^ n - 1:=by omega
  have:=zeJ p n k
  rw [h',zcC] at this
  simp at hk
  simp [hk] at this
  exact this
 ·intro h
  congr 1
  apply Nat.eq_of_testBit_eq
  intro k
  rw [zeJ,zcC]
  by_cases hk:k < n
  ·simp [hk,h k (by simpa using hk)]
  ·simp [hk]
def zcX (y:Yd) (hs:List Int) (k:Nat):Bool:=zkN y y.order hs (at_ y.hires k).lo (at_ y.hires k).hi.toNat
def zc7 (y:Yd) (hs:List Int):Bool:=(List.range y.hires.length).all (zcX y hs)
def znp (y:Yd) (hs:List Int):Nat:=rbp (zcX y hs) y.hires.length
def ze6 (y:Yd) (hs:List Int):Bool:=zby y.t hs && zc7 y hs
def zaV (y:Yd):List (List Int):=(zaJ y.t).filter (zc7 y)
def zny (y:Yd):List Int:=(zaJ y.t).map fun hs => (znp y hs:Int)
theorem bits_full (y:Yd) (hs:List Int):decide (((znp y hs:Nat):Int) = 2 ^ y.hires.length - 1) = zc7 y hs:=rbp_full _ _
/-! Verdicts, hours, losses. -/
def zgw (p:List Int → Bool) (ls:List (List Int)):Int:=((ls.filter p).length:Nat)
def zrD (y:Yd) (ls:List (List Int)) (order:List Int) (c hour:Int):Int :=
 if zgw (fun hs => zkN y order hs c hour.toNat) ls = ls.length then 1 else if zgw (fun hs => zkN y order hs c hour.toNat) ls = 0 then 2 else 3
def zfr (y:Yd) (ls:List (List Int)) (order:List Int) (c:Int):Rg:=ls.foldl (fun r hs => zdi r ((zdt y order hs c).free.length:Nat)) zjc
def zdM (y:Yd) (order hs:List Int) (n:Nat):Int:=(((List.range n).filter fun c:Nat => decide ((zlg y order hs c:Int) ≤ y.t.last)).length:Nat)
def zbR (y:Yd) (order hs:List Int):Int:=zdM y order hs y.chairs.length
def zc2 (y:Yd) (ls:List (List Int)) (order:List Int):Int:=ls.foldl (fun n hs => max n (zbR y order hs)) 0
theorem zgo (y:Yd) (order hs:List Int) (n:Nat):zdM y order hs (n + 1) = if (zlg y order hs n:Int) ≤ y.t.last then zdM y order hs n + 1 else zdM y order hs n:=by
 unfold zdM
 rw [List.range_succ,List.filter_append,czc]
 by_cases c:(zlg y order hs n:Int) ≤ y.t.last <;> simp [c]
theorem zey (y:Yd) (order hs:List Int) (n:Nat):0 ≤ zdM y order hs n ∧ zdM y order hs n ≤ n:=by
 unfold zdM
 have:=List.length_filter_le (fun c:Nat => decide ((zlg y order hs c:Int) ≤ y.t.last)) (List.range n)
 simp at this
 omega
theorem zhw {α:Type} (f:α → Int):∀ (l:List α) (n:Int),n ≤ l.foldl (fun n a => max n (f a)) n ∧ ∀ a ∈ l,f a ≤ l.foldl (fun n a => max n (f a)) n
 | [],n => ⟨Int.le_refl _,fun a h => by cases h⟩
 | x :: l,n => by
  obtain ⟨h1,h2⟩:=zhw f l (max n (f x))
  refine ⟨by simp only [List.foldl_cons]; omega,fun a ha => ?_⟩
  simp only [List.foldl_cons]
  rcases czn.1 ha with rfl | h
  ·omega
  ·exact h2 a h
theorem zgz {α:Type} (f:α → Int):∀ (l:List α) (n:Int),l.foldl (fun n a => max n (f a)) n = n ∨ ∃ a ∈ l,l.foldl (fun n a => max n (f a)) n = f a
 | [],n => .inl rfl
 | x :: l,n => by
  rcases zgz f l (max n (f x)) with h | ⟨a,ha,h⟩
  ·simp only [List.foldl_cons]
   by_cases c:f x ≤ n
   ·left; rw [h]; omega
   ·right; exact ⟨x,by simp,by rw [h]; omega⟩
  ·right; exact ⟨a,by simp [ha],by simpa using h⟩
structure IsLoss (y:Yd) (ls:List (List Int)) (order:List Int) (m:Int):Prop where
 ex:∃ hs ∈ ls,zbR y order hs = m
 le:∀ hs ∈ ls,zbR y order hs ≤ m
theorem zm5 {y:Yd} {ls:List (List Int)} (h:ls ≠ []) (order:List Int):IsLoss y ls order (zc2 y ls order):=by
 obtain ⟨h1,h2⟩:=zhw (fun hs => zbR y order hs) ls 0
 refine ⟨?_,h2⟩
 rcases zgz (fun hs => zbR y order hs) ls 0 with q | ⟨a,ha,q⟩
 ·cases ls with
  | nil => exact absurd rfl h
  | cons x r =>
   refine ⟨x,by simp,?_⟩
   have h3:=h2 x (by simp)
   have h4:=(zey y order x y.chairs.length).1
   show zbR y order x = List.foldl _ 0 _
   rw [q] at h3 ⊢
   unfold zbR at h3 ⊢
   omega
 ·exact ⟨a,ha,q.symm⟩
theorem IsLoss.eq {y:Yd} {ls ls':List (List Int)} {order:List Int} {m m':Int} (h:IsLoss y ls order m) (h':IsLoss y ls' order m') (h1:∀ hs ∈ ls,∃ hs' ∈ ls',zbR y order hs' = zbR y order hs)
  (h2:∀ hs ∈ ls',∃ hs' ∈ ls,zbR y order hs' = zbR y order hs):m = m':=by
 obtain ⟨a,ha,e⟩:=h.ex
 obtain ⟨b,hb,e'⟩:=h'.ex
 obtain ⟨a',ha',g⟩:=h1 a ha
 obtain ⟨b',hb',g'⟩:=h2 b hb
 have:=h.le b' hb'
 have:=h'.le a' ha'
 omega
theorem zm6 (y:Yd) (ls:List (List Int)) (order:List Int):0 ≤ zc2 y ls order ∧ zc2 y ls order ≤ y.chairs.length:=by
 obtain ⟨h1,h2⟩:=zhw (fun hs => zbR y order hs) ls 0
 refine ⟨h1,?_⟩
 rcases zgz (fun hs => zbR y order hs) ls 0 with q | ⟨a,ha,q⟩
 ·show List.foldl _ 0 _ ≤ _
  rw [q]; omega
 ·show List.foldl _ 0 _ ≤ _
  rw [q]; exact (zey y order a _).2
/-! Wet in fewer hours. -/
theorem zoa {W V:Nat → Bool} {r r' n:Nat} (hr:r ≤ r') (h:∀ k,k < n → W k = true → V k = true):∀ k,k ≤ n → ∀ x,zeV W r' k = some x → ∃ z,z ≤ x ∧ zeV V r k = some z
 | 0,_,x,e => by cases e
 | k + 1,hk,x,e => by
  unfold zeV at e ⊢
  cases c:zeV W r' k with
  | some x' =>
   rw [c] at e
   cases e
   obtain ⟨z,h1,h2⟩:=zoa hr h k (by omega) _ c
   rw [h2]
   exact ⟨z,h1,rfl⟩
  | none =>
   rw [c] at e
   simp only at e
   split at e
   ·rename_i q
    cases e
    simp only [czl,decide_eq_true_eq] at q
    cases c2:zeV V r k with
    | some z => exact ⟨z,by have:=zgp c2; omega,rfl⟩
    | none =>
     refine ⟨k,czf _,?_⟩
     simp only
     rw [if_pos]
     simp only [czl,decide_eq_true_eq]
     refine ⟨by omega,?_⟩
     have q2:=q.2
     unfold zmv at q2 ⊢
     rw [czG] at q2 ⊢
     intro j hj
     exact h _ (by omega) (q2 j (by simp at hj ⊢; omega))
   ·cases e
theorem rotR_anti {W V:Nat → Bool} {r r' n:Nat} (hr:r ≤ r') (h:∀ k,k < n → W k = true → V k = true):ziA V r n ≤ ziA W r' n:=by
 unfold ziA
 cases c:zeV W r' n with
 | none => exact rotR_le V r n
 | some x =>
  obtain ⟨z,h1,h2⟩:=zoa hr h n (czf _) x c
  rw [h2]; exact h1
theorem inY_app {hands:Int} {order x:List Int} {c:Int} {h:Nat} (q:inY hands order c h = true):inY hands (order ++ x) c h = true:=by
 unfold inY at q ⊢
 simp only [List.contains_eq_mem,decide_eq_true_eq,List.take_append,czv] at q ⊢
 exact .inl q
theorem inY_hands {hands hands':Int} {order:List Int} {c:Int} {h:Nat} (hh:hands ≤ hands') (q:inY hands order c h = true):inY hands' order c h = true:=by
 unfold inY at q ⊢
 simp only [List.contains_eq_mem,decide_eq_true_eq] at q ⊢
 have hle:(hands * ((h:Int) + 1)).toNat ≤ (hands' * ((h:Int) + 1)).toNat:=by
  have:=Int.mul_le_mul_of_nonneg_right hh (show 0 ≤ (h:Int) + 1 by omega)
  omega
 rw [show (hands * ((h:Int) + 1)).toNat = min (hands * ((h:Int) + 1)).toNat (hands' * ((h:Int) + 1)).toNat by omega,← List.take_take] at q
 exact List.mem_of_mem_take q
theorem rot_mono {y z:Yd} {o o' hs:List Int} (ht:z.t = y.t) (hc:z.chairs = y.chairs) (hin:∀ (c:Int) (h:Nat),inY y.hands o c h = true → inY z.hands o' c h = true) (c:Int):zlg y o hs c ≤ zlg z o' hs c:=by
 unfold zlg hrs
 rw [ht,hc]
 refine rotR_anti (czf _) fun k _ hk => ?_
 unfold zmz lvY at hk ⊢
 rw [ht,hc] at hk
 simp only [czl,decide_eq_true_eq,Bool.not_eq_true'] at hk ⊢
 refine ⟨hk.1,?_⟩
 cases c2:inY y.hands o c k
 ·rfl
 ·rw [hin c k c2] at hk; cases hk.2
theorem zqR {y z:Yd} {o o' hs:List Int} (ht:z.t = y.t) (hc:z.chairs = y.chairs) (hin:∀ (c:Int) (h:Nat),inY y.hands o c h = true → inY z.hands o' c h = true):zbR z o' hs ≤ zbR y o hs:=by
 unfold zbR
 rw [hc]
 generalize y.chairs.length = n
 induction n with
 | zero => exact Int.le_refl _
 | succ n ih =>
  have:=rot_mono (hs:=hs) ht hc hin n
  rw [zgo,zgo,ht]
  split <;> split <;> omega
theorem zxb {y z:Yd} {o o':List Int} (ht:z.t = y.t) (hc:z.chairs = y.chairs) (hin:∀ (c:Int) (h:Nat),inY y.hands o c h = true → inY z.hands o' c h = true) {ls:List (List Int)} (h:ls ≠ []):zc2 z ls o' ≤ zc2 y ls o:=by
 obtain ⟨hs,h1,h2⟩:=(zm5 (y:=z) h o').ex
 have:=(zm5 (y:=y) h o).le hs h1
 have:=zqR (hs:=hs) ht hc hin
 omega
theorem zxn {y:Yd} {ls:List (List Int)} (h:ls ≠ []) (o x:List Int):zc2 y ls (o ++ x) ≤ zc2 y ls o :=
 zxb rfl rfl (fun _ _ => inY_app) h
/-! The least loss. -/
structure MinLoss (y:Yd) (ls:List (List Int)) (b:List Int) (m:Int):Prop where
 ex:∃ x,zaG y.chairs.length (b ++ x) = true ∧ zc2 y ls (b ++ x) = m
 le:∀ x,zaG y.chairs.length (b ++ x) = true → m ≤ zc2 y ls (b ++ x)
theorem MinLoss.eq {y:Yd} {ls:List (List Int)} {b:List Int} {m m':Int} (h:MinLoss y ls b m) (h':MinLoss y ls b m'):m = m':=by
 obtain ⟨x,h1,h2⟩:=h.ex
 obtain ⟨x',h1',h2'⟩:=h'.ex
 have:=h.le x' h1'
 have:=h'.le x h1
 omega
def zie (y:Yd) (ls:List (List Int)):Nat → List Int → Int
 | 0,b => zc2 y ls b
 | f + 1,b => (List.range y.chairs.length).foldl (fun best (c:Nat) => if (decide (0 < best) && zaG y.chairs.length (b ++ [(c:Int)])) = true then min best (zie y ls f (b ++ [(c:Int)])) else best) (zc2 y ls b)
def zfq (y:Yd) (ls:List (List Int)) (b:List Int):Int:=zie y ls (y.chairs.length - b.length) b
theorem zl3 {y:Yd} {ls:List (List Int)} (h:ls ≠ []):∀ (f:Nat) (b:List Int),y.chairs.length ≤ f + b.length → zaG y.chairs.length b = true → MinLoss y ls b (zie y ls f b)
 | 0,b,hf,hb => by
  refine ⟨⟨[],by simpa using hb,by simp [zie]⟩,fun x hx => ?_⟩
  have:=zcY hx
  rw [czc] at this
  have:x = []:=List.length_eq_zero_iff.1 (by omega)
  subst this
  simp [zie]
 | f + 1,b,hf,hb => by
  have hbd:=zm6 y ls b
  have key:∀ n,n ≤ y.chairs.length → ∀ m,m = (List.range n).foldl (fun best (c:Nat) => if (decide (0 < best) && zaG y.chairs.length (b ++ [(c:Int)])) = true then min best (zie y ls f (b ++ [(c:Int)])) else best) (zc2 y ls b) →
    (∃ x,zaG y.chairs.length (b ++ x) = true ∧ zc2 y ls (b ++ x) = m) ∧ m ≤ zc2 y ls b ∧ ∀ c:Nat,c < n → ∀ x,zaG y.chairs.length (b ++ [(c:Int)] ++ x) = true → m ≤ zc2 y ls (b ++ [(c:Int)] ++ x):=by
   intro n
   induction n with
   | zero =>
    intro _ m hm
    simp at hm
    subst hm
    exact ⟨⟨[],by simpa using hb,by simp⟩,Int.le_refl _,fun c hc => by omega⟩
   | succ n ih =>
    intro hn m hm
    rw [List.range_succ,List.foldl_append] at hm
    obtain ⟨g1,g2,g3⟩:=ih (by omega) _ rfl
    generalize (List.range n).foldl _ _ = best at hm g1 g2 g3
    simp only [List.foldl_cons,List.foldl_nil] at hm
    by_cases q:(decide (0 < best) && zaG y.chairs.length (b ++ [(n:Int)])) = true
    ·rw [if_pos q] at hm
     simp only [czl,decide_eq_true_eq] at q
     have hI:=zl3 h f (b ++ [(n:Int)]) (by simp; omega) q.2
     obtain ⟨x,h1,h2⟩:=hI.ex
     refine ⟨?_,by omega,fun c hc x hx => ?_⟩
     ·by_cases e:best ≤ zie y ls f (b ++ [(n:Int)])
      ·rw [show m = best by omega]; exact g1
      ·exact ⟨[(n:Int)] ++ x,by rw [← czd]; exact h1,by rw [← czd]; omega⟩
     ·by_cases e:c = n
      ·subst e
       have:=hI.le x hx
       omega
      ·have:=g3 c (by omega) x hx
       omega
    ·rw [if_neg q] at hm
     subst hm
     refine ⟨g1,g2,fun c hc x hx => ?_⟩
     by_cases e:c = n
     ·subst e
      have ho:zaG y.chairs.length (b ++ [(c:Int)]) = true:=by
       have:=zgx hx (b ++ [(c:Int)]).length
       rwa [List.take_left'] at this
       rfl
      have:=(zm6 y ls (b ++ [(c:Int)] ++ x)).1
      simp only [czl,decide_eq_true_eq,ho,and_true] at q
      omega
     ·exact g3 c (by omega) x hx
  obtain ⟨g1,g2,g3⟩:=key _ (czf _) _ rfl
  refine ⟨g1,fun x hx => ?_⟩
  cases x with
  | nil => rw [List.append_nil]; exact g2
  | cons a r =>
   have ha:=((zfP _ _).1 hx).1 a (by simp)
   have e:b ++ a :: r = b ++ [((a.toNat:Nat):Int)] ++ r:=by
    rw [show ((a.toNat:Nat):Int) = a by omega]; simp
   rw [e] at hx ⊢
   exact g3 a.toNat (by omega) r hx
def zmV (n:Nat):Nat → List Int → List (List Int)
 | 0,now => [now]
 | f + 1,now => (List.range n).flatMap fun c:Nat => if now.contains (c:Int) then [] else zmV n f (now ++ [(c:Int)])
theorem zkn {n:Nat}:∀ (f:Nat) (now p:List Int),zaG n now = true → now.length + f = n → (p ∈ zmV n f now ↔ ∃ x,p = now ++ x ∧ x.length = f ∧ zaG n p = true)
 | 0,now,p,ho,hf => by
  simp only [zmV,czC]
  constructor
  ·rintro rfl; exact ⟨[],by simp,rfl,ho⟩
  ·rintro ⟨x,rfl,hx,_⟩
   rw [List.length_eq_zero_iff] at hx
   subst hx; simp
 | f + 1,now,p,ho,hf => by
  simp only [zmV,List.mem_flatMap,List.mem_range]
  constructor
  ·rintro ⟨c,hc,hp⟩
   split at hp
   ·cases hp
   ·rename_i q
    have ho':zaG n (now ++ [(c:Int)]) = true:=by
     rw [zei,ho]
     simp only [Bool.true_and,czl,zbJ,Bool.not_eq_true']
     exact ⟨by omega,by simpa using q⟩
    obtain ⟨x,h1,h2,h3⟩:=(zkn f _ p ho' (by simp; omega)).1 hp
    exact ⟨(c:Int) :: x,by rw [h1]; simp,by simp [h2],h3⟩
  ·rintro ⟨x,rfl,hx,hp⟩
   cases x with
   | nil => simp at hx
   | cons a r =>
    have hq:=(zfP _ _).1 hp
    have ha:=hq.1 a (by simp)
    have e:((a.toNat:Nat):Int) = a:=by omega
    refine ⟨a.toNat,by omega,?_⟩
    have ho':zaG n (now ++ [a]) = true:=by
     have:=zgx hp (now ++ [a]).length
     rw [show now ++ a :: r = (now ++ [a]) ++ r by simp,List.take_left'] at this
     ·exact this
     ·rfl
    have hna:now.contains a = false:=by
     rw [zei] at ho'
     simp only [czl,Bool.not_eq_true'] at ho'
     exact ho'.2.2
    rw [e,if_neg (by rw [hna]; simp)]
    exact (zkn f _ _ ho' (by simp; omega)).2 ⟨r,by simp,by simpa using hx,hp⟩
theorem ziH {n:Nat}:∀ (k:Nat) (o:List Int),n ≤ o.length + k → zaG n o = true → ∃ x,zaG n (o ++ x) = true ∧ (o ++ x).length = n
 | 0,o,hk,ho => ⟨[],by simpa using ho,by have:=zcY ho; simp; omega⟩
 | k + 1,o,hk,ho => by
  by_cases q:o.length < n
  ·obtain ⟨c,hc,h⟩:=zrd q
   have ho':zaG n (o ++ [(c:Int)]) = true:=by
    rw [zei,ho,h]
    simp only [Bool.true_and,Bool.not_false,Bool.and_true,zbJ]
    omega
   obtain ⟨x,h1,h2⟩:=ziH k (o ++ [(c:Int)]) (by simp; omega) ho'
   exact ⟨[(c:Int)] ++ x,by rw [← czd]; exact h1,by rw [← czd]; exact h2⟩
  ·exact ⟨[],by simpa using ho,by have:=zcY ho; simp; omega⟩
def zlD (f:List Int → Int) (a:List Int × Int) (p:List Int):List Int × Int:=if f p < a.2 then (p,f p) else a
theorem zjZ (f:List Int → Int):∀ (l:List (List Int)) (a:List Int × Int),(l.foldl (zlD f) a = a ∧ ∀ p ∈ l,a.2 ≤ f p) ∨ ((l.foldl (zlD f) a).1 ∈ l ∧ (l.foldl (zlD f) a).2 = f (l.foldl (zlD f) a).1 ∧ (l.foldl (zlD f) a).2 < a.2 ∧ ∀ p ∈ l,(l.foldl (zlD f) a).2 ≤ f p)
 | [],a => .inl ⟨rfl,fun p h => by cases h⟩
 | p :: l,a => by
  simp only [List.foldl_cons]
  by_cases c:f p < a.2
  ·have e:zlD f a p = (p,f p):=by unfold zlD; rw [if_pos c]
   rw [e]
   right
   rcases zjZ f l (p,f p) with ⟨h1,h2⟩ | ⟨h1,h2,h3,h4⟩
   ·rw [h1]
    exact ⟨by simp,rfl,c,List.forall_mem_cons.2 ⟨Int.le_refl _,h2⟩⟩
   ·simp only at h3
    exact ⟨by simp [h1],h2,by omega,List.forall_mem_cons.2 ⟨by omega,h4⟩⟩
  ·have e:zlD f a p = a:=by unfold zlD; rw [if_neg c]
   rw [e]
   rcases zjZ f l a with ⟨h1,h2⟩ | ⟨h1,h2,h3,h4⟩
   ·left
    exact ⟨h1,List.forall_mem_cons.2 ⟨by omega,h2⟩⟩
   ·right
    exact ⟨by simp [h1],h2,h3,List.forall_mem_cons.2 ⟨by omega,h4⟩⟩
def zhA (y:Yd) (ls:List (List Int)):List Int × Int:=(zmV y.chairs.length y.chairs.length []).foldl (zlD (zc2 y ls)) ([],(y.chairs.length:Int) + 1)
theorem zw7 {y:Yd} {ls:List (List Int)} (h:ls ≠ []):zaG y.chairs.length (zhA y ls).1 = true ∧ zc2 y ls (zhA y ls).1 = (zhA y ls).2 ∧ MinLoss y ls [] (zhA y ls).2:=by
 have ho:zaG y.chairs.length [] = true:=by simp [zaG]
 have hm:=fun p => zkn (n:=y.chairs.length) y.chairs.length [] p ho (by simp)
 obtain ⟨x0,g1,g2⟩:=ziH (n:=y.chairs.length) y.chairs.length [] (by simp) ho
 have hx0:x0 ∈ zmV y.chairs.length y.chairs.length []:=(hm x0).2 ⟨x0,by simp,by simpa using g2,by simpa using g1⟩
 rcases zjZ (zc2 y ls) (zmV y.chairs.length y.chairs.length []) ([],(y.chairs.length:Int) + 1) with ⟨_,h2⟩ | ⟨h1,h2,h3,h4⟩
 ·have:=h2 x0 hx0
  have:=zm6 y ls x0
  omega
 ·obtain ⟨x,e1,e2,e3⟩:=(hm _).1 h1
  refine ⟨e3,h2.symm,⟨(zhA y ls).1,by rw [List.nil_append]; exact e3,by rw [List.nil_append]; exact h2.symm⟩,fun o hoo => ?_⟩
  rw [List.nil_append] at hoo ⊢
  obtain ⟨z,z1,z2⟩:=ziH (n:=y.chairs.length) y.chairs.length o (by omega) hoo
  have h4':=h4 (o ++ z) ((hm _).2 ⟨o ++ z,by simp,z2,z1⟩)
  have:=zxn (y:=y) h o z
  show (zhA y ls).2 ≤ _
  have h5:(zhA y ls).2 ≤ zc2 y ls (o ++ z):=h4'
  omega
def ziF (t:Tb):Nat → List Int → List (List Int)
 | 0,p => if ze4 t p then [p] else []
 | f + 1,p => (List.range (szR (at_ t.heights p.length)).toNat).flatMap fun n:Nat => ziF t f (p ++ [(at_ t.heights p.length).lo + n])
def zhl (t:Tb) (f:Nat) (p:List Int) (n:Nat):List (List Int):=(List.range n).flatMap fun n:Nat => ziF t f (p ++ [(at_ t.heights p.length).lo + n])
theorem ziE (t:Tb) (f:Nat) (p:List Int) (n:Nat):zhl t f p (n + 1) = zhl t f p n ++ ziF t f (p ++ [(at_ t.heights p.length).lo + n]):=by
 simp only [zhl,List.range_succ,List.flatMap_append,List.flatMap_cons,List.flatMap_nil,List.append_nil]
theorem zgi (t:Tb) (f:Nat) (p:List Int) (n:Nat):∀ k,∃ r,zhl t f p (n + k) = zhl t f p n ++ r
 | 0 => ⟨[],by simp⟩
 | k + 1 => by
  obtain ⟨r,hr⟩:=zgi t f p n k
  exact ⟨r ++ _,by rw [← Nat.add_assoc,ziE,hr,czd]⟩
theorem zm1 {t:Tb}:∀ (f:Nat) (b p:List Int),p ∈ ziF t f b ↔ ∃ x,p = b ++ x ∧ x.length = f ∧ (∀ i,i < f → (at_ t.heights (b.length + i)).lo ≤ at_ x i ∧ at_ x i ≤ (at_ t.heights (b.length + i)).hi) ∧ ze4 t p = true
 | 0,b,p => by
  unfold ziF
  constructor
  ·intro h
   split at h
   ·rename_i c
    simp only [czC] at h
    subst h
    exact ⟨[],by simp,rfl,fun i hi => by omega,c⟩
   ·cases h
  ·rintro ⟨x,rfl,hx,_,hp⟩
   rw [List.length_eq_zero_iff] at hx
   subst hx
   rw [List.append_nil] at hp ⊢
   rw [if_pos hp]
   simp
 | f + 1,b,p => by
  unfold ziF
  simp only [List.mem_flatMap,List.mem_range]
  constructor
  ·rintro ⟨n,hn,hp⟩
   obtain ⟨x,rfl,hx,hb,hpr⟩:=(zm1 f _ p).1 hp
   refine ⟨((at_ t.heights b.length).lo + n) :: x,by simp,by simp [hx],fun i hi => ?_,by simpa using hpr⟩
   cases i with
   | zero =>
    rw [ze9]
    unfold szR at hn
    simp only [Nat.add_zero]
    omega
   | succ i =>
    rw [zcK]
    have:=hb i (by omega)
    rw [czc,cza,czy,Nat.zero_add,show b.length + 1 + i = b.length + (i + 1) by omega] at this
    exact this
  ·rintro ⟨x,rfl,hx,hb,hp⟩
   cases x with
   | nil => simp at hx
   | cons a r =>
    have h0:=hb 0 (by omega)
    rw [ze9,Nat.add_zero] at h0
    have ea:(at_ t.heights b.length).lo + (((a - (at_ t.heights b.length).lo).toNat:Nat):Int) = a:=by omega
    refine ⟨(a - (at_ t.heights b.length).lo).toNat,by unfold szR; omega,?_⟩
    rw [ea]
    refine (zm1 f _ _).2 ⟨r,by simp,by simpa using hx,fun i hi => ?_,hp⟩
    have:=hb (i + 1) (by omega)
    rw [zcK] at this
    rw [czc,cza,czy,Nat.zero_add,show b.length + 1 + i = b.length + (i + 1) by omega]
    exact this
def zlK (t:Tb):List (List Int):=ziF t (t.last + 1).toNat []
theorem zs8 {t:Tb} (h:zbp t = 0) (p:List Int):ze4 t p = zby t p:=by unfold ze4; simp [h]
theorem ztf {t:Tb} (h:zbp t = 0) (p:List Int):p ∈ zlK t ↔ p ∈ zaJ t:=by
 have hf:=fok_of h
 unfold zlK
 rw [zm1,zfK hf.vok,zs8 h]
 constructor
 ·rintro ⟨x,_,_,_,hp⟩; exact hp
 ·intro hp
  have hl:za4 t p = true:=by
   unfold zby at hp
   simp only [czl] at hp
   exact hp.1
  have hL:=(zvo p).1 hl
  have hlen:=zbI hl
  have:=hf.len
  refine ⟨p,by simp,by omega,fun i hi => ?_,hp⟩
  rw [czy,Nat.zero_add]
  exact hL.rng i (by omega)
theorem zsY {t:Tb} (hok:HOk t):∀ (f:Nat) (p:List Int),p.length + f = t.heights.length → ((ziF t f p).length:Int) ≤ zcw (t.heights.drop p.length)
 | 0,p,h => by
  rw [czM (by omega)]
  unfold ziF
  split <;> simp [zcw]
 | f + 1,p,h => by
  have hk:p.length < t.heights.length:=by omega
  have hp1:1 ≤ zcw (t.heights.drop (p.length + 1)):=zoj fun r hr => (hok.h r (List.mem_of_mem_drop hr)).2.1
  have hr:=hok.h _ (zbh hk)
  have key:∀ n:Nat,((zhl t f p n).length:Int) ≤ n * zcw (t.heights.drop (p.length + 1)):=by
   intro n
   induction n with
   | zero => simp [zhl]
   | succ n ih =>
    rw [ziE,czc]
    have hb:((ziF t f (p ++ [(at_ t.heights p.length).lo + (n:Int)])).length:Int) ≤ zcw (t.heights.drop (p.length + 1)):=by
     have:=zsY hok f (p ++ [(at_ t.heights p.length).lo + (n:Int)]) (by simp; omega)
     simpa using this
    have e:((n + 1:Nat):Int) * zcw (t.heights.drop (p.length + 1)) = n * zcw (t.heights.drop (p.length + 1)) + zcw (t.heights.drop (p.length + 1)):=by
     rw [Int.natCast_add,Int.add_mul]; simp
    rw [e]
    omega
  have:=key (szR (at_ t.heights p.length)).toNat
  rw [show ziF t (f + 1) p = zhl t f p (szR (at_ t.heights p.length)).toNat from rfl,zgD hk]
  have e2:zcw (at_ t.heights p.length :: t.heights.drop (p.length + 1)) = szR (at_ t.heights p.length) * zcw (t.heights.drop (p.length + 1)):=rfl
  rw [e2]
  have e3:(((szR (at_ t.heights p.length)).toNat:Nat):Int) = szR (at_ t.heights p.length):=by unfold szR; omega
  rw [e3] at this
  exact this
theorem zmO {t:Tb} (hv:VOk t):(zlK t).length ≤ 2000:=by
 have hl:=hv.last
 have:=zsY hv.hok (t.last + 1).toNat [] (by simp; omega)
 obtain ⟨e1,e2⟩:=zfp t.heights (fun r hr => (hv.hok.h r hr).2.1) 1 (by omega) (by omega)
 have hm:=hv.many
 unfold zc8 at hm
 rw [e1] at hm
 simp only [czy,List.drop_zero] at this
 unfold zlK
 omega
/-! Hours in which rows are wet, by the program. -/
def rowB (hs:List Int) (lv:Int):List Bool:=(List.range 10).map fun i => decide (i < hs.length) && decide (lv < at_ hs i)
theorem zs6 (hs:List Int) (lv:Int):(rowB hs lv).length = 10:=by simp [rowB]
theorem zqQ {hs:List Int} {lv:Int} {i:Nat} (h:i < 10) (h':i < hs.length):at_ (rowB hs lv) i = decide (lv < at_ hs i):=by
 unfold rowB
 rw [zg6 _ h]
 simp [h']
def zqo (hs:List Int) (lv:Int):BA 10:=⟨rowB hs lv,zs6 hs lv⟩
def zbH (t:Tb) (hs:List Int):Sea:=⟨hs,t.levels.map (zqo hs)⟩
def zmP (y:Yd) (p q:List Int):Bool:=y.chairs.all fun c => decide (rowB p (at_ y.t.levels c.row.toNat) = rowB q (at_ y.t.levels c.row.toNat))
def zns (y:Yd) (a:List (List Int)) (p:List Int):List (List Int):=if a = [] ∨ zmP y (at_ a (a.length - 1)) p = false then a ++ [p] else a
def zba (y:Yd):List (List Int):=(zlK y.t).foldl (zns y) []
theorem ztF {y:Yd} {a:List (List Int)} {p q:List Int} (h:q ∈ a):q ∈ zns y a p:=by
 unfold zns
 split
 ·simp [h]
 ·exact h
theorem zk3 (y:Yd):∀ (l a:List (List Int)),(∀ q ∈ a,q ∈ l.foldl (zns y) a) ∧ (∀ q ∈ l.foldl (zns y) a,q ∈ a ∨ q ∈ l) ∧ ∀ q ∈ l,∃ p ∈ l.foldl (zns y) a,p = q ∨ zmP y p q = true
 | [],a => ⟨fun q h => h,fun q h => .inl h,fun q h => by cases h⟩
 | x :: l,a => by
  simp only [List.foldl_cons]
  obtain ⟨h1,h2,h3⟩:=zk3 y l (zns y a x)
  refine ⟨fun q hq => h1 q (ztF hq),fun q hq => ?_,fun q hq => ?_⟩
  ·rcases h2 q hq with h | h
   ·unfold zns at h
    split at h
    ·rcases czv.1 h with h | h
     ·exact .inl h
     ·simp at h; subst h; exact .inr (by simp)
    ·exact .inl h
   ·exact .inr (by simp [h])
  ·rcases czn.1 hq with rfl | hq
   ·by_cases c:a = [] ∨ zmP y (at_ a (a.length - 1)) q = false
    ·exact ⟨q,h1 q (by unfold zns; rw [if_pos c]; simp),.inl rfl⟩
    ·simp only [not_or,Bool.not_eq_false] at c
     refine ⟨at_ a (a.length - 1),h1 _ (ztF (zbh ?_)),.inr c.2⟩
     have:=List.length_pos_iff.2 c.1
     omega
   ·exact h3 q hq
theorem zjR (y:Yd):∀ (l a:List (List Int)),(l.foldl (zns y) a).length ≤ a.length + l.length
 | [],a => by simp
 | x :: l,a => by
  have:=zjR y l (zns y a x)
  simp only [List.foldl_cons,cza]
  have h:(zns y a x).length ≤ a.length + 1:=by
   unfold zns
   split <;> simp
  omega
theorem zvU {y:Yd} (hv:VOk y.t):(zba y).length ≤ 2000:=by
 have h1:=zjR y (zlK y.t) []
 have h2:=zmO hv
 unfold zba
 simp at h1
 omega
structure Like (y:Yd) (p q:List Int):Prop where
 w:∀ c ∈ y.chairs,∀ h,h < hrs y → decide (at_ y.t.levels c.row.toNat < at_ p h) = decide (at_ y.t.levels c.row.toNat < at_ q h)
theorem zee {y:Yd} (h:VY y) {p:List Int} (hp:p ∈ zaJ y.t):p.length = hrs y:=by
 have h1:=zgd h.fok.vok hp
 have h2:=h.fok.len
 have h3:=h.hrs.1
 omega
theorem like_of {y:Yd} (h:VY y) {p q:List Int} (hp:p.length = hrs y) (hq:q.length = hrs y) (hs:zmP y p q = true):Like y p q:=by
 refine ⟨fun c hc k hk => ?_⟩
 unfold zmP at hs
 rw [czG] at hs
 have h1:=of_decide_eq_true (hs c hc)
 have h3:=h.hrs
 rw [← zqQ (by omega) (by omega),← zqQ (by omega) (by omega),h1]
theorem Like.refl (y:Yd) (p:List Int):Like y p p:=⟨fun _ _ _ _ => rfl⟩
theorem zia {y:Yd} {p q:List Int} (h:Like y p q) (o:List Int) {c:Int} (hc:c.toNat < y.chairs.length):zdt y o p c = zdt y o q c:=by
 unfold zdt
 refine znU fun k hk => ?_
 unfold zmz lvY
 rw [h.w _ (zbh hc) k hk]
theorem play_eta {y:Yd} {p q o:List Int} {c:Int} (h:zdt y o p c = zdt y o q c):zlg y o p c = zlg y o q c ∧ (zdt y o p c).free = (zdt y o q c).free:=by
 have h1:(zdt y o p c).rot = (zdt y o q c).rot:=by rw [h]
 rw [zkj,zkj] at h1
 exact ⟨by omega,by rw [h]⟩
theorem zg4 {y:Yd} (o p:List Int) (c:Int) {k:Nat} (hk:k < hrs y):zkN y o p c k = (zdt y o p c).free.contains (k:Int):=by
 rw [zlP,zlo hk]; rfl
theorem zrq {y:Yd} (hv:VY y) {p q:List Int} (h:Like y p q):zc7 y p = zc7 y q:=by
 unfold zc7
 apply zdE
 intro k hk
 have hk':k < y.hires.length:=by simpa using hk
 have hh:=hv.hi _ (zbh hk')
 have h3:=hv.hrs
 unfold zcX
 rw [zg4 _ _ _ (by omega),zg4 _ _ _ (by omega),zia h _ (by omega)]
theorem zrp {y:Yd} {p q:List Int} (h:Like y p q) (o:List Int):zbR y o p = zbR y o q:=by
 unfold zbR zdM
 congr 2
 apply List.filter_congr
 intro c hc
 have hc':c < y.chairs.length:=by simpa using hc
 rw [(play_eta (zia h o (c:=c) (by omega))).1]
def zfi (y:Yd):List (List Int):=(zba y).filter (zc7 y)
theorem zfJ {y:Yd} {p:List Int}:p ∈ zaV y ↔ p ∈ zaJ y.t ∧ zc7 y p = true:=List.mem_filter
theorem zit {y:Yd} (hv:VY y) {p:List Int} (h:p ∈ zba y):p ∈ zaJ y.t:=by
 obtain ⟨_,h2,_⟩:=zk3 y (zlK y.t) []
 rcases h2 p h with q | q
 ·cases q
 ·exact (ztf hv.f p).1 q
theorem zml {y:Yd} (hv:VY y) {q:List Int} (h:q ∈ zaJ y.t):∃ p ∈ zba y,Like y p q:=by
 obtain ⟨_,_,h3⟩:=zk3 y (zlK y.t) []
 obtain ⟨p,hp,e⟩:=h3 q ((ztf hv.f q).2 h)
 refine ⟨p,hp,?_⟩
 rcases e with rfl | e
 ·exact .refl _ _
 ·exact like_of hv (zee hv (zit hv hp)) (zee hv h) e
theorem zjy {y:Yd} (hv:VY y) {p:List Int} (h:p ∈ zfi y):p ∈ zaV y:=by
 obtain ⟨h1,h2⟩:=List.mem_filter.1 h
 exact zfJ.2 ⟨zit hv h1,h2⟩
theorem zjS {y:Yd} (hv:VY y) {q:List Int} (h:q ∈ zaV y):∃ p ∈ zfi y,Like y p q:=by
 obtain ⟨h1,h2⟩:=zfJ.1 h
 obtain ⟨p,hp,hl⟩:=zml hv h1
 exact ⟨p,List.mem_filter.2 ⟨hp,by rw [zrq hv hl]; exact h2⟩,hl⟩
theorem zjx {y:Yd} (hv:VY y):zfi y = [] ↔ zaV y = []:=by
 constructor
 ·intro h
  cases c:zaV y with
  | nil => rfl
  | cons q r =>
   obtain ⟨p,hp,_⟩:=zjS hv (q:=q) (by rw [c]; simp)
   rw [h] at hp; cases hp
 ·intro h
  cases c:zfi y with
  | nil => rfl
  | cons q r =>
   have:=zjy hv (p:=q) (by rw [c]; simp)
   rw [h] at this; cases this
theorem work_loss {y:Yd} (hv:VY y) (h:zaV y ≠ []) (o:List Int):zc2 y (zfi y) o = zc2 y (zaV y) o:=by
 have h':zfi y ≠ []:=fun e => h ((zjx hv).1 e)
 exact (zm5 h' o).eq (zm5 h o) (fun p hp => ⟨p,zjy hv hp,rfl⟩) fun q hq => by
  obtain ⟨p,hp,hl⟩:=zjS hv hq
  exact ⟨p,hp,zrp hl o⟩
set_option maxRecDepth 8000
theorem zoX (n lo hi:Int):zaQ Tryz.prog 82 [Enc.enc n,Enc.enc lo,Enc.enc hi] (· = Enc.enc (inB n lo hi)):=by
 simp only [zbz]
 refine cpz P50_ok Tryz.func82 zaD ?_
 rw [Tryz.ntmps82]
 simp only [Tryz.f82,zag,zap]
 simp (maxSteps:=4000000) only [go_sem,AV.one,zae,zac,zad,zaq,zas,zab,czb,cza,↓reduceIte,zbc,zbo,za3,zaZ,zbb,zbd,zbm,zaa,zao,onz]
 rfl
theorem znj (l:List Int) (h:l ≠ [] ∧ l.length ≤ 4096):zaQ Tryz.prog 159 [Enc.enc l] (· = Enc.enc (ztc l)):=by
 simp only [zbz]
 refine cpz P50_ok Tryz.func159 zaD ?_
 rw [Tryz.ntmps159]
 simp only [Tryz.f159,zag,zap]
 simp (maxSteps:=4000000) only [go_sem,AV.one,zae,zac,zad,zaq,zas,zab,czb,cza,↓reduceIte,zbc,zbo,za3,zaZ,zbb,zbd,zbm,zaa,zao,onz]
 exact h
def P100 (g:FuncId):=(zaw 82 (zd1 (fun _ _ _ => True) inB) (zaw 159 (zct (fun l:List Int => l ≠ [] ∧ l.length ≤ 4096) ztc) (P50)):zaL) g
theorem znG:zaC Tryz.prog P100:=zaj (zbY fun a b c _ => zoX a b c) (zaj (zbf znj) (P50_ok))
theorem zqj (d:Option Nat):zaI P100 d = none:=(zai (by decide) d).trans ((zai (by decide) d).trans (znz d))
attribute [go_sem] P100 zqj
theorem zrN (r:Rg) (n:Int):zaQ Tryz.prog 140 [Enc.enc r,Enc.enc n] (· = Enc.enc (zdi r n)):=by
 simp only [zbz]
 refine cpz znG Tryz.func140 zaD ?_
 rw [Tryz.ntmps140]
 simp only [Tryz.f140,zag,zap]
 simp (maxSteps:=4000000) only [go_sem,AV.one,zae,zac,zad,zaq,zas,zab,czb,cza,↓reduceIte,zbc,zbo,za3,zaZ,zbb,zbd,zbm,zaa,zao,onz,zh2]
 exact ⟨rfl,by simp,rfl⟩
theorem zoM (y:Yd) (n:Int) (h:y.chairs.length ≤ 4096):zaQ Tryz.prog 93 [Enc.enc y,Enc.enc n] (· = Enc.enc (inB n 0 ((y.chairs.length:Int) - 1))):=by
 simp only [zbz]
 refine cpz znG Tryz.func93 zaD ?_
 rw [Tryz.ntmps93]
 simp only [Tryz.f93,zag,zap]
 simp (maxSteps:=4000000) only [go_sem,AV.one,zae,zac,zad,zaq,zas,zab,czb,cza,↓reduceIte,zbc,zbo,za3,zaZ,zbb,zbd,zbm,zaa,zao,onz]
 all_goals exact auz
theorem zrt (y:Yd) (n:Int):zaQ Tryz.prog 94 [Enc.enc y,Enc.enc n] (· = Enc.enc (inB n 0 y.t.last)):=by
 simp only [zbz]
 refine cpz znG Tryz.func94 zaD ?_
 rw [Tryz.ntmps94]
 simp only [Tryz.f94,zag,zap]
 simp (maxSteps:=4000000) only [go_sem,AV.one,zae,zac,zad,zaq,zas,zab,czb,cza,↓reduceIte,zbc,zbo,za3,zaZ,zbb,zbd,zbm,zaa,zao,onz]
def P101 (g:FuncId):=(zaw 140 (zbC (fun (_:Rg) (_:Int) => True) zdi) (zaw 93 (zbC (fun (y:Yd) (_:Int) => y.chairs.length ≤ 4096) (fun y n => inB n 0 ((y.chairs.length:Int) - 1))) (zaw 94 (zbC (fun (_:Yd) (_:Int) => True) (fun y n => inB n 0 y.t.last)) (P100))):zaL) g
theorem zsC:zaC Tryz.prog P101:=zaj (zaM fun r n _ => zrN r n) (zaj (zaM zoM) (zaj (zaM fun y n _ => zrt y n) (znG)))
theorem zqi (d:Option Nat):zaI P101 d = none:=(zai (by decide) d).trans ((zai (by decide) d).trans ((zai (by decide) d).trans (zqj d)))
attribute [go_sem] P101 zqi
theorem zvV (y:Yd) (c:Ch) (h:y.t.levels.length ≤ 4096):zaQ Tryz.prog 79 [Enc.enc y,Enc.enc c] (· = Enc.enc (zdk y.t c)):=by
 simp only [zbz]
 refine cpz zsC Tryz.func79 zaD ?_
 rw [Tryz.ntmps79]
 simp only [Tryz.f79,zag,zap]
 simp (maxSteps:=4000000) only [go_sem,AV.one,zae,zac,zad,zaq,zas,zab,czb,cza,↓reduceIte,zbc,zbo,za3,zaZ,zbb,zbd,zbm,zaa,zao,onz]
 all_goals (repeat' first | (with_reducible first | rfl | apply And.intro | assumption) | ((with_reducible show zaf _ _ = true); rfl)) <;> try first | omega | (simp only [InR]; omega)
 rfl
theorem hire_call (y:Yd) (c:Rg) (h:y.chairs.length ≤ 4096):zaQ Tryz.prog 80 [Enc.enc y,Enc.enc c] (· = Enc.enc (zeY y.chairs.length y.t.last c)):=by
 simp only [zbz]
 refine cpz zsC Tryz.func80 zaD ?_
 rw [Tryz.ntmps80]
 simp only [Tryz.f80,zag,zap]
 simp (maxSteps:=4000000) only [go_sem,AV.one,zae,zac,zad,zaq,zas,zab,czb,cza,↓reduceIte,zbc,zbo,za3,zaZ,zbb,zbd,zbm,zaa,zao,onz]
 all_goals (repeat' first | (with_reducible first | rfl | apply And.intro | assumption) | ((with_reducible show zaf _ _ = true); rfl)) <;> try first | omega | (simp only [InR]; omega)
 rfl
def P102 (g:FuncId):=(zaw 79 (zbC (fun (y:Yd) (_:Ch) => y.t.levels.length ≤ 4096) (fun y c => zdk y.t c)) (zaw 80 (zbC (fun (y:Yd) (_:Rg) => y.chairs.length ≤ 4096) (fun y c => zeY y.chairs.length y.t.last c)) (P101)):zaL) g
theorem P102_ok:zaC Tryz.prog P102:=zaj (zaM zvV) (zaj (zaM hire_call) (zsC))
theorem zqh (d:Option Nat):zaI P102 d = none:=(zai (by decide) d).trans ((zai (by decide) d).trans (zqi d))
attribute [go_sem] P102 zqh
theorem zsp (x:Ch) (f:FnB 79 Yd) (hp:f.x.t.levels.length ≤ 4096):zaQ Tryz.prog 132 [Enc.enc x,Enc.enc (RefC.mk f)] (· = Enc.enc (!zdk f.x.t x)):=by
 simp only [zbz]
 refine cpz P102_ok Tryz.func132 zaD ?_
 rw [Tryz.ntmps132]
 simp only [Tryz.f132,zag,zap]
 simp (maxSteps:=4000000) only [go_sem,AV.one,zae,zac,zad,zaq,zas,zab,czb,cza,↓reduceIte,zbc,zbo,za3,zaZ,zbb,zbd,zbm,zaa,zao,onz]
 all_goals exact auz
def P103 (g:FuncId):=(zaw 132 (zbC (fun (_:Ch) (f:RefC (FnB 79 Yd)) => let f:=f.x; f.x.t.levels.length ≤ 4096) (fun (x:Ch) (f:RefC (FnB 79 Yd)) => let f:=f.x; !zdk f.x.t x)) (P102):zaL) g
theorem P103_ok:zaC Tryz.prog P103:=zaj (zaM fun x f h => zsp x f.x h) (P102_ok)
theorem zqg (d:Option Nat):zaI P103 d = none:=(zai (by decide) d).trans (zqh d)
attribute [go_sem] P103 zqg
theorem zsm (l:List (Ch)) (f:FnC 132 (FnB 79 Yd)) (h:l.length ≤ 4096 ∧ let f:=f.x; f.x.t.levels.length ≤ 4096):zaQ Tryz.prog 161 [Enc.enc l,Enc.enc f] (· = Enc.enc (let f:=f.x; zbr (fun x => !zdk f.x.t x) l l.length 0)):=by
 obtain ⟨f⟩:=f
 obtain ⟨h,hp⟩:=h
 simp only at hp
 simp only [zbz]
 refine cpz P103_ok Tryz.func161 zaD ?_
 rw [Tryz.ntmps161]
 simp only [Tryz.f161,zag,zap]
 simp (maxSteps:=4000000) only [go_sem,AV.one,zae,zac,zad,zaq,zas,zab,czb,cza,↓reduceIte,zbc,zbo,za3,zaZ,zbb,zbd,zbm,zaa,zao,onz]
 refine zbv (l.length) [] [0,1,4,7] (fun i => [(8,.int .i64 i)]) (fun _ m => m) (fun i => zbr (fun x => !zdk f.x.t x) l (l.length - i) i = zbr (fun x => !zdk f.x.t x) l l.length 0) ?_ ?_ ?_ ?_
 ·rfl
 ·simp [AV.bare,zal,zaN,zaS,zak,zat,zah,tokz1,lk,zab,za2]
 ·intro i hi hI
  rw [show l.length - i = (l.length - (i + 1)) + 1 by omega,zbr] at hI
  cases c:zdk f.x.t (at_ l i) <;>
   simp (maxSteps:=4000000) only [go_sem,AV.one,zae,zac,zad,zaq,zas,zab,czb,cza,↓reduceIte,zbc,zbo,za3,zaZ,zbb,zbd,zbm,zaa,zao,onz,zax hi,czH.2 hi,c]
  all_goals all_goals (repeat' first | (with_reducible first | rfl | apply And.intro | assumption) | ((with_reducible show zaf _ _ = true); rfl)) <;> try first | omega | (simp only [InR]; omega)
  ·rw [c] at hI
   rw [← hI]; rfl
  ·rw [c] at hI
   refine nxt hi hI ?_
   simp [AV.bare,zal,zaN,zaS,zak,zat,zah,tokz1,lk,zab,za2]
 ·intro hI
  simp (maxSteps:=4000000) only [go_sem,AV.one,zae,zac,zad,zaq,zas,zab,czb,cza,↓reduceIte,zbc,zbo,za3,zaZ,zbb,zbd,zbm,zaa,zao,onz]
  rw [← hI]; simp [zbr]
def P104 (g:FuncId):=(zaw 161 (zbC (fun (l:List (Ch)) (f:FnC 132 (FnB 79 Yd)) => l.length ≤ 4096 ∧ let f:=f.x; f.x.t.levels.length ≤ 4096) (fun l f => let f:=f.x; zbr (fun x => !zdk f.x.t x) l l.length 0)) (P103):zaL) g
theorem P104_ok:zaC Tryz.prog P104:=zaj (zaM zsm) (P103_ok)
theorem zqf (d:Option Nat):zaI P104 d = none:=(zai (by decide) d).trans (zqg d)
attribute [go_sem] P104 zqf
theorem zsn (l:List (Ch)) (f:FnC 132 (FnB 79 Yd)) (h:l.length ≤ 4096 ∧ let f:=f.x; f.x.t.levels.length ≤ 4096):zaQ Tryz.prog 131 [Enc.enc l,Enc.enc f] (· = Enc.enc (let f:=f.x; l.any (fun x => !zdk f.x.t x))):=by
 obtain ⟨f⟩:=f
 obtain ⟨h,hp⟩:=h
 simp only at hp
 simp only [zbz]
 refine cpz P104_ok Tryz.func131 zaD ?_
 rw [Tryz.ntmps131]
 simp only [Tryz.f131,zag,zap]
 simp (maxSteps:=4000000) only [go_sem,AV.one,zae,zac,zad,zaq,zas,zab,czb,cza,↓reduceIte,zbc,zbo,za3,zaZ,zbb,zbd,zbm,zaa,zao,onz]
 all_goals (repeat' first | (with_reducible first | rfl | apply And.intro | assumption) | ((with_reducible show zaf _ _ = true); rfl)) <;> try first | omega | (simp only [InR]; omega)
 congr 1
 exact zeO (fun x => !zdk f.x.t x) l l.length 0 (by omega)
def P105 (g:FuncId):=(zaw 131 (zbC (fun (l:List (Ch)) (f:FnC 132 (FnB 79 Yd)) => l.length ≤ 4096 ∧ let f:=f.x; f.x.t.levels.length ≤ 4096) (fun l f => let f:=f.x; l.any (fun x => !zdk f.x.t x))) (P104):zaL) g
theorem P105_ok:zaC Tryz.prog P105:=zaj (zaM zsn) (P104_ok)
theorem zqe (d:Option Nat):zaI P105 d = none:=(zai (by decide) d).trans (zqf d)
attribute [go_sem] P105 zqe
theorem zso (l:List (Ch)) (f:FnB 79 Yd) (h:l.length ≤ 4096 ∧ f.x.t.levels.length ≤ 4096):zaQ Tryz.prog 83 [Enc.enc l,Enc.enc f] (· = Enc.enc (l.all (fun x => zdk f.x.t x))):=by
 obtain ⟨h,hp⟩:=h
 simp only [zbz]
 refine cpz P105_ok Tryz.func83 zaD ?_
 rw [Tryz.ntmps83]
 simp only [Tryz.f83,zag,zap]
 simp (maxSteps:=4000000) only [go_sem,AV.one,zae,zac,zad,zaq,zas,zab,czb,cza,↓reduceIte,zbc,zbo,za3,zaZ,zbb,zbd,zbm,zaa,zao,onz]
 all_goals (repeat' first | (with_reducible first | rfl | apply And.intro | assumption) | ((with_reducible show zaf _ _ = true); rfl)) <;> try first | omega | (simp only [InR]; omega)
 rw [ziW]
def P106 (g:FuncId):=(zaw 83 (zbC (fun (l:List (Ch)) (f:FnB 79 Yd) => l.length ≤ 4096 ∧ f.x.t.levels.length ≤ 4096) (fun l f => l.all (fun x => zdk f.x.t x))) (P105):zaL) g
theorem P106_ok:zaC Tryz.prog P106:=zaj (zaM zso) (P105_ok)
theorem zqd (d:Option Nat):zaI P106 d = none:=(zai (by decide) d).trans (zqe d)
attribute [go_sem] P106 zqd
theorem zsl (x:Rg) (f:FnB 80 Yd) (hp:f.x.chairs.length ≤ 4096):zaQ Tryz.prog 134 [Enc.enc x,Enc.enc (RefC.mk f)] (· = Enc.enc (!zeY f.x.chairs.length f.x.t.last x)):=by
 simp only [zbz]
 refine cpz P106_ok Tryz.func134 zaD ?_
 rw [Tryz.ntmps134]
 simp only [Tryz.f134,zag,zap]
 simp (maxSteps:=4000000) only [go_sem,AV.one,zae,zac,zad,zaq,zas,zab,czb,cza,↓reduceIte,zbc,zbo,za3,zaZ,zbb,zbd,zbm,zaa,zao,onz]
 all_goals exact auz
def P107 (g:FuncId):=(zaw 134 (zbC (fun (_:Rg) (f:RefC (FnB 80 Yd)) => let f:=f.x; f.x.chairs.length ≤ 4096) (fun (x:Rg) (f:RefC (FnB 80 Yd)) => let f:=f.x; !zeY f.x.chairs.length f.x.t.last x)) (P106):zaL) g
theorem P107_ok:zaC Tryz.prog P107:=zaj (zaM fun x f h => zsl x f.x h) (P106_ok)
theorem zqc (d:Option Nat):zaI P107 d = none:=(zai (by decide) d).trans (zqd d)
attribute [go_sem] P107 zqc
theorem zsi (l:List (Rg)) (f:FnC 134 (FnB 80 Yd)) (h:l.length ≤ 4096 ∧ let f:=f.x; f.x.chairs.length ≤ 4096):zaQ Tryz.prog 162 [Enc.enc l,Enc.enc f] (· = Enc.enc (let f:=f.x; zbr (fun x => !zeY f.x.chairs.length f.x.t.last x) l l.length 0)):=by
 obtain ⟨f⟩:=f
 obtain ⟨h,hp⟩:=h
 simp only at hp
 simp only [zbz]
 refine cpz P107_ok Tryz.func162 zaD ?_
 rw [Tryz.ntmps162]
 simp only [Tryz.f162,zag,zap]
 simp (maxSteps:=4000000) only [go_sem,AV.one,zae,zac,zad,zaq,zas,zab,czb,cza,↓reduceIte,zbc,zbo,za3,zaZ,zbb,zbd,zbm,zaa,zao,onz]
 refine zbv (l.length) [] [0,1,4,7] (fun i => [(8,.int .i64 i)]) (fun _ m => m) (fun i => zbr (fun x => !zeY f.x.chairs.length f.x.t.last x) l (l.length - i) i = zbr (fun x => !zeY f.x.chairs.length f.x.t.last x) l l.length 0) ?_ ?_ ?_ ?_
 ·rfl
 ·simp [AV.bare,zal,zaN,zaS,zak,zat,zah,tokz1,lk,zab,za2]
 ·intro i hi hI
  rw [show l.length - i = (l.length - (i + 1)) + 1 by omega,zbr] at hI
  cases c:zeY f.x.chairs.length f.x.t.last (at_ l i) <;>
   simp (maxSteps:=4000000) only [go_sem,AV.one,zae,zac,zad,zaq,zas,zab,czb,cza,↓reduceIte,zbc,zbo,za3,zaZ,zbb,zbd,zbm,zaa,zao,onz,zax hi,czH.2 hi,c]
  all_goals all_goals (repeat' first | (with_reducible first | rfl | apply And.intro | assumption) | ((with_reducible show zaf _ _ = true); rfl)) <;> try first | omega | (simp only [InR]; omega)
  ·rw [c] at hI
   rw [← hI]; rfl
  ·rw [c] at hI
   refine nxt hi hI ?_
   simp [AV.bare,zal,zaN,zaS,zak,zat,zah,tokz1,lk,zab,za2]
 ·intro hI
  simp (maxSteps:=4000000) only [go_sem,AV.one,zae,zac,zad,zaq,zas,zab,czb,cza,↓reduceIte,zbc,zbo,za3,zaZ,zbb,zbd,zbm,zaa,zao,onz]
  rw [← hI]; simp [zbr]
def P108 (g:FuncId):=(zaw 162 (zbC (fun (l:List (Rg)) (f:FnC 134 (FnB 80 Yd)) => l.length ≤ 4096 ∧ let f:=f.x; f.x.chairs.length ≤ 4096) (fun l f => let f:=f.x; zbr (fun x => !zeY f.x.chairs.length f.x.t.last x) l l.length 0)) (P107):zaL) g
theorem P108_ok:zaC Tryz.prog P108:=zaj (zaM zsi) (P107_ok)
theorem zqb (d:Option Nat):zaI P108 d = none:=(zai (by decide) d).trans (zqc d)
attribute [go_sem] P108 zqb
theorem zsj (l:List (Rg)) (f:FnC 134 (FnB 80 Yd)) (h:l.length ≤ 4096 ∧ let f:=f.x; f.x.chairs.length ≤ 4096):zaQ Tryz.prog 133 [Enc.enc l,Enc.enc f] (· = Enc.enc (let f:=f.x; l.any (fun x => !zeY f.x.chairs.length f.x.t.last x))):=by
 obtain ⟨f⟩:=f
 obtain ⟨h,hp⟩:=h
 simp only at hp
 simp only [zbz]
 refine cpz P108_ok Tryz.func133 zaD ?_
 rw [Tryz.ntmps133]
 simp only [Tryz.f133,zag,zap]
 simp (maxSteps:=4000000) only [go_sem,AV.one,zae,zac,zad,zaq,zas,zab,czb,cza,↓reduceIte,zbc,zbo,za3,zaZ,zbb,zbd,zbm,zaa,zao,onz]
 all_goals (repeat' first | (with_reducible first | rfl | apply And.intro | assumption) | ((with_reducible show zaf _ _ = true); rfl)) <;> try first | omega | (simp only [InR]; omega)
 congr 1
 exact zeO (fun x => !zeY f.x.chairs.length f.x.t.last x) l l.length 0 (by omega)
def P109 (g:FuncId):=(zaw 133 (zbC (fun (l:List (Rg)) (f:FnC 134 (FnB 80 Yd)) => l.length ≤ 4096 ∧ let f:=f.x; f.x.chairs.length ≤ 4096) (fun l f => let f:=f.x; l.any (fun x => !zeY f.x.chairs.length f.x.t.last x))) (P108):zaL) g
theorem P109_ok:zaC Tryz.prog P109:=zaj (zaM zsj) (P108_ok)
theorem zqa (d:Option Nat):zaI P109 d = none:=(zai (by decide) d).trans (zqb d)
attribute [go_sem] P109 zqa
theorem zsk (l:List (Rg)) (f:FnB 80 Yd) (h:l.length ≤ 4096 ∧ f.x.chairs.length ≤ 4096):zaQ Tryz.prog 84 [Enc.enc l,Enc.enc f] (· = Enc.enc (l.all (fun x => zeY f.x.chairs.length f.x.t.last x))):=by
 obtain ⟨h,hp⟩:=h
 simp only [zbz]
 refine cpz P109_ok Tryz.func84 zaD ?_
 rw [Tryz.ntmps84]
 simp only [Tryz.f84,zag,zap]
 simp (maxSteps:=4000000) only [go_sem,AV.one,zae,zac,zad,zaq,zas,zab,czb,cza,↓reduceIte,zbc,zbo,za3,zaZ,zbb,zbd,zbm,zaa,zao,onz]
 all_goals (repeat' first | (with_reducible first | rfl | apply And.intro | assumption) | ((with_reducible show zaf _ _ = true); rfl)) <;> try first | omega | (simp only [InR]; omega)
 rw [ziW]
def P110 (g:FuncId):=(zaw 84 (zbC (fun (l:List (Rg)) (f:FnB 80 Yd) => l.length ≤ 4096 ∧ f.x.chairs.length ≤ 4096) (fun l f => l.all (fun x => zeY f.x.chairs.length f.x.t.last x))) (P109):zaL) g
theorem P110_ok:zaC Tryz.prog P110:=zaj (zaM zsk) (P109_ok)
theorem zp9 (d:Option Nat):zaI P110 d = none:=(zai (by decide) d).trans (zqa d)
attribute [go_sem] P110 zp9
theorem zoL (y:Yd) (l:List Int) (h:y.chairs.length ≤ 4096 ∧ l.length ≤ 4096):zaQ Tryz.prog 74 [Enc.enc y,Enc.enc l] (· = Enc.enc (zaG y.chairs.length l)):=by
 have h1:=h.1
 have h2:=h.2
 simp only [zbz]
 refine cpz P110_ok Tryz.func74 zaD ?_
 rw [Tryz.ntmps74]
 simp only [Tryz.f74,zag,zap]
 simp (maxSteps:=4000000) only [go_sem,AV.one,zae,zac,zad,zaq,zas,zab,czb,cza,↓reduceIte,zbc,zbo,za3,zaZ,zbb,zbd,zbm,zaa,zao,onz]
 refine zbv (l.length) [] [1,2,4,7,8] (fun i => [(9,.int .i64 i)]) (fun _ m => m) (fun i => zaG y.chairs.length (l.take i) = true) ?_ ?_ ?_ ?_
 ·rfl
 ·simp [AV.bare,zal,zaN,zaS,zak,zat,zah,tokz1,lk,zab,za2]
 ·intro i hi hI
  have hs:zaG y.chairs.length (l.take (i + 1)) = (inB (at_ l i) 0 ((y.chairs.length:Int) - 1) && !(l.take i).contains (at_ l i)):=by
   rw [zaW hi,zei,hI,Bool.true_and]
  have hno:zaG y.chairs.length (l.take (i + 1)) = false → zaG y.chairs.length l = false:=fun q => by
   cases c:zaG y.chairs.length l
   ·rfl
   ·rw [zgx c] at q; cases q
  have hti:((i:Int) - 0).toNat = i:=by omega
  have htl:(l.take i).length ≤ 4096:=by rw [czO]; omega
  cases c1:inB (at_ l i) 0 ((y.chairs.length:Int) - 1)
  ·rw [c1] at hs
   have hb:=hno hs
   simp (maxSteps:=4000000) only [go_sem,AV.one,zae,zac,zad,zaq,zas,zab,czb,cza,↓reduceIte,zbc,zbo,za3,zaZ,zbb,zbd,zbm,zaa,zao,onz,zax hi,czH.2 hi,c1,hb,hti,zhI]
   all_goals exact auz
  ·cases c2:(l.take i).contains (at_ l i)
   ·rw [c1,c2] at hs
    simp (maxSteps:=4000000) only [go_sem,AV.one,zae,zac,zad,zaq,zas,zab,czb,cza,↓reduceIte,zbc,zbo,za3,zaZ,zbb,zbd,zbm,zaa,zao,onz,zax hi,czH.2 hi,c1,c2,hti,zhI]
    all_goals (repeat' first | (with_reducible first | rfl | apply And.intro | assumption) | ((with_reducible show zaf _ _ = true); rfl)) <;> try first | omega | (simp only [InR]; omega)
    refine nxt hi (by rw [hs]; rfl) ?_
    simp [AV.bare,zal,zaN,zaS,zak,zat,zah,tokz1,lk,zab,za2]
   ·rw [c1,c2] at hs
    have hb:=hno hs
    simp (maxSteps:=4000000) only [go_sem,AV.one,zae,zac,zad,zaq,zas,zab,czb,cza,↓reduceIte,zbc,zbo,za3,zaZ,zbb,zbd,zbm,zaa,zao,onz,zax hi,czH.2 hi,c1,c2,hb,hti,zhI]
    all_goals exact auz
 ·intro hI
  rw [czm] at hI
  simp (maxSteps:=4000000) only [go_sem,AV.one,zae,zac,zad,zaq,zas,zab,czb,cza,↓reduceIte,zbc,zbo,za3,zaZ,zbb,zbd,zbm,zaa,zao,onz,hI]
def P111 (g:FuncId):=(zaw 74 (zbC (fun (y:Yd) (l:List Int) => y.chairs.length ≤ 4096 ∧ l.length ≤ 4096) (fun y l => zaG y.chairs.length l)) (P110):zaL) g
theorem znF:zaC Tryz.prog P111:=zaj (zaM zoL) (P110_ok)
theorem zp8 (d:Option Nat):zaI P111 d = none:=(zai (by decide) d).trans (zp9 d)
attribute [go_sem] P111 zp8
theorem zhu (l:List Int) (x:Int):∀ f n,f + n = l.length → (zgy l x f n = -1 ∧ ∀ k,n ≤ k → k < l.length → at_ l k ≠ x) ∨ ∃ k:Nat,zgy l x f n = k ∧ n ≤ k ∧ k < l.length ∧ at_ l k = x ∧ ∀ j,n ≤ j → j < k → at_ l j ≠ x
 | 0,n,h => .inl ⟨rfl,fun k h1 h2 => by omega⟩
 | f + 1,n,h => by
  unfold zgy
  by_cases c:x = at_ l n
  ·rw [if_pos c]
   exact .inr ⟨n,rfl,czf _,by omega,c.symm,fun j h1 h2 => by omega⟩
  ·rw [if_neg c]
   rcases zhu l x f (n + 1) (by omega) with ⟨h1,h2⟩ | ⟨k,h1,h2,h3,h4,h5⟩
   ·refine .inl ⟨h1,fun k g1 g2 => ?_⟩
    by_cases e:k = n
    ·subst e; exact fun q => c q.symm
    ·exact h2 k (by omega) g2
   ·refine .inr ⟨k,h1,by omega,h3,h4,fun j g1 g2 => ?_⟩
    by_cases e:j = n
    ·subst e; exact fun q => c q.symm
    ·exact h5 j (by omega) g2
theorem indexL_bd (l:List Int) (x:Int):-1 ≤ zf3 l x ∧ zf3 l x ≤ l.length:=by
 unfold zf3
 rcases zhu l x l.length 0 (by omega) with ⟨h1,_⟩ | ⟨k,h1,_,h3,_⟩ <;> rw [h1] <;> omega
def zb1 (y:Yd) (order:List Int) (c:Int):Int:=if zf3 order c < 0 ∨ y.hands = 0 then y.t.last + 1 else min (zf3 order c / y.hands) (y.t.last + 1)
theorem zo9 (y:Yd) (order:List Int) (c:Int) (h:(0 ≤ y.t.last ∧ y.t.last ≤ 9) ∧ (0 ≤ y.hands ∧ y.hands ≤ 5) ∧ order.length ≤ 4096):zaQ Tryz.prog 129 [Enc.enc y,Enc.enc order,Enc.enc c] (· = Enc.enc (zb1 y order c)):=by
 have h1:=h.1
 have h2:=h.2.1
 have h3:=h.2.2
 unfold zb1
 have hbd:=indexL_bd order c
 obtain ⟨i,hi⟩:∃ i,zf3 order c = i:=⟨_,rfl⟩
 rw [hi] at hbd ⊢
 cases c1:decide (i < 0)
 ·have g1:¬ i < 0:=by simpa using c1
  cases c2:decide (y.hands = 0)
  ·have g2:¬ y.hands = 0:=by simpa using c2
   rw [if_neg (by omega)]
   have hq0:0 ≤ i / y.hands:=Int.ediv_nonneg (by omega) (by omega)
   have hq1:i / y.hands ≤ i:=Int.ediv_le_self _ (by omega)
   simp only [zbz]
   refine cpz znF Tryz.func129 zaD ?_
   rw [Tryz.ntmps129]
   simp only [Tryz.f129,zag,zap]
   simp (maxSteps:=4000000) only [go_sem,AV.one,zae,zac,zad,zaq,zas,zab,czb,cza,↓reduceIte,zbc,zbo,za3,zaZ,zbb,zbd,zbm,zaa,zao,onz,hi,c1,c2,zh2]
   all_goals (repeat' first | (with_reducible first | rfl | apply And.intro | assumption) | ((with_reducible show zaf _ _ = true); rfl)) <;> try first | omega | (simp only [InR]; omega)
   all_goals (try simp)
  ·rw [if_pos (by right; simpa using c2)]
   simp only [zbz]
   refine cpz znF Tryz.func129 zaD ?_
   rw [Tryz.ntmps129]
   simp only [Tryz.f129,zag,zap]
   simp (maxSteps:=4000000) only [go_sem,AV.one,zae,zac,zad,zaq,zas,zab,czb,cza,↓reduceIte,zbc,zbo,za3,zaZ,zbb,zbd,zbm,zaa,zao,onz,hi,c1,c2]
   all_goals exact auz
 ·rw [if_pos (by left; simpa using c1)]
  simp only [zbz]
  refine cpz znF Tryz.func129 zaD ?_
  rw [Tryz.ntmps129]
  simp only [Tryz.f129,zag,zap]
  simp (maxSteps:=4000000) only [go_sem,AV.one,zae,zac,zad,zaq,zas,zab,czb,cza,↓reduceIte,zbc,zbo,za3,zaZ,zbb,zbd,zbm,zaa,zao,onz,hi,c1]
  all_goals exact auz
theorem zmC {l:List Int} {x:Int} {m:Nat}:(l.take m).contains x = true ↔ ∃ k,k < m ∧ k < l.length ∧ at_ l k = x:=by
 simp only [List.contains_eq_mem,decide_eq_true_eq]
 constructor
 ·intro h
  obtain ⟨k,hk,e⟩:=List.mem_iff_getElem.1 h
  rw [czO] at hk
  rw [List.getElem_take] at e
  exact ⟨k,by omega,by omega,by rw [zdm (by omega)]; exact e⟩
 ·rintro ⟨k,h1,h2,e⟩
  rw [← e,zdm h2]
  exact List.mem_take_iff_getElem.2 ⟨k,by omega,rfl⟩
theorem zv2 {y:Yd} {order:List Int} {c:Int} {h:Nat} (h0:0 ≤ y.hands) (hh:(h:Int) ≤ y.t.last):decide ((h:Int) < zb1 y order c) = !inY y.hands order c h:=by
 have key:inY y.hands order c h = true ↔ ¬ (h:Int) < zb1 y order c:=by
  unfold inY zb1 zf3
  rw [zmC]
  have hm:((y.hands * ((h:Int) + 1)).toNat:Int) = y.hands * ((h:Int) + 1):=Int.toNat_of_nonneg (Int.mul_nonneg h0 (by omega))
  rcases zhu order c order.length 0 (by omega) with ⟨h1,h2⟩ | ⟨k,h1,_,h3,h4,h5⟩
  ·rw [h1,if_pos (.inl (by decide))]
   constructor
   ·rintro ⟨k,_,g2,g3⟩; exact absurd g3 (h2 k (Nat.zero_le _) g2)
   ·intro q; omega
  ·rw [h1]
   by_cases c2:y.hands = 0
   ·rw [if_pos (.inr c2)]
    constructor
    ·rintro ⟨j,g1,_⟩
     rw [c2,Int.zero_mul] at g1
     simp at g1
    ·intro q; omega
   ·rw [if_neg (by omega)]
    have hd:(k:Int) / y.hands ≤ h ↔ (k:Int) < y.hands * ((h:Int) + 1):=by
     rw [show ((k:Int) / y.hands ≤ h ↔ (k:Int) / y.hands < (h:Int) + 1) from ⟨fun q => by omega,fun q => by omega⟩]
     rw [Int.ediv_lt_iff_lt_mul (by omega),Int.mul_comm]
    constructor
    ·rintro ⟨j,g1,g2,g3⟩
     have hkj:k ≤ j:=by
      apply czE
      intro q
      exact h5 j (Nat.zero_le _) q g3
     have:=hd.2 (by omega)
     omega
    ·intro q
     refine ⟨k,?_,h3,h4⟩
     have:=hd.1 (by omega)
     omega
 cases c1:inY y.hands order c h
 ·rw [Bool.not_false,decide_eq_true_eq]
  apply Classical.byContradiction
  intro q
  rw [key.2 q] at c1; cases c1
 ·rw [Bool.not_true,decide_eq_false_iff_not]
  exact key.1 c1
def P112 (g:FuncId):=(zaw 129 (zd1 (fun (y:Yd) (order:List Int) (_:Int) => (0 ≤ y.t.last ∧ y.t.last ≤ 9) ∧ (0 ≤ y.hands ∧ y.hands ≤ 5) ∧ order.length ≤ 4096) zb1) (P111):zaL) g
theorem P112_ok:zaC Tryz.prog P112:=zaj (zbY zo9) (znF)
theorem zp7 (d:Option Nat):zaI P112 d = none:=(zai (by decide) d).trans (zp8 d)
attribute [go_sem] P112 zp7
theorem zam {P:Program} {Φ:zaL} {a b c:Code} {Q:QA} {st:St}:vc P Φ (.seq (.seq a b) c) Q st = vc P Φ (.seq a (.seq b c)) Q st:=by
 simp only [vc]
 have:(zaE (vc P Φ b (zaE (vc P Φ c Q) Q)) (zaE (vc P Φ c Q) Q)) = zaE (vc P Φ b (zaE (vc P Φ c Q) Q)) Q:=by
  funext e st
  cases e <;> rfl
 rw [this]
def stayW (y:Yd) (s:Sea) (x:Rg) (h:Nat):Bool:=at_ (at_ s.rows (at_ y.chairs x.lo.toNat).row.toNat).l h && decide ((h:Int) < x.hi)
def zfE (y:Yd) (s:Sea) (x:Rg):Sy:=syW (stayW y s x) (at_ y.chairs x.lo.toNat) (hrs y)
theorem stay_call (y:Yd) (s:Sea) (x:Rg) (h:((0 ≤ y.t.last ∧ y.t.last ≤ 9) ∧ 0 ≤ x.lo ∧ x.lo < y.chairs.length) ∧ (0 ≤ (at_ y.chairs x.lo.toNat).row ∧ (at_ y.chairs x.lo.toNat).row < s.rows.length) ∧ (0 ≤ (at_ y.chairs x.lo.toNat).hours ∧ (at_ y.chairs x.lo.toNat).hours ≤ 5) ∧ 1 ≤ (at_ y.chairs x.lo.toNat).rot ∧ (at_ y.chairs x.lo.toNat).rot ≤ 9) :
  zaQ Tryz.prog 128 [Enc.enc y,Enc.enc s,Enc.enc x] (· = Enc.enc (zfE y s x)):=by
 obtain ⟨⟨hl,hx0,hx1⟩,hr,hh,hro⟩:=h
 obtain ⟨ci,hci⟩:=czu hx0
 unfold zfE
 obtain ⟨c,hc⟩:∃ c,at_ y.chairs x.lo.toNat = c:=⟨_,rfl⟩
 obtain ⟨W,hW⟩:∃ W,stayW y s x = W:=⟨_,rfl⟩
 have hWh:∀ k,W k = (at_ (at_ s.rows c.row.toNat).l k && decide ((k:Int) < x.hi)):=fun k => by rw [← hW,← hc]; rfl
 rw [hc] at hr hh hro
 rw [hc,hW]
 obtain ⟨ri,hri⟩:=czu hr.1
 have hcl:ci < y.chairs.length:=by omega
 have hg1:(y.chairs.map EncE.cs).getD ci [] = EncE.cs c:=by rw [zax hcl,← hc,hci]; rfl
 have hrl:ri < s.rows.length:=by omega
 have hg2:=zax (f:=EncE.cs) (l:=s.rows) (i:=ri) hrl
 obtain ⟨B,hB⟩:∃ B,at_ s.rows ri = B:=⟨_,rfl⟩
 rw [hB] at hg2
 have hWB:∀ k,W k = (at_ B.l k && decide ((k:Int) < x.hi)):=fun k => by rw [hWh,hri,← hB]; rfl
 have hBl:=B.h
 obtain ⟨n,hn⟩:∃ n,hrs y = n:=⟨_,rfl⟩
 have hnl:(n:Int) = y.t.last + 1:=by rw [← hn]; unfold hrs; omega
 rw [hn]
 obtain ⟨r,hrr⟩:∃ r:Nat,c.rot = r:=⟨c.rot.toNat,by omega⟩
 have hsy:syW W c n = ⟨znn W n,(ziA W r n:Nat),zeZ W (ziA W r n) c.hours n⟩:=by unfold syW; rw [hrr]; rfl
 rw [hsy]
 have hrP:∀ k,k ≤ n → zqT W c.rot n k = (((zeV W r k).getD n:Nat):Int):=fun k hk => by rw [hrr]; exact zqS (by omega) k hk
 obtain ⟨F,hF⟩:∃ F:Nat → List Int,∀ k,F k = zeZ W (ziA W r n) c.hours k:=⟨_,fun _ => rfl⟩
 have hFl:∀ k,(F k).length ≤ k:=fun k => by rw [hF]; exact zim _ _ _ _
 have hx2:x.lo.toNat = ci:=by omega
 simp only [zbz]
 refine cpz P112_ok Tryz.func128 zaD ?_
 rw [Tryz.ntmps128]
 simp only [Tryz.f128,zag,zap]
 iterate 6 (
  refine zar fun Q1 h1 => ?_
  simp (maxSteps:=4000000) only [go_sem,zae,zac,zad,zaq,zas,zab,czb,cza,↓reduceIte,zaa,onz,hci,hg1,hg2,hri,hBl]
  all_goals (repeat' first | (with_reducible first | rfl | apply And.intro | assumption) | ((with_reducible show zaf _ _ = true); rfl)) <;> try first | omega | (simp only [InR]; omega)
  rw [h1]; clear h1 Q1; simp only [zaE,zam])
 simp (maxSteps:=4000000) only [go_sem,zae,zac,zad,zaq,zas,zab,czb,cza,↓reduceIte,zaa,onz]
 refine zbv (n) [.cell 6 2 1] [5,6,7,8,9,33] (fun k => [(34,.int .i64 k),(10,.int .i64 (zj8 W k)),(11,.int .i64 (zeX W k))]) (fun k m => (m.set 6 (.cells [.int .i64 (znn W k),.int .i64 (zqT W c.rot n k),.sl ((F k).map EncE.cs) (.own 7)])).set 7 (.tok (F k).length 1)) (fun _ => True) ?_ ?_ ?_ ?_
 ·trivial
 ·simp [AV.bare,zal,zaN,zaS,zak,zat,zah,tokz1,lk,zab,za2,znn,zqT,zj8,zeX,hF,zeZ,hnl]
 ·intro k hk _
  have hk':(k:Int) < y.t.last + 1:=by omega
  have hkB:=zvE (l:=B.l) (i:=k) (by omega)
  have hfl:=hFl k
  have hcb:=cntW_bd W k
  have hrb:=runW_le W k
  have hlb:=ztl W k
  have hrp:=hrP k (by omega)
  have hrk:zqT W c.rot n k ≤ n ∧ 0 ≤ zqT W c.rot n k:=by
   rw [hrp]
   cases q:zeV W r k with
   | none => simp
   | some z => have:=zgp q; simp; omega
  have hrs':zqT W c.rot n (k + 1) = if W k && decide ((zj8 W (k + 1):Int) = c.rot) then min (zqT W c.rot n k) k else zqT W c.rot n k:=rfl
  have hru:zj8 W (k + 1) = if W k then zj8 W k + 1 else 0:=rfl
  have hla:zeX W (k + 1) = if W k then (k:Int) else zeX W k:=rfl
  have hcs:=zo3 W k
  have hfs:F (k + 1) = if zqq W (ziA W r n) c.hours k then F k ++ [(k:Int)] else F k:=by rw [hF,hF,zl8]
  have hca:zqq W (ziA W r n) c.hours k = (!W k && (decide (k < ziA W r n) && (decide (zeX W k < 0) || decide (c.hours < k - zeX W k)))):=rfl
  obtain ⟨ro,hroe⟩:∃ ro,zqT W c.rot n k = ro:=⟨_,rfl⟩
  obtain ⟨ru,hrue⟩:∃ ru,zj8 W k = ru:=⟨_,rfl⟩
  obtain ⟨la,hlae⟩:∃ la,zeX W k = la:=⟨_,rfl⟩
  obtain ⟨cn,hcne⟩:∃ cn,znn W k = cn:=⟨_,rfl⟩
  obtain ⟨Fk,hFe⟩:∃ Fk,F k = Fk:=⟨_,rfl⟩
  have hrl:W k = false → decide ((k:Int) < ro) = decide (k < ziA W r n):=fun hw => by rw [← hroe,hrr]; exact rotP_last (by omega) hk hw
  rw [hroe] at hrk hrs'
  rw [hrue] at hrb hru
  rw [hlae] at hlb hla hca
  rw [hcne] at hcb hcs
  rw [hFe] at hfl hfs
  rw [hroe,hrue,hlae,hcne,hFe]
  have hWk:=hWB k
  obtain ⟨bk,hbk⟩:∃ bk,at_ B.l k = bk:=⟨_,rfl⟩
  rw [hbk] at hkB hWk
  have hcc:decide (((ru + 1:Nat):Int) = c.rot) = decide ((ru:Int) + 1 = c.rot):=by simp
  iterate 2 (
   refine zar fun Q1 h1 => ?_
   simp (maxSteps:=4000000) only [go_sem,zae,zac,zad,zaq,zas,zab,czb,cza,↓reduceIte,zaa,onz,hk']
   all_goals (repeat' first | (with_reducible first | rfl | apply And.intro | assumption) | ((with_reducible show zaf _ _ = true); rfl)) <;> try first | omega | (simp only [InR]; omega)
   rw [h1]; clear h1 Q1; simp only [zaE,zam])
  refine zar fun Qb hb => ?_
  rw [ze1]
  try simp only [zam]
  iterate 2 (
   refine zar fun Q1 h1 => ?_
   simp (maxSteps:=4000000) only [go_sem,zae,zac,zad,zaq,zas,zab,czb,cza,↓reduceIte,zaa,onz,hkB]
   all_goals (repeat' first | (with_reducible first | rfl | apply And.intro | assumption) | ((with_reducible show zaf _ _ = true); rfl)) <;> try first | omega | (simp only [InR]; omega)
   rw [h1]; clear h1 Q1; simp only [zaE,zam])
  refine zar fun Qc hc => ?_
  (simp (maxSteps:=4000000) only [zjW,zjV,evT,lk,AV.un,AV.av,Nat.reduceEqDiff,↓reduceIte,true_and]; try rw [ziR])
  refine ⟨fun q => ?_,fun q => ?_⟩
  ·rw [q] at hWk
   rw [hWk] at hrs' hru hla hcs hca
   simp only [if_true,Bool.true_and,Bool.not_true,Bool.false_and] at hrs' hru hla hcs hca
   rw [hca] at hfs
   simp only [czp,if_false] at hfs
   have hcc:decide (((ru + 1:Nat):Int) = c.rot) = decide ((ru:Int) + 1 = c.rot):=by simp
   rw [hru,hcc] at hrs'
   try simp only [zam]
   iterate 2 (
    refine zar fun Q1 h1 => ?_
    simp (maxSteps:=4000000) only [go_sem,zae,zac,zad,zaq,zas,zab,czb,cza,↓reduceIte,zaa,onz]
    all_goals (repeat' first | (with_reducible first | rfl | apply And.intro | assumption) | ((with_reducible show zaf _ _ = true); rfl)) <;> try first | omega | (simp only [InR]; omega)
    rw [h1]; clear h1 Q1; simp only [zaE,zam])
   refine zar fun Qd hd => ?_
   (simp (maxSteps:=4000000) only [zjW,zjV,evT,lk,AV.un,AV.av,Nat.reduceEqDiff,↓reduceIte,true_and]; try rw [ziR])
   refine ⟨fun q2 => ?_,fun q2 => ?_⟩
   all_goals
    rw [q2] at hrs'
    simp only [czp,if_false,if_true] at hrs'
   ·simp (maxSteps:=4000000) only [go_sem,zae,zac,zad,zaq,zas,zab,czb,cza,↓reduceIte,zaa,onz,zh2]
    refine ⟨by simp,?_⟩
    simp (maxSteps:=4000000) only [go_sem,zae,zac,zad,zaq,zas,zab,czb,cza,↓reduceIte,zaa,onz,hd,hc,hb]
    refine ⟨(by simp only [InR]; omega),nxt hk trivial ?_⟩
    simp [AV.bare,zal,zaN,zaS,zak,zat,zah,tokz1,lk,zab,za2,hrs',hru,hla,hcs,hfs]
   ·simp (maxSteps:=4000000) only [go_sem,zae,zac,zad,zaq,zas,zab,czb,cza,↓reduceIte,zaa,onz,hd,hc,hb]
    refine ⟨(by simp only [InR]; omega),nxt hk trivial ?_⟩
    simp [AV.bare,zal,zaN,zaS,zak,zat,zah,tokz1,lk,zab,za2,hrs',hru,hla,hcs,hfs]
  ·rw [q] at hWk
   have hrl':=hrl hWk
   rw [hWk] at hrs' hru hla hcs hca
   simp only [czp,if_false,Bool.false_and,Bool.not_false,Bool.true_and] at hrs' hru hla hcs hca
   rw [← hrl'] at hca
   rw [hca] at hfs
   simp only [hc,zaE,zam]
   refine zar fun Q1 h1 => ?_
   simp (maxSteps:=4000000) only [go_sem,zae,zac,zad,zaq,zas,zab,czb,cza,↓reduceIte,zaa,onz]
   all_goals (repeat' first | (with_reducible first | rfl | apply And.intro | assumption) | ((with_reducible show zaf _ _ = true); rfl)) <;> try first | omega | (simp only [InR]; omega)
   rw [h1]; clear h1 Q1; simp only [zaE,zam]
   refine zar fun Qd hd => ?_
   simp (maxSteps:=4000000) only [go_sem,zae,zac,zad,zaq,zas,zab,czb,cza,↓reduceIte,zaa,onz]
   refine ⟨fun q2 => ⟨q2,(by simp only [InR]; omega)⟩,fun q2 => ⟨q2,fun q3 => by rw [q2,q3]; rfl⟩,?_⟩
   rw [hd]
   simp only [zaE]
   (simp (maxSteps:=4000000) only [zjW,zjV,evT,lk,AV.un,AV.av,Nat.reduceEqDiff,↓reduceIte,true_and]; try rw [ziR])
   refine ⟨fun q2 => ?_,fun q2 => ?_⟩
   all_goals
    rw [q2] at hfs
    simp only [czp,if_false,if_true] at hfs
    simp (maxSteps:=4000000) only [go_sem,zae,zac,zad,zaq,zas,zab,czb,cza,↓reduceIte,zaa,onz,hb]
   ·refine ⟨by omega,(by simp only [InR]; omega),nxt hk trivial ?_⟩
    simp [AV.bare,zal,zaN,zaS,zak,zat,zah,tokz1,lk,zab,za2,hrs',hru,hla,hcs,hfs]
   ·refine ⟨(by simp only [InR]; omega),nxt hk trivial ?_⟩
    simp [AV.bare,zal,zaN,zaS,zak,zat,zah,tokz1,lk,zab,za2,hrs',hru,hla,hcs,hfs]
 ·intro _
  have hk':¬ (n:Int) < y.t.last + 1:=by omega
  have hrp:zqT W c.rot n n = (ziA W r n:Nat):=hrP n (czf _)
  have hFn:=hF n
  simp (maxSteps:=4000000) only [go_sem,zae,zac,zad,zaq,zas,zab,czb,cza,↓reduceIte,zaa,onz,hk',hrp,hFn]
  all_goals exact auz
def P113 (g:FuncId):=(zaw 128 (zd1 (fun (y:Yd) (s:Sea) (x:Rg) => ((0 ≤ y.t.last ∧ y.t.last ≤ 9) ∧ 0 ≤ x.lo ∧ x.lo < y.chairs.length) ∧ (0 ≤ (at_ y.chairs x.lo.toNat).row ∧ (at_ y.chairs x.lo.toNat).row < s.rows.length) ∧ (0 ≤ (at_ y.chairs x.lo.toNat).hours ∧ (at_ y.chairs x.lo.toNat).hours ≤ 5) ∧ 1 ≤ (at_ y.chairs x.lo.toNat).rot ∧ (at_ y.chairs x.lo.toNat).rot ≤ 9) zfE) (P112):zaL) g
theorem zsB:zaC Tryz.prog P113:=zaj (zbY stay_call) (P112_ok)
theorem zp6 (d:Option Nat):zaI P113 d = none:=(zai (by decide) d).trans (zp7 d)
attribute [go_sem] P113 zp6
theorem zfY {α β:Type} [Inhabited α] [Inhabited β] {f:α → β} {l:List α} {i:Nat} (h:i < l.length):at_ (l.map f) i = f (at_ l i):=by simp [at_,h]
def zeL (w:List Int):Nat → List Bool
 | 0 => List.replicate 10 false
 | k + 1 => (zeL w k).set (at_ w k).toNat true
theorem zdO (w:List Int):∀ k,(zeL w k).length = 10
 | 0 => rfl
 | k + 1 => by unfold zeL; rw [czt]; exact zdO w k
theorem ztg {w:List Int} (hw:∀ x ∈ w,0 ≤ x ∧ x < 10):∀ k,k ≤ w.length → ∀ i,i < 10 → at_ (zeL w k) i = (w.take k).contains (i:Int)
 | 0,_,i,hi => by
  show at_ (List.replicate 10 false) i = _
  rw [zdm (by simpa using hi),List.getElem_replicate]
  rfl
 | k + 1,hk,i,hi => by
  have ih:=ztg hw k (by omega) i hi
  have hx:=hw _ (zbh (l:=w) (i:=k) (by omega))
  unfold zeL
  rw [zaW (by omega)]
  by_cases e:(at_ w k).toNat = i
  ·have h1:at_ ((zeL w k).set (at_ w k).toNat true) i = true:=by
    generalize (at_ w k).toNat = z at e ⊢
    subst e
    rw [zdm (by rw [czt,zdO]; exact hi),List.getElem_set_self]
   rw [h1]
   have:at_ w k = (i:Int):=by omega
   simp [this]
  ·have h1:at_ ((zeL w k).set (at_ w k).toNat true) i = at_ (zeL w k) i:=by
    generalize (at_ w k).toNat = z at e ⊢
    rw [zdm (by rw [czt,zdO]; exact hi),zdm (by rw [zdO]; exact hi),List.getElem_set_ne e]
   rw [h1,ih]
   have:¬ (i:Int) = at_ w k:=by omega
   rw [Bool.eq_iff_iff]
   simp only [List.contains_eq_mem,decide_eq_true_eq,czv,czC]
   exact ⟨.inl,fun q => q.resolve_right this⟩
theorem zoy {hs:List Int} (h10:hs.length ≤ 10) (lv:Int):zeL (zhd hs lv) (zhd hs lv).length = rowB hs lv:=by
 have hm:∀ x:Int,x ∈ zhd hs lv ↔ ∃ i:Nat,i < hs.length ∧ lv < at_ hs i ∧ x = i:=by
  intro x
  unfold zhd zlB
  simp only [czx,List.mem_filter,List.mem_range,decide_eq_true_eq]
  constructor
  ·rintro ⟨i,⟨h1,h2⟩,rfl⟩; exact ⟨i,h1,h2,rfl⟩
  ·rintro ⟨i,h1,h2,rfl⟩; exact ⟨i,⟨h1,h2⟩,rfl⟩
 apply List.ext_getElem
 ·rw [zdO,zs6]
 ·intro i h1 h2
  rw [zdO] at h1
  have g1:=ztg (w:=zhd hs lv) (fun x hx => by obtain ⟨k,q1,_,q3⟩:=(hm x).1 hx; omega) _ (czf _) i h1
  rw [zdm (by rw [zdO]; exact h1),czm] at g1
  rw [g1,← zdm h2]
  unfold rowB
  rw [zg6 _ h1]
  rw [Bool.eq_iff_iff]
  simp only [List.contains_eq_mem,decide_eq_true_eq,czl]
  rw [hm]
  constructor
  ·rintro ⟨k,q1,q2,q3⟩
   have:i = k:=by omega
   subst this
   exact ⟨q1,q2⟩
  ·rintro ⟨q1,q2⟩; exact ⟨i,q1,q2,rfl⟩
theorem wetL_lt {hs:List Int} (h10:hs.length ≤ 10) {lv x:Int} (hx:x ∈ zhd hs lv):0 ≤ x ∧ x < 10:=by
 unfold zhd zlB at hx
 simp only [czx,List.mem_filter,List.mem_range,decide_eq_true_eq] at hx
 obtain ⟨i,⟨h1,_⟩,rfl⟩:=hx
 omega
def seaQ (t:Tb) (hs:List Int):Sea × Bool:=if (zlk t hs).2 = 0 then (zbH t hs,true) else (⟨hs,[]⟩,false)
theorem zra (t:Tb) (hs:List Int):(zlk t hs = (t.levels.map (zhd hs),0) ∧ zbp t = 0 ∧ za4 t hs = true) ∨ ∃ e,zlk t hs = ([],e) ∧ e ≠ 0:=by
 unfold zlk
 by_cases c:zbp t = 0
 ·rw [if_pos c]
  cases c2:za4 t hs
  ·exact .inr ⟨2,by simp,by decide⟩
  ·exact .inl ⟨by simp,c,rfl⟩
 ·rw [if_neg c]
  exact .inr ⟨_,rfl,c⟩
theorem sea_call (y:Yd) (hs:List Int) (h:y.t.heights.length ≤ 4096 ∧ hs.length ≤ 4096):zaQ Tryz.prog 73 [Enc.enc y,Enc.enc hs] (· = Enc.enc (seaQ y.t hs)):=by
 have h1:=h.1
 have h2:=h.2
 simp only [zaa]
 unfold seaQ
 rcases zra y.t hs with ⟨hp,hf,hl⟩ | ⟨e,hp,he⟩
 case inr =>
  rw [hp,if_neg he]
  simp only [zbz]
  refine cpz zsB Tryz.func73 zaD ?_
  rw [Tryz.ntmps73]
  simp only [Tryz.f73,zag,zap]
  simp (maxSteps:=4000000) only [go_sem,zae,zac,zad,zaq,zas,zab,czb,cza,↓reduceIte,zaa,onz,hp,he]
  all_goals (repeat' first | (with_reducible first | rfl | apply And.intro | assumption) | ((with_reducible show zaf _ _ = true); rfl)) <;> try first | omega | (simp only [InR]; omega)
  refine zbv (0) [] [1,4,5,7,20,21] (fun i => [(22,.int .i64 (0:Int))]) (fun _ m => m) (fun _ => True) ?_ ?_ ?_ ?_
  ·trivial
  ·simp [AV.bare,zal,zaN,zaS,zak,zat,zah,tokz1,lk,zab,za2,-List.map_map]
  ·intro i hi _; omega
  ·intro _
   simp (maxSteps:=4000000) only [go_sem,zae,zac,zad,zaq,zas,zab,czb,cza,↓reduceIte,zaa,onz,he,czA,decide_false]
   all_goals exact auz
 have hv:=zcR hf
 have h10:hs.length ≤ 10:=by have:=zbI hl; have:=hv.hok.len; omega
 have hlv:=hv.lv
 rw [hp,if_pos rfl]
 have hso:zbH y.t hs = ⟨hs,y.t.levels.map (zqo hs)⟩:=rfl
 rw [hso]
 obtain ⟨R,hR⟩:∃ R:Nat → List (BA 10),∀ i,R i = (y.t.levels.take i).map (zqo hs):=⟨_,fun _ => rfl⟩
 have hRl:∀ i,i ≤ y.t.levels.length → (R i).length = i:=fun i hi => by rw [hR]; simp; omega
 have hRs:∀ i,i < y.t.levels.length → R (i + 1) = R i ++ [zqo hs (at_ y.t.levels i)]:=fun i hi => by rw [hR,hR,zaW hi,List.map_append]; rfl
 have hRf:R y.t.levels.length = y.t.levels.map (zqo hs):=by rw [hR,czm]
 rw [← hRf]
 have hR0:R 0 = []:=by rw [hR]; rfl
 simp only [zbz]
 refine cpz zsB Tryz.func73 zaD ?_
 rw [Tryz.ntmps73]
 simp only [Tryz.f73,zag,zap]
 simp (maxSteps:=4000000) only [go_sem,zae,zac,zad,zaq,zas,zab,czb,cza,↓reduceIte,zaa,onz,hp,czz]
 all_goals (repeat' first | (with_reducible first | rfl | apply And.intro | assumption) | ((with_reducible show zaf _ _ = true); rfl)) <;> try first | omega | (simp only [InR]; omega)
 refine zbv (y.t.levels.length) [.cell 1 1 10] [1,4,5,7,20,21] (fun i => [(22,.int .i64 i)]) (fun i m => (m.set 1 (.cells [.sl [] .full,.sl ((R i).map EncE.cs) (.own 2)])).set 2 (.tok i 10)) (fun _ => True) ?_ ?_ ?_ ?_
 ·trivial
 ·simp [AV.bare,zal,zaN,zaS,zak,zat,zah,tokz1,lk,zab,za2,hR0,-List.map_map]
 ·intro i hi _
  have hi':=czH.2 hi
  have hge:((y.t.levels.map (zhd hs)).map EncE.cs).getD i [] = [AV.sl ((zhd hs (at_ y.t.levels i)).map EncE.cs) .no]:=by
   rw [zax (by simpa using hi),zfY hi]; rfl
  obtain ⟨w,hw⟩:∃ w,zhd hs (at_ y.t.levels i) = w:=⟨_,rfl⟩
  have hwl:∀ x ∈ w,0 ≤ x ∧ x < 10:=fun x hx => wetL_lt h10 (by rw [hw]; exact hx)
  have hwn:w.length ≤ hs.length:=by rw [← hw]; exact zmA _ _ _
  have hrow:zeL w w.length = (zqo hs (at_ y.t.levels i)).l:=by rw [← hw]; exact zoy h10 _
  rw [hw] at hge
  have hm0:[AV.bool false,AV.bool false,AV.bool false,AV.bool false,AV.bool false,AV.bool false,AV.bool false,AV.bool false,AV.bool false,AV.bool false] = (zeL w 0).map AV.bool:=rfl
  have hrl:=hRl i (by omega)
  simp (maxSteps:=4000000) only [go_sem,zae,zac,zad,zaq,zas,zab,czb,cza,↓reduceIte,zaa,onz,hi',hge,hm0]
  all_goals (repeat' first | (with_reducible first | rfl | apply And.intro | assumption) | ((with_reducible show zaf _ _ = true); rfl)) <;> try first | omega | (simp only [InR]; omega)
  refine zbv (w.length) [] [1,4,5,7,9,10,20,21,22,24,25,26,27] (fun k => [(28,.int .i64 k)]) (fun k m => m.set 3 (.cells ((zeL w k).map AV.bool))) (fun _ => True) ?_ ?_ ?_ ?_
  ·trivial
  ·simp [AV.bare,zal,zaN,zaS,zak,zat,zah,tokz1,lk,zab,za2,-List.map_map]
  ·intro k hk _
   have hk':=czH.2 hk
   have hkx:=hwl _ (zbh hk)
   obtain ⟨x,hx⟩:=czu hkx.1
   have hge2:(w.map EncE.cs).getD k [] = [AV.int .i64 (x:Int)]:=by rw [zax hk,hx]; rfl
   have hml:=zdO w k
   have hov:=zlS (l:=zeL w k) (i:=x) (by omega) true
   have hms:(zeL w k).set x true = zeL w (k + 1):=by
    show _ = (zeL w k).set (at_ w k).toNat true
    rw [hx]; rfl
   rw [hms] at hov
   have hx10:x < 10:=by omega
   simp (maxSteps:=4000000) only [go_sem,zae,zac,zad,zas,zab,czb,cza,↓reduceIte,zaa,onz,hk',hge2,hml,hov]
   all_goals (repeat' first | (with_reducible first | rfl | apply And.intro | assumption) | ((with_reducible show zaf _ _ = true); rfl)) <;> try first | omega | (simp only [InR]; omega)
   refine nxt hk trivial ?_
   simp [AV.bare,zal,zaN,zaS,zak,zat,zah,tokz1,lk,zab,za2,-List.map_map]
  ·intro _
   have hra:=(zqo hs (at_ y.t.levels i)).h
   have hts:(zqo hs (at_ y.t.levels i)).l.map AV.bool = EncE.cs (zqo hs (at_ y.t.levels i)):=rfl
   simp (maxSteps:=4000000) only [go_sem,zae,zac,zad,zaq,zas,zab,czb,cza,↓reduceIte,zaa,onz,czA,decide_false,hrow,hra,hrl]
   all_goals (repeat' first | (with_reducible first | rfl | apply And.intro | assumption) | ((with_reducible show zaf _ _ = true); rfl)) <;> try first | omega | (simp only [InR]; omega)
   refine nxt hi trivial ?_
   simp [AV.bare,zal,zaN,zaS,zak,zat,zah,tokz1,lk,zab,za2,hRs i hi,-List.map_map]
 ·intro _
  simp (maxSteps:=4000000) only [go_sem,zae,zac,zad,zaq,zas,zab,czb,cza,↓reduceIte,zaa,onz,czA,decide_false]
  all_goals exact auz
def P114 (g:FuncId):=(zaw 73 (zbC (fun (y:Yd) (hs:List Int) => y.t.heights.length ≤ 4096 ∧ hs.length ≤ 4096) (fun y hs => seaQ y.t hs)) (P113):zaL) g
theorem zf0:zaC Tryz.prog P114:=zaj (zaM sea_call) (zsB)
theorem zp5 (d:Option Nat):zaI P114 d = none:=(zai (by decide) d).trans (zp6 d)
attribute [go_sem] P114 zp5
end Go.Proofs
