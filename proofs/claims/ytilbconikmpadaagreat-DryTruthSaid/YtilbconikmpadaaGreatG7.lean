/- The texts D, L, S1, S2, S3, S4, joined. -/
import Derived.Test.YtilbconikmpadaaGreatG6
import Derived.Test.YtilbconikmpadaaGreatProg
import Derived.KernelRfl
set_option linter.all false
namespace Go.Fs
structure Rg where
 lo:Int
 hi:Int
instance:Inhabited Rg:=⟨⟨0,0⟩⟩
structure Mk where
 frm:Int
 til:Int
 top:Rg
instance:Inhabited Mk:=⟨⟨0,0,default⟩⟩
structure Tb where
 last:Int
 heights:List Rg
 step:Int
 levels:List Int
 marks:List Mk
instance:Enc Rg where
 enc r:=.agg [.int .i64 r.lo,.int .i64 r.hi]
 dec
  | .agg [.int .i64 a,.int .i64 b] => some ⟨a,b⟩
  | _ => none
 law v x h:=by
  split at h
  ·cases h; rfl
  ·cases h
 dep:=2
 ok x:=by simp [zbt]
instance:EncE Rg where
 cs r:=[.int .i64 r.lo,.int .i64 r.hi]
 dcs
  | [.int .i64 a,.int .i64 b] => some ⟨a,b⟩
  | _ => none
 law v x h:=by
  split at h
  ·cases h; rfl
  ·cases h
 inv _:=rfl
 dep:=1
 sz:=2
 len _:=rfl
 ok x:=by simp [zbt]
instance:Enc Mk where
 enc m:=.agg [.int .i64 m.frm,.int .i64 m.til,.int .i64 m.top.lo,.int .i64 m.top.hi]
 dec
  | .agg [.int .i64 a,.int .i64 b,.int .i64 c,.int .i64 d] => some ⟨a,b,⟨c,d⟩⟩
  | _ => none
 law v x h:=by
  split at h
  ·cases h; rfl
  ·cases h
 dep:=2
 ok x:=by simp [zbt]
instance:EncE Mk where
 cs m:=[.int .i64 m.frm,.int .i64 m.til,.int .i64 m.top.lo,.int .i64 m.top.hi]
 dcs
  | [.int .i64 a,.int .i64 b,.int .i64 c,.int .i64 d] => some ⟨a,b,⟨c,d⟩⟩
  | _ => none
 law v x h:=by
  split at h
  ·cases h; rfl
  ·cases h
 inv _:=rfl
 dep:=1
 sz:=4
 len _:=rfl
 ok x:=by simp [zbt]
instance:Enc Tb where
 enc t:=.agg [.int .i64 t.last,.sl (t.heights.map EncE.cs) .no,.int .i64 t.step,.sl (t.levels.map EncE.cs) .no,.sl (t.marks.map EncE.cs) .no]
 dec
  | .agg [.int .i64 a,.sl b .no,.int .i64 c,.sl d .no,.sl e .no] =>
   match (zdS b:Option (List Rg)),(zdS d:Option (List Int)),(zdS e:Option (List Mk)) with
   | some b,some d,some e => some ⟨a,b,c,d,e⟩
   | _,_,_ => none
  | _ => none
 law v x h:=by
  split at h
  ·split at h
   ·rename_i h1 h2 h3
    cases h
    rw [zbw _ _ h1,zbw _ _ h2,zbw _ _ h3]
   ·cases h
  ·cases h
 dep:=3
 ok x:=by
  simp only [zbt,czn,czk,or_false,forall_eq_or_imp,forall_eq,true_and,czx,forall_exists_index,and_imp,forall_apply_eq_imp_iff₂]
  exact ⟨fun a _ => EncE.ok a,fun a _ => EncE.ok a,fun a _ => EncE.ok a⟩
theorem enc_rg (r:Rg):Enc.enc r = .agg [.int .i64 r.lo,.int .i64 r.hi]:=rfl
theorem cs_rg (r:Rg):EncE.cs r = [.int .i64 r.lo,.int .i64 r.hi]:=rfl
theorem dec_rg (a b:Int):(Enc.dec (.agg [.int .i64 a,.int .i64 b]):Option Rg) = some ⟨a,b⟩:=rfl
theorem dcs_rg (a b:Int):(EncE.dcs [.int .i64 a,.int .i64 b]:Option Rg) = some ⟨a,b⟩:=rfl
theorem dep_rg:EncE.dep Rg = 1:=rfl
theorem sz_rg:EncE.sz Rg = 2:=rfl
theorem eta_rg (r:Rg):(⟨r.lo,r.hi⟩:Rg) = r:=rfl
theorem enc_mk (m:Mk):Enc.enc m = .agg [.int .i64 m.frm,.int .i64 m.til,.int .i64 m.top.lo,.int .i64 m.top.hi]:=rfl
theorem cs_mk (m:Mk):EncE.cs m = [.int .i64 m.frm,.int .i64 m.til,.int .i64 m.top.lo,.int .i64 m.top.hi]:=rfl
theorem dec_mk (a b c d:Int):(Enc.dec (.agg [.int .i64 a,.int .i64 b,.int .i64 c,.int .i64 d]):Option Mk) = some ⟨a,b,⟨c,d⟩⟩:=rfl
theorem dcs_mk (a b c d:Int):(EncE.dcs [.int .i64 a,.int .i64 b,.int .i64 c,.int .i64 d]:Option Mk) = some ⟨a,b,⟨c,d⟩⟩:=rfl
theorem dep_mk:EncE.dep Mk = 1:=rfl
def zcW:=And.intro @zn0 (And.intro @cs_arr (And.intro @zsv (And.intro @zeI (And.intro @zsB (And.intro @zsA (And.intro @cs_rg (And.intro @cs_mk (And.intro @zcn (And.intro @zdT (And.intro @zlo (And.intro @znW (And.intro @znV (And.intro @dep_rg (And.intro @dep_mk (And.intro @znZ (And.intro @zuv (And.intro @zuu (And.intro @zpN (And.intro @bel_int (And.intro @zpP (And.intro @zus (And.intro @zut (And.intro @zsT (And.intro @zsU (And.intro @bel_mp (And.intro @zsR (And.intro @bel_agg (And.intro @bel_tup (And.intro @zsS (And.intro @zur (And.intro @bel_mpr (And.intro @bel_fn (And.intro @zm7 (And.intro @zlA (And.intro @zlz (And.intro @zlB (And.intro @zm8 (And.intro @zbp (And.intro @zdd (And.intro @zdx (And.intro @zbF (And.intro @zdo (And.intro @ziU (And.intro @zcD (And.intro @bel_vec (And.intro @bel_vp (And.intro @zpQ @zuw)))))))))))))))))))))))))))))))))))))))))))))))
theorem sz_mk:EncE.sz Mk = 4:=rfl
theorem eta_mk (r:Mk):(⟨r.frm,r.til,r.top⟩:Mk) = r:=rfl
theorem zpv (t:Tb):Enc.enc t = .agg [.int .i64 t.last,.sl (t.heights.map EncE.cs) .no,.int .i64 t.step,.sl (t.levels.map EncE.cs) .no,.sl (t.marks.map EncE.cs) .no]:=rfl
def zcw:=And.intro @zso (And.intro @zsq (And.intro @zsp (And.intro @zeL (And.intro @zsr (And.intro @zsn (And.intro @zkm (And.intro @znT (And.intro @enc_rg (And.intro @enc_mk @zpv)))))))))
theorem dec_tb (a c:Int) (b d e:List (List AV)):(Enc.dec (.agg [.int .i64 a,.sl b .no,.int .i64 c,.sl d .no,.sl e .no]):Option Tb) =
  match (zdS b:Option (List Rg)),(zdS d:Option (List Int)),(zdS e:Option (List Mk)) with
   | some b,some d,some e => some ⟨a,b,c,d,e⟩
   | _,_,_ => none:=rfl
theorem eta_tb (t:Tb):(⟨t.last,t.heights,t.step,t.levels,t.marks⟩:Tb) = t:=rfl
attribute [go_sem] zku vc_label vc_seq zkv zff vc_loop vc_exit vc_ret zol vc_draw stepA zvI sem zea semV evT lk zaG blkA St.put putT AV.un AV.av zgh Op.operands zpY pickA binA zcJ retA zhw resV zfg AV.strip Tk.strip ofV znD List.map_nil List.toList_toArray Option.getD_some Option.getD_none czy Nat.reduceAdd Nat.reduceSub if_true if_false Nat.reduceEqDiff true_and and_true czp Nat.reduceLT forall_const Option.map_some reduceCtorEq implies_true zk8 znA zkk zki zfK AV.solid AV.cells' AV.cells List.nil_append czs List.append_nil zd6 avsA callV zjU czn czk or_false or_true false_or forall_eq_or_imp forall_eq zsK Call.operands Array.toList_append czz ztI bndA List.getD_cons_zero List.getD_cons_succ List.getD_nil zs8 zre zcU zbL zeB zjT spec5 zsn zkm znT dec_int dec_bool dec_list zeI zsB zsA dcs_int dcs_list zdD decL_nil decL_cons zsx zlo znW znV sz_int sz_bool sz_list ztH imm_map len_map zag Nat.reduceLeDiff minA maxA true_implies Nat.succ_ne_zero List.drop_succ_cons List.drop_zero List.take_succ_cons List.take_zero czD czS not_true_eq_false not_false_eq_true zcn zdT tokz1 zvz snap_int zvA snap_nilp snap_nilf snap_agg snap_tup snap_ref snap_fn snap_mpr zrj zov snap_ptr snap_arr snap_mp imm_undef imm_int imm_boolv imm_nilp imm_nilf imm_agg imm_tup imm_ref imm_fn imm_mpr zwg zr8 imm_ptr imm_arr imm_mp czA decide_false decide_true false_implies Nat.lt_irrefl czF Nat.reduceMul Nat.zero_add Nat.zero_le Bool.true_eq_false vcDr zdW zgK zjz zes zbT zbN effOp zeY zkS List.filterMap_cons List.filterMap_nil List.replicate List.set_cons_zero List.set_cons_succ Bool.not_true Bool.not_false Bool.and_true Bool.and_false Bool.true_and Bool.false_and Nat.add_zero and_self imp_self appA zuo zkn zll zci zdc Option.map_none List.getElem?_nil zlZ zhO zln eqA Bool.not_eq_true List.singleton_append Option.isSome_some Option.isSome_none zrk zwh ite_or ite_and Bool.not_eq_true' vcOps_nil zvp zjd if_tr if_prop' if_tr' ite_self cast0 cast1 Int.reduceToNat Int.reduceLT Int.reduceLE Int.reduceEq eq_self Int.le_refl czf zso zsq zsp zeL dec_fnl dec_fnb dec_fnc dec_refc zsr cs_arr dec_arr dcs_arr zmY zsv sz_arr take_arr zvt zq9 soft_ints snap_ints imm_ints scal_ints one_ints drop_ints zrK zrL Nat.mul_one callN frA AV.frsh zhp zgL zeR List.any_cons List.any_nil ztD Bool.or_false Bool.false_or Bool.or_true Bool.true_or beq_self_eq_true Nat.reduceBEq vc_scope scpA zro snapF_int zrp zvD zvE snapF_agg snapF_tup snapF_ref snapF_fn snapF_mpr snapF_sl snapF_ptr snapF_arr snapF_mp snapF_yld snapF_vec snapF_vp vecA zsg snapG_agg zrm snapG_int zrn zvB zvC snapG_tup snapG_ref snapG_fn snapG_mpr snapG_sl snapG_ptr snapG_arr snapG_mp snapG_yld snapG_vec snapG_vp snapA partS AV.strip1 AV.soft picR_one picR_nil ztX zvF snap_vec snap_vp imm_vec imm_vp all_map picS_sl picS_arr picS_vec zpZ enc_rg cs_rg dec_rg dcs_rg dep_rg sz_rg eta_rg enc_mk cs_mk dec_mk dcs_mk dep_mk sz_mk eta_mk zpv dec_tb eta_tb
end Go.Fs
namespace Go.Proofs
open Go.Fs
theorem zaF:Tryz.prog.follows .mixedOrders = true:=by kernel_rfl
theorem ly0:zcF Tryz.prog 0 = some (1) ∧ zby Tryz.prog 0 = some (false) ∧ bytesOf? Tryz.prog 0 = some (0) ∧ zba Tryz.prog 0 = false ∧ zcr Tryz.prog 0 = none ∧ zbJ Tryz.prog 0 = none ∧ zbS Tryz.prog 0 = none ∧ intOf? Tryz.prog 0 = none ∧ za8 Tryz.prog 0 = none ∧ zaY Tryz.prog 0 = none ∧ mapOf? Tryz.prog 0 = none ∧ zaI Tryz.prog 0 = none ∧ za0 Tryz.prog 0 = some ([.undef]) ∧ zbO Tryz.prog 0 = some (.undef) ∧ zbR Tryz.prog 0 = none:=by and_intros <;> kernel_rfl
theorem ly1:zcF Tryz.prog 1 = some (1) ∧ zby Tryz.prog 1 = some (false) ∧ bytesOf? Tryz.prog 1 = some (8) ∧ zba Tryz.prog 1 = false ∧ zcr Tryz.prog 1 = none ∧ zbJ Tryz.prog 1 = none ∧ zbS Tryz.prog 1 = none ∧ intOf? Tryz.prog 1 = none ∧ za8 Tryz.prog 1 = none ∧ zaY Tryz.prog 1 = none ∧ mapOf? Tryz.prog 1 = none ∧ zaI Tryz.prog 1 = none ∧ za0 Tryz.prog 1 = some ([.nilf]) ∧ zbO Tryz.prog 1 = some (.nilf) ∧ zbR Tryz.prog 1 = none:=by and_intros <;> kernel_rfl
theorem ly2:zcF Tryz.prog 2 = some (1) ∧ zby Tryz.prog 2 = some (false) ∧ bytesOf? Tryz.prog 2 = some (8) ∧ zba Tryz.prog 2 = false ∧ zcr Tryz.prog 2 = none ∧ zbJ Tryz.prog 2 = none ∧ zbS Tryz.prog 2 = none ∧ intOf? Tryz.prog 2 = some (.i64) ∧ za8 Tryz.prog 2 = none ∧ zaY Tryz.prog 2 = none ∧ mapOf? Tryz.prog 2 = none ∧ zaI Tryz.prog 2 = none ∧ za0 Tryz.prog 2 = some ([(.int .i64 0)]) ∧ zbO Tryz.prog 2 = some ((.int .i64 0)) ∧ zbR Tryz.prog 2 = none:=by and_intros <;> kernel_rfl
theorem ly3:zcF Tryz.prog 3 = some (1) ∧ zby Tryz.prog 3 = some (false) ∧ bytesOf? Tryz.prog 3 = some (8) ∧ zba Tryz.prog 3 = false ∧ zcr Tryz.prog 3 = none ∧ zbJ Tryz.prog 3 = none ∧ zbS Tryz.prog 3 = none ∧ intOf? Tryz.prog 3 = some (.i64) ∧ za8 Tryz.prog 3 = none ∧ zaY Tryz.prog 3 = none ∧ mapOf? Tryz.prog 3 = none ∧ zaI Tryz.prog 3 = none ∧ za0 Tryz.prog 3 = some ([(.int .i64 0)]) ∧ zbO Tryz.prog 3 = some ((.int .i64 0)) ∧ zbR Tryz.prog 3 = none:=by and_intros <;> kernel_rfl
theorem ly4:zcF Tryz.prog 4 = some (1) ∧ zby Tryz.prog 4 = some (false) ∧ bytesOf? Tryz.prog 4 = some (1) ∧ zba Tryz.prog 4 = true ∧ zcr Tryz.prog 4 = none ∧ zbJ Tryz.prog 4 = none ∧ zbS Tryz.prog 4 = none ∧ intOf? Tryz.prog 4 = none ∧ za8 Tryz.prog 4 = none ∧ zaY Tryz.prog 4 = none ∧ mapOf? Tryz.prog 4 = none ∧ zaI Tryz.prog 4 = none ∧ za0 Tryz.prog 4 = some ([(.bool false)]) ∧ zbO Tryz.prog 4 = some ((.bool false)) ∧ zbR Tryz.prog 4 = none:=by and_intros <;> kernel_rfl
theorem ly5:zcF Tryz.prog 5 = some (1) ∧ zby Tryz.prog 5 = some (false) ∧ bytesOf? Tryz.prog 5 = some (1) ∧ zba Tryz.prog 5 = false ∧ zcr Tryz.prog 5 = none ∧ zbJ Tryz.prog 5 = none ∧ zbS Tryz.prog 5 = none ∧ intOf? Tryz.prog 5 = some (.u8) ∧ za8 Tryz.prog 5 = none ∧ zaY Tryz.prog 5 = none ∧ mapOf? Tryz.prog 5 = none ∧ zaI Tryz.prog 5 = none ∧ za0 Tryz.prog 5 = some ([(.int .u8 0)]) ∧ zbO Tryz.prog 5 = some ((.int .u8 0)) ∧ zbR Tryz.prog 5 = none:=by and_intros <;> kernel_rfl
theorem ly22:zcF Tryz.prog 22 = some (1) ∧ zby Tryz.prog 22 = some (false) ∧ bytesOf? Tryz.prog 22 = some (24) ∧ zba Tryz.prog 22 = false ∧ zcr Tryz.prog 22 = some ((68,2)) ∧ zbJ Tryz.prog 22 = none ∧ zbS Tryz.prog 22 = none ∧ intOf? Tryz.prog 22 = none ∧ za8 Tryz.prog 22 = none ∧ zaY Tryz.prog 22 = none ∧ mapOf? Tryz.prog 22 = none ∧ zaI Tryz.prog 22 = none ∧ za0 Tryz.prog 22 = some ([(.sl [] .full)]) ∧ zbO Tryz.prog 22 = some ((.sl [] .full)) ∧ zbR Tryz.prog 22 = none:=by and_intros <;> kernel_rfl
theorem ly23:zcF Tryz.prog 23 = some (1) ∧ zby Tryz.prog 23 = some (false) ∧ bytesOf? Tryz.prog 23 = some (24) ∧ zba Tryz.prog 23 = false ∧ zcr Tryz.prog 23 = some ((3,1)) ∧ zbJ Tryz.prog 23 = none ∧ zbS Tryz.prog 23 = none ∧ intOf? Tryz.prog 23 = none ∧ za8 Tryz.prog 23 = none ∧ zaY Tryz.prog 23 = none ∧ mapOf? Tryz.prog 23 = none ∧ zaI Tryz.prog 23 = none ∧ za0 Tryz.prog 23 = some ([(.sl [] .full)]) ∧ zbO Tryz.prog 23 = some ((.sl [] .full)) ∧ zbR Tryz.prog 23 = none:=by and_intros <;> kernel_rfl
theorem ly24:zcF Tryz.prog 24 = some (1) ∧ zby Tryz.prog 24 = some (false) ∧ bytesOf? Tryz.prog 24 = some (24) ∧ zba Tryz.prog 24 = false ∧ zcr Tryz.prog 24 = some ((175,4)) ∧ zbJ Tryz.prog 24 = none ∧ zbS Tryz.prog 24 = none ∧ intOf? Tryz.prog 24 = none ∧ za8 Tryz.prog 24 = none ∧ zaY Tryz.prog 24 = none ∧ mapOf? Tryz.prog 24 = none ∧ zaI Tryz.prog 24 = none ∧ za0 Tryz.prog 24 = some ([(.sl [] .full)]) ∧ zbO Tryz.prog 24 = some ((.sl [] .full)) ∧ zbR Tryz.prog 24 = none:=by and_intros <;> kernel_rfl
theorem ly26:zcF Tryz.prog 26 = some (5) ∧ zby Tryz.prog 26 = some (true) ∧ bytesOf? Tryz.prog 26 = some (88) ∧ zba Tryz.prog 26 = false ∧ zcr Tryz.prog 26 = none ∧ zbJ Tryz.prog 26 = none ∧ zbS Tryz.prog 26 = none ∧ intOf? Tryz.prog 26 = none ∧ za8 Tryz.prog 26 = none ∧ zaY Tryz.prog 26 = none ∧ mapOf? Tryz.prog 26 = none ∧ zaI Tryz.prog 26 = some ([(0,1),(1,1),(2,1),(3,1),(4,1)]) ∧ za0 Tryz.prog 26 = some ([(.int .i64 0),(.sl [] .full),(.int .i64 0),(.sl [] .full),(.sl [] .full)]) ∧ zbO Tryz.prog 26 = some ((.agg [(.int .i64 0),(.sl [] .full),(.int .i64 0),(.sl [] .full),(.sl [] .full)])) ∧ zbR Tryz.prog 26 = none:=by and_intros <;> kernel_rfl
theorem ly27:zcF Tryz.prog 27 = some (1) ∧ zby Tryz.prog 27 = some (false) ∧ bytesOf? Tryz.prog 27 = some (24) ∧ zba Tryz.prog 27 = false ∧ zcr Tryz.prog 27 = some ((108,3)) ∧ zbJ Tryz.prog 27 = none ∧ zbS Tryz.prog 27 = none ∧ intOf? Tryz.prog 27 = none ∧ za8 Tryz.prog 27 = none ∧ zaY Tryz.prog 27 = none ∧ mapOf? Tryz.prog 27 = none ∧ zaI Tryz.prog 27 = none ∧ za0 Tryz.prog 27 = some ([(.sl [] .full)]) ∧ zbO Tryz.prog 27 = some ((.sl [] .full)) ∧ zbR Tryz.prog 27 = none:=by and_intros <;> kernel_rfl
theorem ly28:zcF Tryz.prog 28 = some (1) ∧ zby Tryz.prog 28 = some (false) ∧ bytesOf? Tryz.prog 28 = some (24) ∧ zba Tryz.prog 28 = false ∧ zcr Tryz.prog 28 = some ((113,2)) ∧ zbJ Tryz.prog 28 = none ∧ zbS Tryz.prog 28 = none ∧ intOf? Tryz.prog 28 = none ∧ za8 Tryz.prog 28 = none ∧ zaY Tryz.prog 28 = none ∧ mapOf? Tryz.prog 28 = none ∧ zaI Tryz.prog 28 = none ∧ za0 Tryz.prog 28 = some ([(.sl [] .full)]) ∧ zbO Tryz.prog 28 = some ((.sl [] .full)) ∧ zbR Tryz.prog 28 = none:=by and_intros <;> kernel_rfl
theorem ly30:zcF Tryz.prog 30 = some (9) ∧ zby Tryz.prog 30 = some (true) ∧ bytesOf? Tryz.prog 30 = some (168) ∧ zba Tryz.prog 30 = false ∧ zcr Tryz.prog 30 = none ∧ zbJ Tryz.prog 30 = none ∧ zbS Tryz.prog 30 = none ∧ intOf? Tryz.prog 30 = none ∧ za8 Tryz.prog 30 = none ∧ zaY Tryz.prog 30 = none ∧ mapOf? Tryz.prog 30 = none ∧ zaI Tryz.prog 30 = some ([(0,5),(5,1),(6,1),(7,1),(8,1)]) ∧ za0 Tryz.prog 30 = some ([(.int .i64 0),(.sl [] .full),(.int .i64 0),(.sl [] .full),(.sl [] .full),(.int .i64 0),(.sl [] .full),(.sl [] .full),(.sl [] .full)]) ∧ zbO Tryz.prog 30 = some ((.agg [(.int .i64 0),(.sl [] .full),(.int .i64 0),(.sl [] .full),(.sl [] .full),(.int .i64 0),(.sl [] .full),(.sl [] .full),(.sl [] .full)])) ∧ zbR Tryz.prog 30 = none:=by and_intros <;> kernel_rfl
theorem ly32:zcF Tryz.prog 32 = some (1) ∧ zby Tryz.prog 32 = some (false) ∧ bytesOf? Tryz.prog 32 = some (8) ∧ zba Tryz.prog 32 = false ∧ zcr Tryz.prog 32 = none ∧ zbJ Tryz.prog 32 = none ∧ zbS Tryz.prog 32 = none ∧ intOf? Tryz.prog 32 = none ∧ za8 Tryz.prog 32 = none ∧ zaY Tryz.prog 32 = none ∧ mapOf? Tryz.prog 32 = none ∧ zaI Tryz.prog 32 = none ∧ za0 Tryz.prog 32 = some ([.nilf]) ∧ zbO Tryz.prog 32 = some (.nilf) ∧ zbR Tryz.prog 32 = none:=by and_intros <;> kernel_rfl
theorem ly33:zcF Tryz.prog 33 = some (1) ∧ zby Tryz.prog 33 = some (false) ∧ bytesOf? Tryz.prog 33 = some (24) ∧ zba Tryz.prog 33 = false ∧ zcr Tryz.prog 33 = some ((55,3)) ∧ zbJ Tryz.prog 33 = none ∧ zbS Tryz.prog 33 = none ∧ intOf? Tryz.prog 33 = none ∧ za8 Tryz.prog 33 = none ∧ zaY Tryz.prog 33 = none ∧ mapOf? Tryz.prog 33 = none ∧ zaI Tryz.prog 33 = none ∧ za0 Tryz.prog 33 = some ([(.sl [] .full)]) ∧ zbO Tryz.prog 33 = some ((.sl [] .full)) ∧ zbR Tryz.prog 33 = none:=by and_intros <;> kernel_rfl
theorem ly34:zcF Tryz.prog 34 = some (1) ∧ zby Tryz.prog 34 = some (false) ∧ bytesOf? Tryz.prog 34 = some (8) ∧ zba Tryz.prog 34 = false ∧ zcr Tryz.prog 34 = none ∧ zbJ Tryz.prog 34 = none ∧ zbS Tryz.prog 34 = none ∧ intOf? Tryz.prog 34 = some (.i64) ∧ za8 Tryz.prog 34 = none ∧ zaY Tryz.prog 34 = none ∧ mapOf? Tryz.prog 34 = none ∧ zaI Tryz.prog 34 = none ∧ za0 Tryz.prog 34 = some ([(.int .i64 0)]) ∧ zbO Tryz.prog 34 = some ((.int .i64 0)) ∧ zbR Tryz.prog 34 = none:=by and_intros <;> kernel_rfl
theorem ly37:zcF Tryz.prog 37 = some (1) ∧ zby Tryz.prog 37 = some (false) ∧ bytesOf? Tryz.prog 37 = some (24) ∧ zba Tryz.prog 37 = false ∧ zcr Tryz.prog 37 = some ((88,2)) ∧ zbJ Tryz.prog 37 = none ∧ zbS Tryz.prog 37 = none ∧ intOf? Tryz.prog 37 = none ∧ za8 Tryz.prog 37 = none ∧ zaY Tryz.prog 37 = none ∧ mapOf? Tryz.prog 37 = none ∧ zaI Tryz.prog 37 = none ∧ za0 Tryz.prog 37 = some ([(.sl [] .full)]) ∧ zbO Tryz.prog 37 = some ((.sl [] .full)) ∧ zbR Tryz.prog 37 = none:=by and_intros <;> kernel_rfl
theorem ly38:zcF Tryz.prog 38 = some (1) ∧ zby Tryz.prog 38 = some (false) ∧ bytesOf? Tryz.prog 38 = some (24) ∧ zba Tryz.prog 38 = false ∧ zcr Tryz.prog 38 = some ((91,4)) ∧ zbJ Tryz.prog 38 = none ∧ zbS Tryz.prog 38 = none ∧ intOf? Tryz.prog 38 = none ∧ za8 Tryz.prog 38 = none ∧ zaY Tryz.prog 38 = none ∧ mapOf? Tryz.prog 38 = none ∧ zaI Tryz.prog 38 = none ∧ za0 Tryz.prog 38 = some ([(.sl [] .full)]) ∧ zbO Tryz.prog 38 = some ((.sl [] .full)) ∧ zbR Tryz.prog 38 = none:=by and_intros <;> kernel_rfl
theorem ly40:zcF Tryz.prog 40 = some (5) ∧ zby Tryz.prog 40 = some (true) ∧ bytesOf? Tryz.prog 40 = some (88) ∧ zba Tryz.prog 40 = false ∧ zcr Tryz.prog 40 = none ∧ zbJ Tryz.prog 40 = none ∧ zbS Tryz.prog 40 = none ∧ intOf? Tryz.prog 40 = none ∧ za8 Tryz.prog 40 = none ∧ zaY Tryz.prog 40 = none ∧ mapOf? Tryz.prog 40 = none ∧ zaI Tryz.prog 40 = some ([(0,1),(1,1),(2,1),(3,1),(4,1)]) ∧ za0 Tryz.prog 40 = some ([(.int .i64 0),(.sl [] .full),(.int .i64 0),(.sl [] .full),(.sl [] .full)]) ∧ zbO Tryz.prog 40 = some ((.agg [(.int .i64 0),(.sl [] .full),(.int .i64 0),(.sl [] .full),(.sl [] .full)])) ∧ zbR Tryz.prog 40 = none:=by and_intros <;> kernel_rfl
theorem ly41:zcF Tryz.prog 41 = some (1) ∧ zby Tryz.prog 41 = some (false) ∧ bytesOf? Tryz.prog 41 = some (24) ∧ zba Tryz.prog 41 = false ∧ zcr Tryz.prog 41 = some ((93,3)) ∧ zbJ Tryz.prog 41 = none ∧ zbS Tryz.prog 41 = none ∧ intOf? Tryz.prog 41 = none ∧ za8 Tryz.prog 41 = none ∧ zaY Tryz.prog 41 = none ∧ mapOf? Tryz.prog 41 = none ∧ zaI Tryz.prog 41 = none ∧ za0 Tryz.prog 41 = some ([(.sl [] .full)]) ∧ zbO Tryz.prog 41 = some ((.sl [] .full)) ∧ zbR Tryz.prog 41 = none:=by and_intros <;> kernel_rfl
theorem ly42:zcF Tryz.prog 42 = some (1) ∧ zby Tryz.prog 42 = some (false) ∧ bytesOf? Tryz.prog 42 = some (24) ∧ zba Tryz.prog 42 = false ∧ zcr Tryz.prog 42 = some ((95,2)) ∧ zbJ Tryz.prog 42 = none ∧ zbS Tryz.prog 42 = none ∧ intOf? Tryz.prog 42 = none ∧ za8 Tryz.prog 42 = none ∧ zaY Tryz.prog 42 = none ∧ mapOf? Tryz.prog 42 = none ∧ zaI Tryz.prog 42 = none ∧ za0 Tryz.prog 42 = some ([(.sl [] .full)]) ∧ zbO Tryz.prog 42 = some ((.sl [] .full)) ∧ zbR Tryz.prog 42 = none:=by and_intros <;> kernel_rfl
theorem ly44:zcF Tryz.prog 44 = some (9) ∧ zby Tryz.prog 44 = some (true) ∧ bytesOf? Tryz.prog 44 = some (168) ∧ zba Tryz.prog 44 = false ∧ zcr Tryz.prog 44 = none ∧ zbJ Tryz.prog 44 = none ∧ zbS Tryz.prog 44 = none ∧ intOf? Tryz.prog 44 = none ∧ za8 Tryz.prog 44 = none ∧ zaY Tryz.prog 44 = none ∧ mapOf? Tryz.prog 44 = none ∧ zaI Tryz.prog 44 = some ([(0,5),(5,1),(6,1),(7,1),(8,1)]) ∧ za0 Tryz.prog 44 = some ([(.int .i64 0),(.sl [] .full),(.int .i64 0),(.sl [] .full),(.sl [] .full),(.int .i64 0),(.sl [] .full),(.sl [] .full),(.sl [] .full)]) ∧ zbO Tryz.prog 44 = some ((.agg [(.int .i64 0),(.sl [] .full),(.int .i64 0),(.sl [] .full),(.sl [] .full),(.int .i64 0),(.sl [] .full),(.sl [] .full),(.sl [] .full)])) ∧ zbR Tryz.prog 44 = none:=by and_intros <;> kernel_rfl
theorem ly53:zcF Tryz.prog 53 = some (3) ∧ zby Tryz.prog 53 = some (true) ∧ bytesOf? Tryz.prog 53 = some (40) ∧ zba Tryz.prog 53 = false ∧ zcr Tryz.prog 53 = none ∧ zbJ Tryz.prog 53 = none ∧ zbS Tryz.prog 53 = none ∧ intOf? Tryz.prog 53 = none ∧ za8 Tryz.prog 53 = none ∧ zaY Tryz.prog 53 = none ∧ mapOf? Tryz.prog 53 = none ∧ zaI Tryz.prog 53 = some ([(0,1),(1,1),(2,1)]) ∧ za0 Tryz.prog 53 = some ([(.int .i64 0),(.int .i64 0),(.sl [] .full)]) ∧ zbO Tryz.prog 53 = some ((.agg [(.int .i64 0),(.int .i64 0),(.sl [] .full)])) ∧ zbR Tryz.prog 53 = none:=by and_intros <;> kernel_rfl
theorem ly55:zcF Tryz.prog 55 = some (3) ∧ zby Tryz.prog 55 = some (true) ∧ bytesOf? Tryz.prog 55 = some (40) ∧ zba Tryz.prog 55 = false ∧ zcr Tryz.prog 55 = none ∧ zbJ Tryz.prog 55 = none ∧ zbS Tryz.prog 55 = none ∧ intOf? Tryz.prog 55 = none ∧ za8 Tryz.prog 55 = none ∧ zaY Tryz.prog 55 = none ∧ mapOf? Tryz.prog 55 = none ∧ zaI Tryz.prog 55 = some ([(0,1),(1,1),(2,1)]) ∧ za0 Tryz.prog 55 = some ([(.int .i64 0),(.int .i64 0),(.sl [] .full)]) ∧ zbO Tryz.prog 55 = some ((.agg [(.int .i64 0),(.int .i64 0),(.sl [] .full)])) ∧ zbR Tryz.prog 55 = none:=by and_intros <;> kernel_rfl
theorem ly61:zcF Tryz.prog 61 = some (2) ∧ zby Tryz.prog 61 = some (true) ∧ bytesOf? Tryz.prog 61 = some (16) ∧ zba Tryz.prog 61 = false ∧ zcr Tryz.prog 61 = none ∧ zbJ Tryz.prog 61 = none ∧ zbS Tryz.prog 61 = none ∧ intOf? Tryz.prog 61 = none ∧ za8 Tryz.prog 61 = some (2) ∧ zaY Tryz.prog 61 = some (2) ∧ mapOf? Tryz.prog 61 = none ∧ zaI Tryz.prog 61 = some ([(0,1),(1,1)]) ∧ za0 Tryz.prog 61 = some ([(.int .i64 0),(.int .i64 0)]) ∧ zbO Tryz.prog 61 = some ((.agg [(.int .i64 0),(.int .i64 0)])) ∧ zbR Tryz.prog 61 = none:=by and_intros <;> kernel_rfl
theorem ly64:zcF Tryz.prog 64 = some (1) ∧ zby Tryz.prog 64 = some (false) ∧ bytesOf? Tryz.prog 64 = some (24) ∧ zba Tryz.prog 64 = false ∧ zcr Tryz.prog 64 = some ((23,1)) ∧ zbJ Tryz.prog 64 = none ∧ zbS Tryz.prog 64 = none ∧ intOf? Tryz.prog 64 = none ∧ za8 Tryz.prog 64 = none ∧ zaY Tryz.prog 64 = none ∧ mapOf? Tryz.prog 64 = none ∧ zaI Tryz.prog 64 = none ∧ za0 Tryz.prog 64 = some ([(.sl [] .full)]) ∧ zbO Tryz.prog 64 = some ((.sl [] .full)) ∧ zbR Tryz.prog 64 = none:=by and_intros <;> kernel_rfl
theorem ly68:zcF Tryz.prog 68 = some (2) ∧ zby Tryz.prog 68 = some (true) ∧ bytesOf? Tryz.prog 68 = some (16) ∧ zba Tryz.prog 68 = false ∧ zcr Tryz.prog 68 = none ∧ zbJ Tryz.prog 68 = none ∧ zbS Tryz.prog 68 = none ∧ intOf? Tryz.prog 68 = none ∧ za8 Tryz.prog 68 = some (2) ∧ zaY Tryz.prog 68 = some (2) ∧ mapOf? Tryz.prog 68 = none ∧ zaI Tryz.prog 68 = some ([(0,1),(1,1)]) ∧ za0 Tryz.prog 68 = some ([(.int .i64 0),(.int .i64 0)]) ∧ zbO Tryz.prog 68 = some ((.agg [(.int .i64 0),(.int .i64 0)])) ∧ zbR Tryz.prog 68 = none:=by and_intros <;> kernel_rfl
theorem ly88:zcF Tryz.prog 88 = some (2) ∧ zby Tryz.prog 88 = some (true) ∧ bytesOf? Tryz.prog 88 = some (16) ∧ zba Tryz.prog 88 = false ∧ zcr Tryz.prog 88 = none ∧ zbJ Tryz.prog 88 = none ∧ zbS Tryz.prog 88 = none ∧ intOf? Tryz.prog 88 = none ∧ za8 Tryz.prog 88 = some (2) ∧ zaY Tryz.prog 88 = some (2) ∧ mapOf? Tryz.prog 88 = none ∧ zaI Tryz.prog 88 = some ([(0,1),(1,1)]) ∧ za0 Tryz.prog 88 = some ([(.int .i64 0),(.int .i64 0)]) ∧ zbO Tryz.prog 88 = some ((.agg [(.int .i64 0),(.int .i64 0)])) ∧ zbR Tryz.prog 88 = none:=by and_intros <;> kernel_rfl
theorem ly91:zcF Tryz.prog 91 = some (4) ∧ zby Tryz.prog 91 = some (true) ∧ bytesOf? Tryz.prog 91 = some (32) ∧ zba Tryz.prog 91 = false ∧ zcr Tryz.prog 91 = none ∧ zbJ Tryz.prog 91 = none ∧ zbS Tryz.prog 91 = none ∧ intOf? Tryz.prog 91 = none ∧ za8 Tryz.prog 91 = none ∧ zaY Tryz.prog 91 = some (4) ∧ mapOf? Tryz.prog 91 = none ∧ zaI Tryz.prog 91 = some ([(0,1),(1,1),(2,2)]) ∧ za0 Tryz.prog 91 = some ([(.int .i64 0),(.int .i64 0),(.int .i64 0),(.int .i64 0)]) ∧ zbO Tryz.prog 91 = some ((.agg [(.int .i64 0),(.int .i64 0),(.int .i64 0),(.int .i64 0)])) ∧ zbR Tryz.prog 91 = none:=by and_intros <;> kernel_rfl
theorem ly93:zcF Tryz.prog 93 = some (3) ∧ zby Tryz.prog 93 = some (true) ∧ bytesOf? Tryz.prog 93 = some (24) ∧ zba Tryz.prog 93 = false ∧ zcr Tryz.prog 93 = none ∧ zbJ Tryz.prog 93 = none ∧ zbS Tryz.prog 93 = none ∧ intOf? Tryz.prog 93 = none ∧ za8 Tryz.prog 93 = some (3) ∧ zaY Tryz.prog 93 = some (3) ∧ mapOf? Tryz.prog 93 = none ∧ zaI Tryz.prog 93 = some ([(0,1),(1,1),(2,1)]) ∧ za0 Tryz.prog 93 = some ([(.int .i64 0),(.int .i64 0),(.int .i64 0)]) ∧ zbO Tryz.prog 93 = some ((.agg [(.int .i64 0),(.int .i64 0),(.int .i64 0)])) ∧ zbR Tryz.prog 93 = none:=by and_intros <;> kernel_rfl
theorem ly95:zcF Tryz.prog 95 = some (2) ∧ zby Tryz.prog 95 = some (true) ∧ bytesOf? Tryz.prog 95 = some (16) ∧ zba Tryz.prog 95 = false ∧ zcr Tryz.prog 95 = none ∧ zbJ Tryz.prog 95 = none ∧ zbS Tryz.prog 95 = none ∧ intOf? Tryz.prog 95 = none ∧ za8 Tryz.prog 95 = some (2) ∧ zaY Tryz.prog 95 = some (2) ∧ mapOf? Tryz.prog 95 = none ∧ zaI Tryz.prog 95 = some ([(0,1),(1,1)]) ∧ za0 Tryz.prog 95 = some ([(.int .i64 0),(.int .i64 0)]) ∧ zbO Tryz.prog 95 = some ((.agg [(.int .i64 0),(.int .i64 0)])) ∧ zbR Tryz.prog 95 = none:=by and_intros <;> kernel_rfl
theorem ly96:zcF Tryz.prog 96 = some (1) ∧ zby Tryz.prog 96 = some (false) ∧ bytesOf? Tryz.prog 96 = some (2) ∧ zba Tryz.prog 96 = false ∧ zcr Tryz.prog 96 = none ∧ zbJ Tryz.prog 96 = none ∧ zbS Tryz.prog 96 = none ∧ intOf? Tryz.prog 96 = some (.u16) ∧ za8 Tryz.prog 96 = none ∧ zaY Tryz.prog 96 = none ∧ mapOf? Tryz.prog 96 = none ∧ zaI Tryz.prog 96 = none ∧ za0 Tryz.prog 96 = some ([(.int .u16 0)]) ∧ zbO Tryz.prog 96 = some ((.int .u16 0)) ∧ zbR Tryz.prog 96 = none:=by and_intros <;> kernel_rfl
theorem ly97:zcF Tryz.prog 97 = some (1) ∧ zby Tryz.prog 97 = some (false) ∧ bytesOf? Tryz.prog 97 = some (24) ∧ zba Tryz.prog 97 = false ∧ zcr Tryz.prog 97 = some ((5,1)) ∧ zbJ Tryz.prog 97 = none ∧ zbS Tryz.prog 97 = none ∧ intOf? Tryz.prog 97 = none ∧ za8 Tryz.prog 97 = none ∧ zaY Tryz.prog 97 = none ∧ mapOf? Tryz.prog 97 = none ∧ zaI Tryz.prog 97 = none ∧ za0 Tryz.prog 97 = some ([(.sl [] .full)]) ∧ zbO Tryz.prog 97 = some ((.sl [] .full)) ∧ zbR Tryz.prog 97 = none:=by and_intros <;> kernel_rfl
theorem ly108:zcF Tryz.prog 108 = some (3) ∧ zby Tryz.prog 108 = some (true) ∧ bytesOf? Tryz.prog 108 = some (24) ∧ zba Tryz.prog 108 = false ∧ zcr Tryz.prog 108 = none ∧ zbJ Tryz.prog 108 = none ∧ zbS Tryz.prog 108 = none ∧ intOf? Tryz.prog 108 = none ∧ za8 Tryz.prog 108 = some (3) ∧ zaY Tryz.prog 108 = some (3) ∧ mapOf? Tryz.prog 108 = none ∧ zaI Tryz.prog 108 = some ([(0,1),(1,1),(2,1)]) ∧ za0 Tryz.prog 108 = some ([(.int .i64 0),(.int .i64 0),(.int .i64 0)]) ∧ zbO Tryz.prog 108 = some ((.agg [(.int .i64 0),(.int .i64 0),(.int .i64 0)])) ∧ zbR Tryz.prog 108 = none:=by and_intros <;> kernel_rfl
theorem ly113:zcF Tryz.prog 113 = some (2) ∧ zby Tryz.prog 113 = some (true) ∧ bytesOf? Tryz.prog 113 = some (16) ∧ zba Tryz.prog 113 = false ∧ zcr Tryz.prog 113 = none ∧ zbJ Tryz.prog 113 = none ∧ zbS Tryz.prog 113 = none ∧ intOf? Tryz.prog 113 = none ∧ za8 Tryz.prog 113 = some (2) ∧ zaY Tryz.prog 113 = some (2) ∧ mapOf? Tryz.prog 113 = none ∧ zaI Tryz.prog 113 = some ([(0,1),(1,1)]) ∧ za0 Tryz.prog 113 = some ([(.int .i64 0),(.int .i64 0)]) ∧ zbO Tryz.prog 113 = some ((.agg [(.int .i64 0),(.int .i64 0)])) ∧ zbR Tryz.prog 113 = none:=by and_intros <;> kernel_rfl
theorem ly117:zcF Tryz.prog 117 = some (1) ∧ zby Tryz.prog 117 = some (false) ∧ bytesOf? Tryz.prog 117 = some (8) ∧ zba Tryz.prog 117 = false ∧ zcr Tryz.prog 117 = none ∧ zbJ Tryz.prog 117 = none ∧ zbS Tryz.prog 117 = none ∧ intOf? Tryz.prog 117 = some (.u64) ∧ za8 Tryz.prog 117 = none ∧ zaY Tryz.prog 117 = none ∧ mapOf? Tryz.prog 117 = none ∧ zaI Tryz.prog 117 = none ∧ za0 Tryz.prog 117 = some ([(.int .u64 0)]) ∧ zbO Tryz.prog 117 = some ((.int .u64 0)) ∧ zbR Tryz.prog 117 = none:=by and_intros <;> kernel_rfl
theorem ly128:zcF Tryz.prog 128 = some (1) ∧ zby Tryz.prog 128 = some (false) ∧ bytesOf? Tryz.prog 128 = some (24) ∧ zba Tryz.prog 128 = false ∧ zcr Tryz.prog 128 = some ((188,10)) ∧ zbJ Tryz.prog 128 = none ∧ zbS Tryz.prog 128 = none ∧ intOf? Tryz.prog 128 = none ∧ za8 Tryz.prog 128 = none ∧ zaY Tryz.prog 128 = none ∧ mapOf? Tryz.prog 128 = none ∧ zaI Tryz.prog 128 = none ∧ za0 Tryz.prog 128 = some ([(.sl [] .full)]) ∧ zbO Tryz.prog 128 = some ((.sl [] .full)) ∧ zbR Tryz.prog 128 = none:=by and_intros <;> kernel_rfl
theorem ly130:zcF Tryz.prog 130 = some (2) ∧ zby Tryz.prog 130 = some (true) ∧ bytesOf? Tryz.prog 130 = some (48) ∧ zba Tryz.prog 130 = false ∧ zcr Tryz.prog 130 = none ∧ zbJ Tryz.prog 130 = none ∧ zbS Tryz.prog 130 = none ∧ intOf? Tryz.prog 130 = none ∧ za8 Tryz.prog 130 = none ∧ zaY Tryz.prog 130 = none ∧ mapOf? Tryz.prog 130 = none ∧ zaI Tryz.prog 130 = some ([(0,1),(1,1)]) ∧ za0 Tryz.prog 130 = some ([(.sl [] .full),(.sl [] .full)]) ∧ zbO Tryz.prog 130 = some ((.agg [(.sl [] .full),(.sl [] .full)])) ∧ zbR Tryz.prog 130 = none:=by and_intros <;> kernel_rfl
theorem ly137:zcF Tryz.prog 137 = some (1) ∧ zby Tryz.prog 137 = some (false) ∧ bytesOf? Tryz.prog 137 = some (8) ∧ zba Tryz.prog 137 = false ∧ zcr Tryz.prog 137 = none ∧ zbJ Tryz.prog 137 = none ∧ zbS Tryz.prog 137 = none ∧ intOf? Tryz.prog 137 = none ∧ za8 Tryz.prog 137 = none ∧ zaY Tryz.prog 137 = none ∧ mapOf? Tryz.prog 137 = none ∧ zaI Tryz.prog 137 = none ∧ za0 Tryz.prog 137 = some ([.nilf]) ∧ zbO Tryz.prog 137 = some (.nilf) ∧ zbR Tryz.prog 137 = none:=by and_intros <;> kernel_rfl
theorem ly138:zcF Tryz.prog 138 = some (1) ∧ zby Tryz.prog 138 = some (false) ∧ bytesOf? Tryz.prog 138 = some (8) ∧ zba Tryz.prog 138 = false ∧ zcr Tryz.prog 138 = none ∧ zbJ Tryz.prog 138 = none ∧ zbS Tryz.prog 138 = none ∧ intOf? Tryz.prog 138 = none ∧ za8 Tryz.prog 138 = none ∧ zaY Tryz.prog 138 = none ∧ mapOf? Tryz.prog 138 = none ∧ zaI Tryz.prog 138 = none ∧ za0 Tryz.prog 138 = some ([.nilf]) ∧ zbO Tryz.prog 138 = some (.nilf) ∧ zbR Tryz.prog 138 = none:=by and_intros <;> kernel_rfl
theorem ly145:zcF Tryz.prog 145 = some (1) ∧ zby Tryz.prog 145 = some (false) ∧ bytesOf? Tryz.prog 145 = some (8) ∧ zba Tryz.prog 145 = false ∧ zcr Tryz.prog 145 = none ∧ zbJ Tryz.prog 145 = none ∧ zbS Tryz.prog 145 = none ∧ intOf? Tryz.prog 145 = none ∧ za8 Tryz.prog 145 = none ∧ zaY Tryz.prog 145 = none ∧ mapOf? Tryz.prog 145 = none ∧ zaI Tryz.prog 145 = none ∧ za0 Tryz.prog 145 = some ([.nilp]) ∧ zbO Tryz.prog 145 = some (.nilp) ∧ zbR Tryz.prog 145 = none:=by and_intros <;> kernel_rfl
theorem ly148:zcF Tryz.prog 148 = some (1) ∧ zby Tryz.prog 148 = some (false) ∧ bytesOf? Tryz.prog 148 = some (8) ∧ zba Tryz.prog 148 = false ∧ zcr Tryz.prog 148 = none ∧ zbJ Tryz.prog 148 = none ∧ zbS Tryz.prog 148 = none ∧ intOf? Tryz.prog 148 = none ∧ za8 Tryz.prog 148 = none ∧ zaY Tryz.prog 148 = none ∧ mapOf? Tryz.prog 148 = none ∧ zaI Tryz.prog 148 = none ∧ za0 Tryz.prog 148 = some ([.nilf]) ∧ zbO Tryz.prog 148 = some (.nilf) ∧ zbR Tryz.prog 148 = none:=by and_intros <;> kernel_rfl
theorem ly149:zcF Tryz.prog 149 = some (1) ∧ zby Tryz.prog 149 = some (false) ∧ bytesOf? Tryz.prog 149 = some (8) ∧ zba Tryz.prog 149 = false ∧ zcr Tryz.prog 149 = none ∧ zbJ Tryz.prog 149 = none ∧ zbS Tryz.prog 149 = none ∧ intOf? Tryz.prog 149 = none ∧ za8 Tryz.prog 149 = none ∧ zaY Tryz.prog 149 = none ∧ mapOf? Tryz.prog 149 = none ∧ zaI Tryz.prog 149 = none ∧ za0 Tryz.prog 149 = some ([.nilf]) ∧ zbO Tryz.prog 149 = some (.nilf) ∧ zbR Tryz.prog 149 = none:=by and_intros <;> kernel_rfl
theorem ly151:zcF Tryz.prog 151 = some (1) ∧ zby Tryz.prog 151 = some (true) ∧ bytesOf? Tryz.prog 151 = some (8) ∧ zba Tryz.prog 151 = false ∧ zcr Tryz.prog 151 = none ∧ zbJ Tryz.prog 151 = none ∧ zbS Tryz.prog 151 = none ∧ intOf? Tryz.prog 151 = none ∧ za8 Tryz.prog 151 = none ∧ zaY Tryz.prog 151 = none ∧ mapOf? Tryz.prog 151 = none ∧ zaI Tryz.prog 151 = some ([(0,1)]) ∧ za0 Tryz.prog 151 = some ([.nilf]) ∧ zbO Tryz.prog 151 = some ((.agg [.nilf])) ∧ zbR Tryz.prog 151 = none:=by and_intros <;> kernel_rfl
theorem ly158:zcF Tryz.prog 158 = some (1) ∧ zby Tryz.prog 158 = some (false) ∧ bytesOf? Tryz.prog 158 = some (24) ∧ zba Tryz.prog 158 = false ∧ zcr Tryz.prog 158 = some ((200,1)) ∧ zbJ Tryz.prog 158 = none ∧ zbS Tryz.prog 158 = none ∧ intOf? Tryz.prog 158 = none ∧ za8 Tryz.prog 158 = none ∧ zaY Tryz.prog 158 = none ∧ mapOf? Tryz.prog 158 = none ∧ zaI Tryz.prog 158 = none ∧ za0 Tryz.prog 158 = some ([(.sl [] .full)]) ∧ zbO Tryz.prog 158 = some ((.sl [] .full)) ∧ zbR Tryz.prog 158 = none:=by and_intros <;> kernel_rfl
theorem ly160:zcF Tryz.prog 160 = some (1) ∧ zby Tryz.prog 160 = some (false) ∧ bytesOf? Tryz.prog 160 = some (24) ∧ zba Tryz.prog 160 = false ∧ zcr Tryz.prog 160 = some ((130,2)) ∧ zbJ Tryz.prog 160 = none ∧ zbS Tryz.prog 160 = none ∧ intOf? Tryz.prog 160 = none ∧ za8 Tryz.prog 160 = none ∧ zaY Tryz.prog 160 = none ∧ mapOf? Tryz.prog 160 = none ∧ zaI Tryz.prog 160 = none ∧ za0 Tryz.prog 160 = some ([(.sl [] .full)]) ∧ zbO Tryz.prog 160 = some ((.sl [] .full)) ∧ zbR Tryz.prog 160 = none:=by and_intros <;> kernel_rfl
theorem ly162:zcF Tryz.prog 162 = some (10) ∧ zby Tryz.prog 162 = some (true) ∧ bytesOf? Tryz.prog 162 = some (192) ∧ zba Tryz.prog 162 = false ∧ zcr Tryz.prog 162 = none ∧ zbJ Tryz.prog 162 = none ∧ zbS Tryz.prog 162 = none ∧ intOf? Tryz.prog 162 = none ∧ za8 Tryz.prog 162 = none ∧ zaY Tryz.prog 162 = none ∧ mapOf? Tryz.prog 162 = none ∧ zaI Tryz.prog 162 = some ([(0,9),(9,1)]) ∧ za0 Tryz.prog 162 = some ([(.int .i64 0),(.sl [] .full),(.int .i64 0),(.sl [] .full),(.sl [] .full),(.int .i64 0),(.sl [] .full),(.sl [] .full),(.sl [] .full),(.sl [] .full)]) ∧ zbO Tryz.prog 162 = some ((.agg [(.int .i64 0),(.sl [] .full),(.int .i64 0),(.sl [] .full),(.sl [] .full),(.int .i64 0),(.sl [] .full),(.sl [] .full),(.sl [] .full),(.sl [] .full)])) ∧ zbR Tryz.prog 162 = none:=by and_intros <;> kernel_rfl
theorem ly164:zcF Tryz.prog 164 = some (1) ∧ zby Tryz.prog 164 = some (false) ∧ bytesOf? Tryz.prog 164 = some (8) ∧ zba Tryz.prog 164 = false ∧ zcr Tryz.prog 164 = none ∧ zbJ Tryz.prog 164 = none ∧ zbS Tryz.prog 164 = none ∧ intOf? Tryz.prog 164 = none ∧ za8 Tryz.prog 164 = none ∧ zaY Tryz.prog 164 = none ∧ mapOf? Tryz.prog 164 = none ∧ zaI Tryz.prog 164 = none ∧ za0 Tryz.prog 164 = some ([.nilf]) ∧ zbO Tryz.prog 164 = some (.nilf) ∧ zbR Tryz.prog 164 = none:=by and_intros <;> kernel_rfl
theorem ly169:zcF Tryz.prog 169 = some (10) ∧ zby Tryz.prog 169 = some (true) ∧ bytesOf? Tryz.prog 169 = some (80) ∧ zba Tryz.prog 169 = false ∧ zcr Tryz.prog 169 = none ∧ zbJ Tryz.prog 169 = some ((10,1)) ∧ zbS Tryz.prog 169 = some (3) ∧ intOf? Tryz.prog 169 = none ∧ za8 Tryz.prog 169 = some (10) ∧ zaY Tryz.prog 169 = some (10) ∧ mapOf? Tryz.prog 169 = none ∧ zaI Tryz.prog 169 = none ∧ za0 Tryz.prog 169 = some ([(.int .i64 0),(.int .i64 0),(.int .i64 0),(.int .i64 0),(.int .i64 0),(.int .i64 0),(.int .i64 0),(.int .i64 0),(.int .i64 0),(.int .i64 0)]) ∧ zbO Tryz.prog 169 = some ((.agg [(.int .i64 0),(.int .i64 0),(.int .i64 0),(.int .i64 0),(.int .i64 0),(.int .i64 0),(.int .i64 0),(.int .i64 0),(.int .i64 0),(.int .i64 0)])) ∧ zbR Tryz.prog 169 = none:=by and_intros <;> kernel_rfl
theorem ly175:zcF Tryz.prog 175 = some (4) ∧ zby Tryz.prog 175 = some (true) ∧ bytesOf? Tryz.prog 175 = some (32) ∧ zba Tryz.prog 175 = false ∧ zcr Tryz.prog 175 = none ∧ zbJ Tryz.prog 175 = none ∧ zbS Tryz.prog 175 = none ∧ intOf? Tryz.prog 175 = none ∧ za8 Tryz.prog 175 = none ∧ zaY Tryz.prog 175 = some (4) ∧ mapOf? Tryz.prog 175 = none ∧ zaI Tryz.prog 175 = some ([(0,1),(1,1),(2,2)]) ∧ za0 Tryz.prog 175 = some ([(.int .i64 0),(.int .i64 0),(.int .i64 0),(.int .i64 0)]) ∧ zbO Tryz.prog 175 = some ((.agg [(.int .i64 0),(.int .i64 0),(.int .i64 0),(.int .i64 0)])) ∧ zbR Tryz.prog 175 = none:=by and_intros <;> kernel_rfl
theorem ly178:zcF Tryz.prog 178 = some (1) ∧ zby Tryz.prog 178 = some (false) ∧ bytesOf? Tryz.prog 178 = some (8) ∧ zba Tryz.prog 178 = false ∧ zcr Tryz.prog 178 = none ∧ zbJ Tryz.prog 178 = none ∧ zbS Tryz.prog 178 = none ∧ intOf? Tryz.prog 178 = none ∧ za8 Tryz.prog 178 = none ∧ zaY Tryz.prog 178 = none ∧ mapOf? Tryz.prog 178 = none ∧ zaI Tryz.prog 178 = none ∧ za0 Tryz.prog 178 = some ([.nilp]) ∧ zbO Tryz.prog 178 = some (.nilp) ∧ zbR Tryz.prog 178 = none:=by and_intros <;> kernel_rfl
theorem ly181:zcF Tryz.prog 181 = some (1) ∧ zby Tryz.prog 181 = some (false) ∧ bytesOf? Tryz.prog 181 = some (8) ∧ zba Tryz.prog 181 = false ∧ zcr Tryz.prog 181 = none ∧ zbJ Tryz.prog 181 = none ∧ zbS Tryz.prog 181 = none ∧ intOf? Tryz.prog 181 = none ∧ za8 Tryz.prog 181 = none ∧ zaY Tryz.prog 181 = none ∧ mapOf? Tryz.prog 181 = none ∧ zaI Tryz.prog 181 = none ∧ za0 Tryz.prog 181 = some ([.nilf]) ∧ zbO Tryz.prog 181 = some (.nilf) ∧ zbR Tryz.prog 181 = none:=by and_intros <;> kernel_rfl
theorem ly184:zcF Tryz.prog 184 = some (1) ∧ zby Tryz.prog 184 = some (true) ∧ bytesOf? Tryz.prog 184 = some (8) ∧ zba Tryz.prog 184 = false ∧ zcr Tryz.prog 184 = none ∧ zbJ Tryz.prog 184 = none ∧ zbS Tryz.prog 184 = none ∧ intOf? Tryz.prog 184 = none ∧ za8 Tryz.prog 184 = none ∧ zaY Tryz.prog 184 = none ∧ mapOf? Tryz.prog 184 = none ∧ zaI Tryz.prog 184 = some ([(0,1)]) ∧ za0 Tryz.prog 184 = some ([.nilf]) ∧ zbO Tryz.prog 184 = some ((.agg [.nilf])) ∧ zbR Tryz.prog 184 = none:=by and_intros <;> kernel_rfl
theorem ly188:zcF Tryz.prog 188 = some (10) ∧ zby Tryz.prog 188 = some (true) ∧ bytesOf? Tryz.prog 188 = some (10) ∧ zba Tryz.prog 188 = false ∧ zcr Tryz.prog 188 = none ∧ zbJ Tryz.prog 188 = some ((10,1)) ∧ zbS Tryz.prog 188 = some (4) ∧ intOf? Tryz.prog 188 = none ∧ za8 Tryz.prog 188 = none ∧ zaY Tryz.prog 188 = none ∧ mapOf? Tryz.prog 188 = none ∧ zaI Tryz.prog 188 = none ∧ za0 Tryz.prog 188 = some ([(.bool false),(.bool false),(.bool false),(.bool false),(.bool false),(.bool false),(.bool false),(.bool false),(.bool false),(.bool false)]) ∧ zbO Tryz.prog 188 = some ((.agg [(.bool false),(.bool false),(.bool false),(.bool false),(.bool false),(.bool false),(.bool false),(.bool false),(.bool false),(.bool false)])) ∧ zbR Tryz.prog 188 = some (10):=by and_intros <;> kernel_rfl
theorem ly192:zcF Tryz.prog 192 = some (2) ∧ zby Tryz.prog 192 = some (true) ∧ bytesOf? Tryz.prog 192 = some (16) ∧ zba Tryz.prog 192 = false ∧ zcr Tryz.prog 192 = none ∧ zbJ Tryz.prog 192 = none ∧ zbS Tryz.prog 192 = none ∧ intOf? Tryz.prog 192 = none ∧ zaY Tryz.prog 192 = some (2) ∧ mapOf? Tryz.prog 192 = none ∧ zaI Tryz.prog 192 = some ([(0,1),(1,1)]) ∧ za0 Tryz.prog 192 = some ([(.int .i64 0),(.int .i64 0)]) ∧ zbO Tryz.prog 192 = some ((.agg [(.int .i64 0),(.int .i64 0)])) ∧ zbR Tryz.prog 192 = none:=by and_intros <;> kernel_rfl
theorem ly196:zcF Tryz.prog 196 = some (1) ∧ zby Tryz.prog 196 = some (false) ∧ bytesOf? Tryz.prog 196 = some (8) ∧ zba Tryz.prog 196 = false ∧ zcr Tryz.prog 196 = none ∧ zbJ Tryz.prog 196 = none ∧ zbS Tryz.prog 196 = none ∧ intOf? Tryz.prog 196 = none ∧ za8 Tryz.prog 196 = none ∧ zaY Tryz.prog 196 = none ∧ mapOf? Tryz.prog 196 = none ∧ zaI Tryz.prog 196 = none ∧ za0 Tryz.prog 196 = some ([.nilf]) ∧ zbO Tryz.prog 196 = some (.nilf) ∧ zbR Tryz.prog 196 = none:=by and_intros <;> kernel_rfl
theorem ly200:zcF Tryz.prog 200 = some (1) ∧ zby Tryz.prog 200 = some (false) ∧ bytesOf? Tryz.prog 200 = some (8) ∧ zba Tryz.prog 200 = false ∧ zcr Tryz.prog 200 = none ∧ zbJ Tryz.prog 200 = none ∧ zbS Tryz.prog 200 = none ∧ intOf? Tryz.prog 200 = none ∧ za8 Tryz.prog 200 = none ∧ zaY Tryz.prog 200 = none ∧ mapOf? Tryz.prog 200 = some ((192,4)) ∧ zaI Tryz.prog 200 = none ∧ za0 Tryz.prog 200 = some ([.undef]) ∧ zbO Tryz.prog 200 = some (.undef) ∧ zbR Tryz.prog 200 = none:=by and_intros <;> kernel_rfl
theorem ly205:zcF Tryz.prog 205 = some (1) ∧ zby Tryz.prog 205 = some (false) ∧ bytesOf? Tryz.prog 205 = some (8) ∧ zba Tryz.prog 205 = false ∧ zcr Tryz.prog 205 = none ∧ zbJ Tryz.prog 205 = none ∧ zbS Tryz.prog 205 = none ∧ intOf? Tryz.prog 205 = none ∧ za8 Tryz.prog 205 = none ∧ zaY Tryz.prog 205 = none ∧ mapOf? Tryz.prog 205 = none ∧ zaI Tryz.prog 205 = none ∧ za0 Tryz.prog 205 = some ([.nilf]) ∧ zbO Tryz.prog 205 = some (.nilf) ∧ zbR Tryz.prog 205 = none:=by and_intros <;> kernel_rfl
theorem ly207:zcF Tryz.prog 207 = some (1) ∧ zby Tryz.prog 207 = some (false) ∧ bytesOf? Tryz.prog 207 = some (8) ∧ zba Tryz.prog 207 = false ∧ zcr Tryz.prog 207 = none ∧ zbJ Tryz.prog 207 = none ∧ zbS Tryz.prog 207 = none ∧ intOf? Tryz.prog 207 = none ∧ za8 Tryz.prog 207 = none ∧ zaY Tryz.prog 207 = none ∧ mapOf? Tryz.prog 207 = none ∧ zaI Tryz.prog 207 = none ∧ za0 Tryz.prog 207 = some ([.nilf]) ∧ zbO Tryz.prog 207 = some (.nilf) ∧ zbR Tryz.prog 207 = none:=by and_intros <;> kernel_rfl
theorem ly215:zcF Tryz.prog 215 = some (1) ∧ zby Tryz.prog 215 = some (false) ∧ bytesOf? Tryz.prog 215 = some (8) ∧ zba Tryz.prog 215 = false ∧ zcr Tryz.prog 215 = none ∧ zbJ Tryz.prog 215 = none ∧ zbS Tryz.prog 215 = none ∧ intOf? Tryz.prog 215 = none ∧ za8 Tryz.prog 215 = none ∧ zaY Tryz.prog 215 = none ∧ mapOf? Tryz.prog 215 = some ((220,4)) ∧ zaI Tryz.prog 215 = none ∧ za0 Tryz.prog 215 = some ([.undef]) ∧ zbO Tryz.prog 215 = some (.undef) ∧ zbR Tryz.prog 215 = none:=by and_intros <;> kernel_rfl
theorem ly216:zcF Tryz.prog 216 = some (1) ∧ zby Tryz.prog 216 = some (false) ∧ bytesOf? Tryz.prog 216 = some (24) ∧ zba Tryz.prog 216 = false ∧ zcr Tryz.prog 216 = some ((169,10)) ∧ zbJ Tryz.prog 216 = none ∧ zbS Tryz.prog 216 = none ∧ intOf? Tryz.prog 216 = none ∧ za8 Tryz.prog 216 = none ∧ zaY Tryz.prog 216 = none ∧ mapOf? Tryz.prog 216 = none ∧ zaI Tryz.prog 216 = none ∧ za0 Tryz.prog 216 = some ([(.sl [] .full)]) ∧ zbO Tryz.prog 216 = some ((.sl [] .full)) ∧ zbR Tryz.prog 216 = none:=by and_intros <;> kernel_rfl
theorem ly218:zcF Tryz.prog 218 = some (7) ∧ zby Tryz.prog 218 = some (true) ∧ bytesOf? Tryz.prog 218 = some (120) ∧ zba Tryz.prog 218 = false ∧ zcr Tryz.prog 218 = none ∧ zbJ Tryz.prog 218 = none ∧ zbS Tryz.prog 218 = none ∧ intOf? Tryz.prog 218 = none ∧ za8 Tryz.prog 218 = none ∧ zaY Tryz.prog 218 = none ∧ mapOf? Tryz.prog 218 = none ∧ zaI Tryz.prog 218 = some ([(0,5),(5,1),(6,1)]) ∧ za0 Tryz.prog 218 = some ([(.int .i64 0),(.sl [] .full),(.int .i64 0),(.sl [] .full),(.sl [] .full),(.sl [] .full),.undef]) ∧ zbO Tryz.prog 218 = some ((.agg [(.int .i64 0),(.sl [] .full),(.int .i64 0),(.sl [] .full),(.sl [] .full),(.sl [] .full),.undef])) ∧ zbR Tryz.prog 218 = none:=by and_intros <;> kernel_rfl
theorem ly220:zcF Tryz.prog 220 = some (2) ∧ zby Tryz.prog 220 = some (true) ∧ bytesOf? Tryz.prog 220 = some (16) ∧ zba Tryz.prog 220 = false ∧ zcr Tryz.prog 220 = none ∧ zbJ Tryz.prog 220 = none ∧ zbS Tryz.prog 220 = none ∧ intOf? Tryz.prog 220 = none ∧ zaY Tryz.prog 220 = some (2) ∧ mapOf? Tryz.prog 220 = none ∧ zaI Tryz.prog 220 = some ([(0,1),(1,1)]) ∧ za0 Tryz.prog 220 = some ([(.int .i64 0),(.int .i64 0)]) ∧ zbO Tryz.prog 220 = some ((.agg [(.int .i64 0),(.int .i64 0)])) ∧ zbR Tryz.prog 220 = none:=by and_intros <;> kernel_rfl
theorem ly229:zcF Tryz.prog 229 = some (1) ∧ zby Tryz.prog 229 = some (false) ∧ bytesOf? Tryz.prog 229 = some (8) ∧ zba Tryz.prog 229 = false ∧ zcr Tryz.prog 229 = none ∧ zbJ Tryz.prog 229 = none ∧ zbS Tryz.prog 229 = none ∧ intOf? Tryz.prog 229 = none ∧ za8 Tryz.prog 229 = none ∧ zaY Tryz.prog 229 = none ∧ mapOf? Tryz.prog 229 = none ∧ zaI Tryz.prog 229 = none ∧ za0 Tryz.prog 229 = some ([.nilf]) ∧ zbO Tryz.prog 229 = some (.nilf) ∧ zbR Tryz.prog 229 = none:=by and_intros <;> kernel_rfl
attribute [go_sem] ly0 ly1 ly2 ly3 ly4 ly5 ly22 ly23 ly24 ly26 ly27 ly28 ly30 ly32 ly33 ly34 ly37 ly38 ly40 ly41 ly42 ly44 ly53 ly55 ly61 ly64 ly68 ly88 ly91 ly93 ly95 ly96 ly97 ly108 ly113 ly117 ly128 ly130 ly137 ly138 ly145 ly148 ly149 ly151 ly158 ly160 ly162 ly164 ly169 ly175 ly178 ly181 ly184 ly188 ly192 ly196 ly200 ly205 ly207 ly215 ly216 ly218 ly220 ly229
theorem fl_26_0:zbZ Tryz.prog 26 0 = some ((0,3)):=by kernel_rfl
theorem of_26_0:zbX Tryz.prog 26 0 = some (0):=by kernel_rfl
theorem fl_26_1:zbZ Tryz.prog 26 1 = some ((1,22)):=by kernel_rfl
theorem of_26_1:zbX Tryz.prog 26 1 = some (1):=by kernel_rfl
theorem fl_26_2:zbZ Tryz.prog 26 2 = some ((2,3)):=by kernel_rfl
theorem of_26_2:zbX Tryz.prog 26 2 = some (2):=by kernel_rfl
theorem fl_26_3:zbZ Tryz.prog 26 3 = some ((3,23)):=by kernel_rfl
theorem of_26_3:zbX Tryz.prog 26 3 = some (3):=by kernel_rfl
theorem fl_26_4:zbZ Tryz.prog 26 4 = some ((4,24)):=by kernel_rfl
theorem of_26_4:zbX Tryz.prog 26 4 = some (4):=by kernel_rfl
theorem fl_30_0:zbZ Tryz.prog 30 0 = some ((0,26)):=by kernel_rfl
theorem of_30_0:zbX Tryz.prog 30 0 = some (0):=by kernel_rfl
theorem fl_30_1:zbZ Tryz.prog 30 1 = some ((5,3)):=by kernel_rfl
theorem of_30_1:zbX Tryz.prog 30 1 = some (5):=by kernel_rfl
theorem fl_30_2:zbZ Tryz.prog 30 2 = some ((6,27)):=by kernel_rfl
theorem of_30_2:zbX Tryz.prog 30 2 = some (6):=by kernel_rfl
theorem fl_30_3:zbZ Tryz.prog 30 3 = some ((7,23)):=by kernel_rfl
theorem of_30_3:zbX Tryz.prog 30 3 = some (7):=by kernel_rfl
theorem fl_30_4:zbZ Tryz.prog 30 4 = some ((8,28)):=by kernel_rfl
theorem of_30_4:zbX Tryz.prog 30 4 = some (8):=by kernel_rfl
theorem fl_40_0:zbZ Tryz.prog 40 0 = some ((0,3)):=by kernel_rfl
theorem of_40_0:zbX Tryz.prog 40 0 = some (0):=by kernel_rfl
theorem fl_40_1:zbZ Tryz.prog 40 1 = some ((1,37)):=by kernel_rfl
theorem of_40_1:zbX Tryz.prog 40 1 = some (1):=by kernel_rfl
theorem fl_40_2:zbZ Tryz.prog 40 2 = some ((2,3)):=by kernel_rfl
theorem of_40_2:zbX Tryz.prog 40 2 = some (2):=by kernel_rfl
theorem fl_40_3:zbZ Tryz.prog 40 3 = some ((3,23)):=by kernel_rfl
theorem of_40_3:zbX Tryz.prog 40 3 = some (3):=by kernel_rfl
theorem fl_40_4:zbZ Tryz.prog 40 4 = some ((4,38)):=by kernel_rfl
theorem of_40_4:zbX Tryz.prog 40 4 = some (4):=by kernel_rfl
theorem fl_44_0:zbZ Tryz.prog 44 0 = some ((0,40)):=by kernel_rfl
theorem of_44_0:zbX Tryz.prog 44 0 = some (0):=by kernel_rfl
theorem fl_44_1:zbZ Tryz.prog 44 1 = some ((5,3)):=by kernel_rfl
theorem of_44_1:zbX Tryz.prog 44 1 = some (5):=by kernel_rfl
theorem fl_44_2:zbZ Tryz.prog 44 2 = some ((6,41)):=by kernel_rfl
theorem of_44_2:zbX Tryz.prog 44 2 = some (6):=by kernel_rfl
theorem fl_44_3:zbZ Tryz.prog 44 3 = some ((7,23)):=by kernel_rfl
theorem of_44_3:zbX Tryz.prog 44 3 = some (7):=by kernel_rfl
theorem fl_44_4:zbZ Tryz.prog 44 4 = some ((8,42)):=by kernel_rfl
theorem of_44_4:zbX Tryz.prog 44 4 = some (8):=by kernel_rfl
theorem fl_53_0:zbZ Tryz.prog 53 0 = some ((0,3)):=by kernel_rfl
theorem of_53_0:zbX Tryz.prog 53 0 = some (0):=by kernel_rfl
theorem fl_53_1:zbZ Tryz.prog 53 1 = some ((1,3)):=by kernel_rfl
theorem of_53_1:zbX Tryz.prog 53 1 = some (1):=by kernel_rfl
theorem fl_53_2:zbZ Tryz.prog 53 2 = some ((2,23)):=by kernel_rfl
theorem of_53_2:zbX Tryz.prog 53 2 = some (2):=by kernel_rfl
theorem fl_55_0:zbZ Tryz.prog 55 0 = some ((0,3)):=by kernel_rfl
theorem of_55_0:zbX Tryz.prog 55 0 = some (0):=by kernel_rfl
theorem fl_55_1:zbZ Tryz.prog 55 1 = some ((1,3)):=by kernel_rfl
theorem of_55_1:zbX Tryz.prog 55 1 = some (1):=by kernel_rfl
theorem fl_55_2:zbZ Tryz.prog 55 2 = some ((2,23)):=by kernel_rfl
theorem of_55_2:zbX Tryz.prog 55 2 = some (2):=by kernel_rfl
theorem fl_61_0:zbZ Tryz.prog 61 0 = some ((0,3)):=by kernel_rfl
theorem of_61_0:zbX Tryz.prog 61 0 = some (0):=by kernel_rfl
theorem fl_61_1:zbZ Tryz.prog 61 1 = some ((1,3)):=by kernel_rfl
theorem of_61_1:zbX Tryz.prog 61 1 = some (1):=by kernel_rfl
theorem fl_68_0:zbZ Tryz.prog 68 0 = some ((0,3)):=by kernel_rfl
theorem of_68_0:zbX Tryz.prog 68 0 = some (0):=by kernel_rfl
theorem fl_68_1:zbZ Tryz.prog 68 1 = some ((1,3)):=by kernel_rfl
theorem of_68_1:zbX Tryz.prog 68 1 = some (1):=by kernel_rfl
theorem fl_88_0:zbZ Tryz.prog 88 0 = some ((0,3)):=by kernel_rfl
theorem of_88_0:zbX Tryz.prog 88 0 = some (0):=by kernel_rfl
theorem fl_88_1:zbZ Tryz.prog 88 1 = some ((1,3)):=by kernel_rfl
theorem of_88_1:zbX Tryz.prog 88 1 = some (1):=by kernel_rfl
theorem fl_91_0:zbZ Tryz.prog 91 0 = some ((0,3)):=by kernel_rfl
theorem of_91_0:zbX Tryz.prog 91 0 = some (0):=by kernel_rfl
theorem fl_91_1:zbZ Tryz.prog 91 1 = some ((1,3)):=by kernel_rfl
theorem of_91_1:zbX Tryz.prog 91 1 = some (1):=by kernel_rfl
theorem fl_91_2:zbZ Tryz.prog 91 2 = some ((2,88)):=by kernel_rfl
theorem of_91_2:zbX Tryz.prog 91 2 = some (2):=by kernel_rfl
theorem fl_93_0:zbZ Tryz.prog 93 0 = some ((0,3)):=by kernel_rfl
theorem of_93_0:zbX Tryz.prog 93 0 = some (0):=by kernel_rfl
theorem fl_93_1:zbZ Tryz.prog 93 1 = some ((1,3)):=by kernel_rfl
theorem of_93_1:zbX Tryz.prog 93 1 = some (1):=by kernel_rfl
theorem fl_93_2:zbZ Tryz.prog 93 2 = some ((2,3)):=by kernel_rfl
theorem of_93_2:zbX Tryz.prog 93 2 = some (2):=by kernel_rfl
theorem fl_95_0:zbZ Tryz.prog 95 0 = some ((0,3)):=by kernel_rfl
theorem of_95_0:zbX Tryz.prog 95 0 = some (0):=by kernel_rfl
theorem fl_95_1:zbZ Tryz.prog 95 1 = some ((1,3)):=by kernel_rfl
theorem of_95_1:zbX Tryz.prog 95 1 = some (1):=by kernel_rfl
theorem fl_108_0:zbZ Tryz.prog 108 0 = some ((0,3)):=by kernel_rfl
theorem of_108_0:zbX Tryz.prog 108 0 = some (0):=by kernel_rfl
theorem fl_108_1:zbZ Tryz.prog 108 1 = some ((1,3)):=by kernel_rfl
theorem of_108_1:zbX Tryz.prog 108 1 = some (1):=by kernel_rfl
theorem fl_108_2:zbZ Tryz.prog 108 2 = some ((2,3)):=by kernel_rfl
theorem of_108_2:zbX Tryz.prog 108 2 = some (2):=by kernel_rfl
theorem fl_113_0:zbZ Tryz.prog 113 0 = some ((0,3)):=by kernel_rfl
theorem of_113_0:zbX Tryz.prog 113 0 = some (0):=by kernel_rfl
theorem fl_113_1:zbZ Tryz.prog 113 1 = some ((1,3)):=by kernel_rfl
theorem of_113_1:zbX Tryz.prog 113 1 = some (1):=by kernel_rfl
theorem fl_130_0:zbZ Tryz.prog 130 0 = some ((0,23)):=by kernel_rfl
theorem of_130_0:zbX Tryz.prog 130 0 = some (0):=by kernel_rfl
theorem fl_130_1:zbZ Tryz.prog 130 1 = some ((1,128)):=by kernel_rfl
theorem of_130_1:zbX Tryz.prog 130 1 = some (1):=by kernel_rfl
theorem fl_151_0:zbZ Tryz.prog 151 0 = some ((0,149)):=by kernel_rfl
theorem of_151_0:zbX Tryz.prog 151 0 = some (0):=by kernel_rfl
theorem fl_162_0:zbZ Tryz.prog 162 0 = some ((0,44)):=by kernel_rfl
theorem of_162_0:zbX Tryz.prog 162 0 = some (0):=by kernel_rfl
theorem fl_162_1:zbZ Tryz.prog 162 1 = some ((9,160)):=by kernel_rfl
theorem of_162_1:zbX Tryz.prog 162 1 = some (9):=by kernel_rfl
theorem fl_175_0:zbZ Tryz.prog 175 0 = some ((0,3)):=by kernel_rfl
theorem of_175_0:zbX Tryz.prog 175 0 = some (0):=by kernel_rfl
theorem fl_175_1:zbZ Tryz.prog 175 1 = some ((1,3)):=by kernel_rfl
theorem of_175_1:zbX Tryz.prog 175 1 = some (1):=by kernel_rfl
theorem fl_175_2:zbZ Tryz.prog 175 2 = some ((2,68)):=by kernel_rfl
theorem of_175_2:zbX Tryz.prog 175 2 = some (2):=by kernel_rfl
theorem fl_184_0:zbZ Tryz.prog 184 0 = some ((0,181)):=by kernel_rfl
theorem of_184_0:zbX Tryz.prog 184 0 = some (0):=by kernel_rfl
theorem ek_192:za8 Tryz.prog 192 = some (2):=by kernel_rfl
theorem fl_192_0:zbZ Tryz.prog 192 0 = some ((0,3)):=by kernel_rfl
theorem of_192_0:zbX Tryz.prog 192 0 = some (0):=by kernel_rfl
theorem fl_192_1:zbZ Tryz.prog 192 1 = some ((1,3)):=by kernel_rfl
theorem of_192_1:zbX Tryz.prog 192 1 = some (1):=by kernel_rfl
theorem fl_218_0:zbZ Tryz.prog 218 0 = some ((0,40)):=by kernel_rfl
theorem of_218_0:zbX Tryz.prog 218 0 = some (0):=by kernel_rfl
theorem fl_218_1:zbZ Tryz.prog 218 1 = some ((5,216)):=by kernel_rfl
theorem of_218_1:zbX Tryz.prog 218 1 = some (5):=by kernel_rfl
theorem fl_218_2:zbZ Tryz.prog 218 2 = some ((6,215)):=by kernel_rfl
theorem of_218_2:zbX Tryz.prog 218 2 = some (6):=by kernel_rfl
theorem ek_220:za8 Tryz.prog 220 = some (2):=by kernel_rfl
theorem fl_220_0:zbZ Tryz.prog 220 0 = some ((0,3)):=by kernel_rfl
theorem of_220_0:zbX Tryz.prog 220 0 = some (0):=by kernel_rfl
theorem fl_220_1:zbZ Tryz.prog 220 1 = some ((1,3)):=by kernel_rfl
theorem of_220_1:zbX Tryz.prog 220 1 = some (1):=by kernel_rfl
attribute [go_sem] fl_26_0 of_26_0 fl_26_1 of_26_1 fl_26_2 of_26_2 fl_26_3 of_26_3 fl_26_4 of_26_4 fl_30_0 of_30_0 fl_30_1 of_30_1 fl_30_2 of_30_2 fl_30_3 of_30_3 fl_30_4 of_30_4 fl_40_0 of_40_0 fl_40_1 of_40_1 fl_40_2 of_40_2 fl_40_3 of_40_3 fl_40_4 of_40_4 fl_44_0 of_44_0 fl_44_1 of_44_1 fl_44_2 of_44_2 fl_44_3 of_44_3 fl_44_4 of_44_4 fl_53_0 of_53_0 fl_53_1 of_53_1 fl_53_2 of_53_2 fl_55_0 of_55_0 fl_55_1 of_55_1 fl_55_2 of_55_2 fl_61_0 of_61_0 fl_61_1 of_61_1 fl_68_0 of_68_0 fl_68_1 of_68_1 fl_88_0 of_88_0 fl_88_1 of_88_1 fl_91_0 of_91_0 fl_91_1 of_91_1 fl_91_2 of_91_2 fl_93_0 of_93_0 fl_93_1 of_93_1 fl_93_2 of_93_2 fl_95_0 of_95_0 fl_95_1 of_95_1 fl_108_0 of_108_0 fl_108_1 of_108_1 fl_108_2 of_108_2 fl_113_0 of_113_0 fl_113_1 of_113_1 fl_130_0 of_130_0 fl_130_1 of_130_1 fl_151_0 of_151_0 fl_162_0 of_162_0 fl_162_1 of_162_1 fl_175_0 of_175_0 fl_175_1 of_175_1 fl_175_2 of_175_2 fl_184_0 of_184_0 ek_192 fl_192_0 of_192_0 fl_192_1 of_192_1 fl_218_0 of_218_0 fl_218_1 of_218_1 fl_218_2 of_218_2 ek_220 fl_220_0 of_220_0 fl_220_1 of_220_1
set_option maxHeartbeats 1000000
def P0:zaN:=zrP
theorem P0_app (g:FuncId):P0 g = none:=rfl
theorem P0_ok:zaD Tryz.prog P0:=zvW _
theorem P0_flag (d:Option Nat):zaK P0 d = none:=zl4 d
attribute [go_sem] P0_app P0_flag
def inB (n lo hi:Int):Bool:=decide (lo ≤ n) && decide (n ≤ hi)
theorem In_call (n lo hi:Int):zaU Tryz.prog 35 [Enc.enc n,Enc.enc lo,Enc.enc hi] (· = Enc.enc (inB n lo hi)):=by
 simp only [zcw]
 refine cpz P0_ok Tryz.func35 zaF ?_
 rw [Tryz.ntmps35]
 simp only [Tryz.f35,zah,zaq]
 simp (maxSteps:=4000000) only [go_sem,AV.one,zae,zac,zad,zap,zas,zab,czb,cza,↓reduceIte]
 grind [inB]
theorem Size_call (r:Rg) (h1:InR .i64 (r.hi - r.lo)) (h2:InR .i64 (r.hi - r.lo + 1)):zaU Tryz.prog 121 [Enc.enc r] (· = Enc.enc (r.hi - r.lo + 1)):=by
 simp only [zcw]
 refine cpz P0_ok Tryz.func121 zaF ?_
 rw [Tryz.ntmps121]
 simp only [Tryz.f121,zah,zaq]
 simp (maxSteps:=4000000) only [go_sem,AV.one,zae,zac,zad,zap,zas,zab,czb,cza,↓reduceIte]
 exact ⟨h1,h2⟩
def zbr (r:Rg):Bool:=decide (0 ≤ r.lo) && decide (r.lo ≤ r.hi) && decide (r.hi ≤ 99)
theorem zmd (r:Rg):zaU Tryz.prog 120 [Enc.enc r] (· = Enc.enc (zbr r)):=by
 simp only [zcw]
 refine cpz P0_ok Tryz.func120 zaF ?_
 rw [Tryz.ntmps120]
 simp only [Tryz.f120,zah,zaq]
 simp (maxSteps:=4000000) only [go_sem,AV.one,zae,zac,zad,zap,zas,zab,czb,cza,↓reduceIte]
 grind [zbr]
def P1 (g:FuncId):=(zax 35 (zeB (fun _ _ _ => True) inB) (zax 121 (zcU (fun r:Rg => InR .i64 (r.hi - r.lo) ∧ InR .i64 (r.hi - r.lo + 1)) (fun r => r.hi - r.lo + 1)) (zax 120 (zcU (fun _ => True) zbr) (P0))):zaN) g
theorem P1_ok:zaD Tryz.prog P1:=zaj (zcc fun a b c _ => In_call a b c) (zaj (zbm fun a h => Size_call a h.1 h.2) (zaj (zbm fun a _ => zmd a) (P0_ok)))
theorem P1_flag (d:Option Nat):zaK P1 d = none:=(zai (by decide) d).trans ((zai (by decide) d).trans ((zai (by decide) d).trans (P0_flag d)))
attribute [go_sem] P1 P1_flag
def zde (l:List Rg):Int:=l.foldl (fun n r => min 3000 (n * (r.hi - r.lo + 1))) 1
theorem zt7 (l:List Rg) (h:∀ r ∈ l,0 ≤ r.hi - r.lo ∧ r.hi - r.lo ≤ 99) (n:Int) (hn:0 ≤ n ∧ n ≤ 3000):0 ≤ l.foldl (fun n r => min 3000 (n * (r.hi - r.lo + 1))) n ∧ l.foldl (fun n r => min 3000 (n * (r.hi - r.lo + 1))) n ≤ 3000:=by
 induction l generalizing n with
 | nil => exact hn
 | cons r l ih =>
  have hr:=h r (by simp)
  have:0 ≤ n * (r.hi - r.lo + 1):=Int.mul_nonneg hn.1 (by omega)
  refine ih (fun r hr => h r (by simp [hr])) _ ?_
  dsimp only
  omega
theorem zv2 (l:List Rg) (i:Nat) (hi:i < l.length):zde (l.take (i + 1)) = min 3000 (zde (l.take i) * ((at_ l i).hi - (at_ l i).lo + 1)):=by
 unfold zde; rw [zaX hi,List.foldl_append]; rfl
theorem zbb {α:Type} [Inhabited α] {l:List α} {i:Nat} (h:i < l.length):at_ l i ∈ l:=by rw [zdy h]; exact List.getElem_mem h
theorem ztC {α:Type} {l:List α} {i:Nat} {P:α → Prop} (h:∀ x ∈ l,P x):∀ x ∈ l.take i,P x:=fun x hx => h x (List.mem_of_mem_take hx)
theorem Many_call (t:Tb) (h:t.heights.length ≤ 4096 ∧ ∀ r ∈ t.heights,0 ≤ r.hi - r.lo ∧ r.hi - r.lo ≤ 99):zaU Tryz.prog 67 [Enc.enc t] (· = Enc.enc (zde t.heights)):=by
 simp only [zcw]
 refine cpz P1_ok Tryz.func67 zaF ?_
 rw [Tryz.ntmps67]
 simp only [Tryz.f67,zah,zaq]
 simp (maxSteps:=4000000) only [go_sem,AV.one,zae,zac,zad,zap,zas,zab,czb,cza,↓reduceIte]
 refine zbA (t.heights.length) [] [1,2] (fun i => [(4,.int .i64 i),(3,.int .i64 (zde (t.heights.take i)))]) (fun _ m => m) (fun _ => True) ?_ ?_ ?_ ?_
 ·trivial
 ·simp [AV.bare,zal,zaP,zaS,zak,zau,zag,tokz1,lk,zab,zcW,zde]
 ·intro i hi _
  have hr:=h.2 _ (zbb hi)
  have hb:=zt7 _ (ztC (i:=i) h.2) 1 (by omega)
  have hm:0 ≤ zde (t.heights.take i) * ((at_ t.heights i).hi - (at_ t.heights i).lo + 1) ∧ zde (t.heights.take i) * ((at_ t.heights i).hi - (at_ t.heights i).lo + 1) ≤ 3000 * 100 :=
   ⟨Int.mul_nonneg hb.1 (by omega),Int.mul_le_mul hb.2 (by omega) (by omega) (by omega)⟩
  simp only [go_sem,AV.one,zae,zac,zad,zap,zas,zab,czb,cza,↓reduceIte,zat hi,czH.2 hi]
  refine ⟨by omega,⟨?_,?_⟩,?_,?_,nxt hi trivial ?_⟩
  ·simp only [InR]; omega
  ·simp only [InR]; omega
  ·simp only [InR]; omega
  ·simp only [InR]; omega
  ·simp [AV.bare,zal,zaP,zaS,zak,zau,zag,tokz1,lk,zab,zcW,zv2 _ _ hi]
 ·intro _
  simp only [go_sem,AV.one,zae,zac,zad,zap,zas,zab,czb,cza,↓reduceIte,czm]
set_option maxRecDepth 8000
structure HOk (t:Tb):Prop where
 len:t.heights.length ≤ 10
 h:∀ r ∈ t.heights,0 ≤ r.lo ∧ r.lo ≤ r.hi ∧ r.hi ≤ 99
 s0:0 ≤ t.step
 s1:t.step ≤ 99
structure MOk (t:Tb):Prop where
 len:t.marks.length ≤ 7
 m:∀ m ∈ t.marks,0 ≤ m.frm ∧ m.frm ≤ m.til ∧ m.til < t.heights.length
structure LOk (l:List Int):Prop where
 len:l.length ≤ 4096
 b:∀ x ∈ l,0 ≤ x ∧ x ≤ 99
def P2 (g:FuncId):=(zax 67 (zcU HOk (fun t => zde t.heights)) (P1):zaN) g
theorem P2_ok:zaD Tryz.prog P2:=zaj (zbm fun t h => Many_call t ⟨by have:=h.len; omega,fun r hr => by have:=h.h r hr; omega⟩) (P1_ok)
theorem P2_flag (d:Option Nat):zaK P2 d = none:=(zai (by decide) d).trans (P1_flag d)
attribute [go_sem] P2 P2_flag
def zq1:List Int → Int
 | [] => 0
 | x :: r => r.foldl max x
theorem zo2 (l:List Int) (x:Int) (h:l ≠ []):zq1 (l ++ [x]) = max (zq1 l) x:=by
 cases l with
 | nil => exact absurd rfl h
 | cons y r => simp [zq1,List.foldl_append]
def zmj (l:List Int) (a b:Int):Int:=zq1 ((l.drop a.toNat).take (b + 1 - a).toNat)
theorem zl5 {α:Type} [Inhabited α] {l:List α} {a i:Nat} (h:a + i < l.length):(l.drop a).take (i + 1) = (l.drop a).take i ++ [at_ l (a + i)]:=by
 have:i < (l.drop a).length:=by simp; omega
 rw [zaX this]
 simp [at_,List.getD]
theorem topL_call (l:List Int) (a b:Int) (h0:0 ≤ a) (h:a ≤ b) (hb:b < l.length) (hl:l.length ≤ 4096):zaU Tryz.prog 163 [Enc.enc l,Enc.enc a,Enc.enc b] (· = Enc.enc (zmj l a b)):=by
 obtain ⟨a,rfl⟩:=czu h0
 obtain ⟨b,rfl⟩:∃ k:Nat,b = a + k:=⟨(b - a).toNat,by omega⟩
 simp only [zcw]
 refine cpz P2_ok Tryz.func163 zaF ?_
 rw [Tryz.ntmps163]
 simp only [Tryz.f163,zah,zaq]
 simp (maxSteps:=4000000) only [go_sem,AV.one,zae,zac,zad,zap,zas,zab,czb,cza,↓reduceIte,zat (show a < l.length by omega)]
 refine ⟨by omega,?_⟩
 refine zbA (b + 1) [] [0,2,6] (fun i => [(8,.int .i64 ((a + i:Nat):Int)),(7,.int .i64 (if i = 0 then at_ l a else zq1 ((l.drop a).take i)))]) (fun _ m => m) (fun _ => True) ?_ ?_ ?_ ?_
 ·trivial
 ·simp [AV.bare,zal,zaP,zaS,zak,zau,zag,tokz1,lk,zab,zcW]
 ·intro i hi _
  have hi':((a + i:Nat):Int) ≤ (a:Int) + (b:Int):=by omega
  simp only [go_sem,AV.one,zae,zac,zad,zap,zas,zab,czb,cza,↓reduceIte,zat (show a + i < l.length by omega),hi']
  refine ⟨by omega,(by simp only [InR]; omega),nxt hi trivial ?_⟩
  have e:max (if i = 0 then at_ l a else zq1 ((l.drop a).take i)) (at_ l (a + i)) = zq1 ((l.drop a).take (i + 1)):=by
   rw [zl5 (by omega)]
   by_cases h0:i = 0
   ·subst h0; simp [zq1]
   ·rw [if_neg h0,zo2]
    intro q
    have:=congrArg List.length q
    simp at this
    omega
  simp [AV.bare,zal,zaP,zaS,zak,zau,zag,tokz1,lk,zab,zcW,e]
  omega
 ·intro _
  have hn:¬ (((a + (b + 1):Nat):Int) ≤ (a:Int) + (b:Int)):=by omega
  simp only [go_sem,AV.one,zae,zac,zad,zap,zas,zab,czb,cza,↓reduceIte,hn]
  simp only [zmj,czF]
  rw [show ((a:Int) + b + 1 - a).toNat = b + 1 by omega]
def P3 (g:FuncId):=(zax 163 (zeB (fun (l:List Int) (a b:Int) => 0 ≤ a ∧ a ≤ b ∧ b < l.length ∧ l.length ≤ 4096) zmj) (P2):zaN) g
theorem P3_ok:zaD Tryz.prog P3:=zaj (zcc fun l a b h => topL_call l a b h.1 h.2.1 h.2.2.1 h.2.2.2) (P2_ok)
theorem P3_flag (d:Option Nat):zaK P3 d = none:=(zai (by decide) d).trans (P2_flag d)
attribute [go_sem] P3 P3_flag
def zd8 (l:List Int) (m:Mk):Bool:=inB (zmj l m.frm m.til) m.top.lo m.top.hi
theorem zxf (l:List Int) (m:Mk) (h:(0 ≤ m.frm ∧ m.frm ≤ m.til ∧ m.til < l.length) ∧ l.length ≤ 4096):zaU Tryz.prog 135 [Enc.enc l,Enc.enc m] (· = Enc.enc (zd8 l m)):=by
 simp only [zcw]
 refine cpz P3_ok Tryz.func135 zaF ?_
 rw [Tryz.ntmps135]
 simp only [Tryz.f135,zah,zaq]
 simp (maxSteps:=4000000) only [go_sem,AV.one,zae,zac,zad,zap,zas,zab,czb,cza,↓reduceIte]
 exact ⟨rfl,⟨h.1.1,h.1.2.1,h.1.2.2,h.2⟩,rfl⟩
def zcu (s:Int):List Int → Bool
 | [] => true
 | [_] => true
 | x :: y :: r => (decide (y - x ≤ s) && decide (x - y ≤ s)) && zcu s (y :: r)
theorem zvZ (s:Int) (l:List Int) (y:Int) (h:l ≠ []):zcu s (l ++ [y]) = (zcu s l && (decide (y - l.getLast h ≤ s) && decide (l.getLast h - y ≤ s))):=by
 induction l with
 | nil => exact absurd rfl h
 | cons x l ih =>
  cases l with
  | nil => simp only [czs,List.nil_append,zcu,List.getLast_singleton,Bool.and_true,Bool.true_and]; rfl
  | cons z l =>
   have:=ih (by simp)
   simp only [czs] at this ⊢
   simp only [zcu,this,List.getLast_cons_cons,Bool.and_assoc]
   rfl
theorem zmF (s:Int) (l:List Int) (i:Nat) (h:i + 1 < l.length):zcu s (l.take (i + 1 + 1)) = (zcu s (l.take (i + 1)) && (decide (at_ l (i + 1) - at_ l i ≤ s) && decide (at_ l i - at_ l (i + 1) ≤ s))):=by
 have hn:l.take (i + 1) ≠ []:=by
  intro q
  have:=congrArg List.length q
  rw [czO,czy] at this
  omega
 rw [zaX h,zvZ _ _ _ hn]
 have:(l.take (i + 1)).getLast hn = at_ l i:=by
  rw [List.getLast_eq_getElem]
  simp [zdy (show i < l.length by omega),show min (i + 1) l.length - 1 = i by omega]
 rw [this]
theorem zja (s:Int) (l:List Int):∀ i,zcu s l = true → zcu s (l.take i) = true:=by
 induction l with
 | nil => intro i _; simp [zcu]
 | cons x l ih =>
  intro i h
  cases i with
  | zero => simp [zcu]
  | succ i =>
   cases l with
   | nil => simp [zcu]
   | cons y l =>
    simp only [zcu,czl] at h
    cases i with
    | zero => simp [zcu]
    | succ i =>
     have:=ih (i + 1) h.2
     simp only [List.take_succ_cons,zcu,czl] at this ⊢
     exact ⟨h.1,this⟩
theorem Near_call (t:Tb) (l:List Int) (h:(0 ≤ t.step ∧ t.step ≤ 99) ∧ l.length ≤ 4096 ∧ ∀ x ∈ l,0 ≤ x ∧ x ≤ 99):zaU Tryz.prog 87 [Enc.enc t,Enc.enc l] (· = Enc.enc (zcu t.step l)):=by
 simp only [zcw]
 refine cpz P3_ok Tryz.func87 zaF ?_
 rw [Tryz.ntmps87]
 simp only [Tryz.f87,zah,zaq]
 simp (maxSteps:=4000000) only [go_sem,AV.one,zae,zac,zad,zap,zas,zab,czb,cza,↓reduceIte]
 refine zbA (l.length - 1) [] [1,2,4] (fun i => [(5,.int .i64 ((i + 1:Nat):Int))]) (fun _ m => m) (fun i => zcu t.step (l.take (i + 1)) = true) ?_ ?_ ?_ ?_
 ·cases l with
  | nil => simp [zcu]
  | cons x l => simp [zcu]
 ·simp [AV.bare,zal,zaP,zaS,zak,zau,zag,tokz1,lk,zab,zcW]
 ·intro i hi hI
  have hi':((i + 1:Nat):Int) < (l.length:Int):=by omega
  have e1:((i + 1:Nat):Int) - 1 = (i:Int):=by omega
  have g1:=h.2.2 _ (zbb (show i < l.length by omega))
  have g2:=h.2.2 _ (zbb (show i + 1 < l.length by omega))
  have hs:=zmF t.step l i (by omega)
  cases c1:decide (t.step < at_ l (i + 1) - at_ l i) <;> cases c2:decide (t.step < at_ l i - at_ l (i + 1)) <;>
   simp only [go_sem,AV.one,zae,zac,zad,zap,zas,zab,czb,cza,↓reduceIte,zat (show i + 1 < l.length by omega),zat (show i < l.length by omega),hi',e1,c1,c2]
  all_goals (repeat' first | (with_reducible first | rfl | apply And.intro | assumption) | ((with_reducible show zaf _ _ = true); rfl)) <;> try first | omega | (simp only [InR]; omega)
  ·refine nxt hi ?_ ?_
   ·rw [hs,hI]
    simp only [decide_eq_false_iff_not] at c1 c2
    simp; omega
   ·simp [AV.bare,zal,zaP,zaS,zak,zau,zag,tokz1,lk,zab,zcW]
  all_goals
   congr 1
   by_cases q:zcu t.step l = true
   ·have:=zja t.step l (i + 1 + 1) q
    rw [hs] at this
    simp at this c1 c2
    omega
   ·simpa using q
 ·intro hI
  have hn:¬ ((l.length - 1 + 1:Nat):Int) < (l.length:Int):=by omega
  simp only [go_sem,AV.one,zae,zac,zad,zap,zas,zab,czb,cza,↓reduceIte,hn]
  rw [← hI,cze (by omega)]
def szR (r:Rg):Int:=r.hi - r.lo + 1
def zis:List Rg → Int → List Int
 | [],_ => []
 | r :: l,n => (r.lo + n % szR r) :: zis l (n / szR r)
def zxu (l:List Rg) (n:Int):Int:=l.foldl (fun n r => n / szR r) n
theorem nthL_snoc (l:List Rg) (r:Rg) (n:Int):zis (l ++ [r]) n = zis l n ++ [r.lo + zxu l n % szR r]:=by
 induction l generalizing n with
 | nil => rfl
 | cons x l ih => simp only [czs,zis,ih]; rfl
theorem remL_snoc (l:List Rg) (r:Rg) (n:Int):zxu (l ++ [r]) n = zxu l n / szR r:=by simp [zxu,List.foldl_append]
theorem zeg (l:List Rg) (n:Int):(zis l n).length = l.length:=by
 induction l generalizing n with
 | nil => rfl
 | cons r l ih => simp [zis,ih]
theorem remL_bd (l:List Rg) (n:Int) (h:∀ r ∈ l,0 ≤ r.hi - r.lo) (hn:0 ≤ n):0 ≤ zxu l n ∧ zxu l n ≤ n:=by
 induction l generalizing n with
 | nil => exact ⟨hn,Int.le_refl _⟩
 | cons r l ih =>
  have hr:=h r (by simp)
  have h1:0 ≤ n / szR r:=Int.ediv_nonneg hn (by unfold szR; omega)
  have h2:n / szR r ≤ n:=Int.ediv_le_self _ hn
  have:=ih (n / szR r) (fun r hr => h r (by simp [hr])) h1
  show 0 ≤ zxu l (n / szR r) ∧ zxu l (n / szR r) ≤ n
  omega
theorem Nth_call (t:Tb) (n:Int) (h:(t.heights.length ≤ 4096 ∧ ∀ r ∈ t.heights,(0 ≤ r.hi - r.lo ∧ r.hi - r.lo ≤ 99) ∧ 0 ≤ r.lo ∧ r.lo ≤ 99) ∧ 0 ≤ n ∧ n ≤ 3000):zaU Tryz.prog 113 [Enc.enc t,Enc.enc n] (· = Enc.enc (zis t.heights n)):=by
 simp only [zcw]
 refine cpz P3_ok Tryz.func113 zaF ?_
 rw [Tryz.ntmps113]
 simp only [Tryz.f113,zah,zaq]
 simp (maxSteps:=4000000) only [go_sem,AV.one,zae,zac,zad,zap,zas,zab,czb,cza,↓reduceIte]
 refine zbA (t.heights.length) [.slot 5 1] [2,4] (fun i => [(6,.int .i64 i),(5,.sl ((zis (t.heights.take i) n).map EncE.cs) (.own 1)),(1,.int .i64 (zxu (t.heights.take i) n))]) (fun i m => m.set 1 (.tok i 1)) (fun _ => True) ?_ ?_ ?_ ?_
 ·trivial
 ·simp [AV.bare,zal,zaP,zaS,zak,zau,zag,tokz1,lk,zab,zcW,zis,zxu]
 ·intro i hi _
  have hi':=czH.2 hi
  have hr:=h.1.2 _ (zbb hi)
  have hb:=remL_bd _ n (ztC (i:=i) fun r hr => (h.1.2 r hr).1.1) h.2.1
  have hm:=Int.emod_lt_of_pos (zxu (t.heights.take i) n) (show 0 < (at_ t.heights i).hi - (at_ t.heights i).lo + 1 by omega)
  have hm':=Int.emod_nonneg (zxu (t.heights.take i) n) (show (at_ t.heights i).hi - (at_ t.heights i).lo + 1 ≠ 0 by omega)
  have hl:(zis (t.heights.take i) n).length = i:=by rw [zeg]; simp; omega
  simp only [go_sem,AV.one,zae,zac,zad,zap,zas,zab,czb,cza,↓reduceIte,zat hi,hi',hl]
  all_goals (repeat' first | (with_reducible first | rfl | apply And.intro | assumption) | ((with_reducible show zaf _ _ = true); rfl)) <;> try first | omega | (simp only [InR]; omega)
  refine nxt hi trivial ?_
  simp [AV.bare,zal,zaP,zaS,zak,zau,zag,tokz1,lk,zab,zcW,zaX hi,nthL_snoc,remL_snoc,szR,zeI,hl]
 ·intro _
  simp only [go_sem,AV.one,zae,zac,zad,zap,zas,zab,czb,cza,↓reduceIte,czm]
def P4 (g:FuncId):=(zax 135 (zbL (fun (l:List Int) (m:Mk) => (0 ≤ m.frm ∧ m.frm ≤ m.til ∧ m.til < l.length) ∧ l.length ≤ 4096) zd8) (zax 87 (zbL (fun (t:Tb) (l:List Int) => (0 ≤ t.step ∧ t.step ≤ 99) ∧ LOk l) (fun t l => zcu t.step l)) (zax 113 (zbL (fun (t:Tb) (n:Int) => HOk t ∧ 0 ≤ n ∧ n ≤ 3000) (fun t n => zis t.heights n)) (P3))):zaN) g
theorem P4_ok:zaD Tryz.prog P4:=zaj (zaR zxf) (zaj (zaR fun t l h => Near_call t l ⟨h.1,h.2.len,h.2.b⟩) (zaj (zaR fun t n h => Nth_call t n ⟨⟨by have:=h.1.len; omega,fun r hr => by have:=h.1.h r hr; omega⟩,h.2⟩) (P3_ok)))
theorem P4_flag (d:Option Nat):zaK P4 d = none:=(zai (by decide) d).trans ((zai (by decide) d).trans ((zai (by decide) d).trans (P3_flag d)))
attribute [go_sem] P4 P4_flag
theorem zer {α:Type} [Inhabited α] {l:List α} {p:α → Bool} {i:Nat} (h:i < l.length):(l.take (i + 1)).all p = ((l.take i).all p && p (at_ l i)):=by
 rw [zaX h,List.all_append]; simp
theorem zgk {α:Type} [Inhabited α] {l:List α} {p:α → Bool} {i:Nat} (h:i < l.length) (hp:p (at_ l i) = false):l.all p = false:=by
 rw [List.all_eq_false]; exact ⟨_,zbb h,by simp [hp]⟩
theorem zsj {α:Type} [Inhabited α] {l:List α} {p:α → Bool} {i:Nat} (h:i < l.length):(l.take (i + 1)).filter p = (l.take i).filter p ++ (if p (at_ l i) then [at_ l i] else []):=by
 rw [zaX h,List.filter_append]
 cases c:p (at_ l i) <;> simp [List.filter,c]
theorem zrM (l:List Rg) (n:Int) (h:∀ r ∈ l,0 ≤ r.lo ∧ r.lo ≤ r.hi ∧ r.hi ≤ 99):∀ x ∈ zis l n,0 ≤ x ∧ x ≤ 99:=by
 induction l generalizing n with
 | nil => intro x hx; simp [zis] at hx
 | cons r l ih =>
  intro x hx
  have hr:=h r (by simp)
  have h1:=Int.emod_lt_of_pos n (show 0 < szR r by unfold szR; omega)
  have h2:=Int.emod_nonneg n (show szR r ≠ 0 by unfold szR; omega)
  simp only [zis,czn] at hx
  rcases hx with rfl | hx
  ·unfold szR at h1 h2 ⊢; omega
  ·exact ih _ (fun r hr => h r (by simp [hr])) x hx
theorem znI {t:Tb} (h:HOk t):0 ≤ zde t.heights ∧ zde t.heights ≤ 3000 :=
 zt7 _ (fun r hr => by have:=h.h r hr; omega) 1 (by omega)
def zfj (t:Tb) (n:Nat):List (List Int):=((List.range n).map fun i:Nat => zis t.heights i).filter (zcu t.step)
def zbH (t:Tb):List (List Int):=zfj t (zde t.heights).toNat
theorem zk9 (t:Tb) (n:Nat):zfj t (n + 1) = zfj t n ++ (if zcu t.step (zis t.heights n) then [zis t.heights n] else []):=by
 simp only [zfj,List.range_succ,List.map_append,List.filter_append,czb,List.map_nil]
 cases h:zcu t.step (zis t.heights n) <;> simp [List.filter,h]
theorem zmK (t:Tb) (n:Nat):(zfj t n).length ≤ n:=by
 have:=List.length_filter_le (zcu t.step) ((List.range n).map fun i:Nat => zis t.heights i)
 simpa [zfj] using this
theorem zhj {t:Tb} (h:HOk t):(zbH t).length ≤ 3000:=by
 have:=zmK t (zde t.heights).toNat
 have:=znI h
 unfold zbH; omega
theorem zpg {t:Tb} (h:HOk t):∀ l ∈ zbH t,l.length = t.heights.length ∧ LOk l:=fun l hl => by
 simp only [zbH,zfj,List.mem_filter,czx] at hl
 obtain ⟨⟨n,_,rfl⟩,_⟩:=hl
 have:=zeg t.heights n
 have:=h.len
 exact ⟨zeg _ _,by omega,zrM _ _ h.h⟩
theorem zxl (t:Tb) (h:HOk t):zaU Tryz.prog 57 [Enc.enc t] (· = Enc.enc (zbH t)):=by
 have hm:=znI h
 have hl:=h.len
 have hs:=h.s0
 have hs':=h.s1
 simp only [zcw]
 refine cpz P4_ok Tryz.func57 zaF ?_
 rw [Tryz.ntmps57]
 simp only [Tryz.f57,zah,zaq]
 simp (maxSteps:=4000000) only [go_sem,AV.one,zae,zac,zad,zap,zas,zab,czb,cza,↓reduceIte]
 refine zbA ((zde t.heights).toNat) [.slot 3 1] [1,2] (fun i => [(4,.int .i64 i),(3,.sl ((zfj t i).map EncE.cs) (.own 1))]) (fun i m => m.set 1 (.tok (zfj t i).length 1)) (fun _ => True) ?_ ?_ ?_ ?_
 ·trivial
 ·simp [AV.bare,zal,zaP,zaS,zak,zau,zag,tokz1,lk,zab,zcW,zfj]
 ·intro i hi _
  have hi':(i:Int) < zde t.heights:=by omega
  have hn:=zeg t.heights i
  have p3:LOk (zis t.heights (i:Int)):=⟨by omega,zrM _ _ h.h⟩
  have hll:=zmK t i
  cases c:zcu t.step (zis t.heights i) <;>
   simp (maxSteps:=4000000) only [go_sem,AV.one,zae,zac,zad,zap,zas,zab,czb,cza,↓reduceIte,hi',c]
  all_goals all_goals (repeat' first | (with_reducible first | rfl | apply And.intro | assumption) | ((with_reducible show zaf _ _ = true); rfl)) <;> try first | omega | (simp only [InR]; omega)
  all_goals
   refine nxt hi trivial ?_
   simp [AV.bare,zal,zaP,zaS,zak,zau,zag,tokz1,lk,zab,zcW,zk9,c]
 ·intro _
  have hi':¬ (((zde t.heights).toNat:Nat):Int) < zde t.heights:=by omega
  simp (maxSteps:=4000000) only [go_sem,AV.one,zae,zac,zad,zap,zas,zab,czb,cza,↓reduceIte,hi']
  all_goals (repeat' first | (with_reducible first | rfl | apply And.intro | assumption) | ((with_reducible show zaf _ _ = true); rfl)) <;> try first | omega | (simp only [InR]; omega)
  rfl
def P5 (g:FuncId):=(zax 57 (zcU HOk zbH) (P4):zaN) g
theorem P5_ok:zaD Tryz.prog P5:=zaj (zbm zxl) (P4_ok)
theorem P5_flag (d:Option Nat):zaK P5 d = none:=(zai (by decide) d).trans (P4_flag d)
attribute [go_sem] P5 P5_flag
theorem zey {α:Type} {l:List α} {p:α → Bool} (h:(l.take l.length).all p = true):l.all p = true:=by rwa [czm] at h
def zfc (last:Int) (m:Mk):Bool:=inB m.frm 0 last && inB m.til 0 last && decide (m.frm ≤ m.til) && zbr m.top
def zbl (t:Tb):Int :=
 if 9 < t.last ∨ 6 < t.levels.length ∨ 5 < t.marks.length then 3
 else if t.last < 0 ∨ (t.heights.length:Int) ≠ t.last + 1 ∨ inB t.step 0 99 = false then 1
 else if t.heights.all zbr = false then 1
 else if (t.levels.all fun n => inB n 0 99) = false then 1
 else if t.marks.all (zfc t.last) = false then 1
 else if 2000 < zde t.heights then 3
 else if zbH t = [] then 9 else 0
theorem zc3 (r:Rg):zbr r = true ↔ 0 ≤ r.lo ∧ r.lo ≤ r.hi ∧ r.hi ≤ 99:=by simp [zbr,and_assoc]
theorem zbn (n lo hi:Int):inB n lo hi = true ↔ lo ≤ n ∧ n ≤ hi:=by simp [inB]
set_option maxHeartbeats 4000000 in
theorem zxp (t:Tb) (h:t.heights.length ≤ 4096):zaU Tryz.prog 66 [Enc.enc t] (· = Enc.enc (zbl t)):=by
 unfold zbl
 simp only [zcw]
 refine cpz P5_ok Tryz.func66 zaF ?_
 rw [Tryz.ntmps66]
 simp only [Tryz.f66,zah,zaq]
 simp (maxSteps:=4000000) only [go_sem,AV.one,zae,zac,zad,zap,zas,zab,czb,cza,↓reduceIte]
 refine ⟨fun q => ?_,fun q => ⟨fun q2 => ?_,fun q2 => ?_,fun q2 => ?_⟩⟩
 ·rw [if_pos]
  simp at q
  rcases q with (q | q) | q
  ·exact .inl q
  ·exact .inr (.inl (by omega))
  ·exact .inr (.inr (by omega))
 ·simp at q q2
  refine ⟨by simpa using q2,(by simp only [InR]; omega)⟩
 all_goals
  have hno0:¬ (9 < t.last ∨ 6 < t.levels.length ∨ 5 < t.marks.length):=by simp at q; omega
  simp at q
  rw [if_neg hno0]
 ·simp at q2
  rw [if_pos (by rcases q2 with (q2 | q2) | q2 <;> simp [q2])]
 simp at q2
 obtain ⟨⟨c1,c2⟩,c3⟩:=q2
 have hst:=(zbn _ _ _).1 c3
 have hno:¬ (t.last < 0 ∨ (t.heights.length:Int) ≠ t.last + 1 ∨ inB t.step 0 99 = false):=by
  rintro (q2 | q2 | q2)
  ·omega
  ·exact q2 c2
  ·simp [c3] at q2
 rw [if_neg hno]
 have hh:∀ i,i < t.heights.length → (i:Int) + 1 ≤ 4096:=fun i hi => by omega
 refine zbA (t.heights.length) [] [1,2] (fun i => [(3,.int .i64 i)]) (fun _ m => m) (fun i => (t.heights.take i).all zbr = true) ?_ ?_ ?_ ?_
 ·simp
 ·simp [AV.bare,zal,zaP,zaS,zak,zau,zag,tokz1,lk,zab,zcW]
 ·intro i hi hI
  have hi':=czH.2 hi
  cases c:zbr (at_ t.heights i) <;>
   simp (maxSteps:=4000000) only [go_sem,AV.one,zae,zac,zad,zap,zas,zab,czb,cza,↓reduceIte,hi',zat hi,c]
  ·all_goals (repeat' first | (with_reducible first | rfl | apply And.intro | assumption) | ((with_reducible show zaf _ _ = true); rfl)) <;> try first | omega | (simp only [InR]; omega)
   rw [if_pos (zgk hi c)]
  ·all_goals (repeat' first | (with_reducible first | rfl | apply And.intro | assumption) | ((with_reducible show zaf _ _ = true); rfl)) <;> try first | omega | (simp only [InR]; omega)
   refine nxt hi (by rw [zer hi,hI,c]; rfl) ?_
   simp [AV.bare,zal,zaP,zaS,zak,zau,zag,tokz1,lk,zab,zcW]
 intro hI
 have hI:=zey hI
 rw [if_neg (by simp [hI])]
 simp (maxSteps:=4000000) only [go_sem,AV.one,zae,zac,zad,zap,zas,zab,czb,cza,↓reduceIte]
 refine zbA (t.levels.length) [] [1,2] (fun i => [(4,.int .i64 i)]) (fun _ m => m) (fun i => (t.levels.take i).all (fun n => inB n 0 99) = true) ?_ ?_ ?_ ?_
 ·simp
 ·simp [AV.bare,zal,zaP,zaS,zak,zau,zag,tokz1,lk,zab,zcW]
 ·intro i hi hI
  have hi':=czH.2 hi
  cases c:inB (at_ t.levels i) 0 99 <;>
   simp (maxSteps:=4000000) only [go_sem,AV.one,zae,zac,zad,zap,zas,zab,czb,cza,↓reduceIte,hi',zat hi,c]
  ·all_goals (repeat' first | (with_reducible first | rfl | apply And.intro | assumption) | ((with_reducible show zaf _ _ = true); rfl)) <;> try first | omega | (simp only [InR]; omega)
   rw [if_pos (zgk hi c)]
  ·all_goals (repeat' first | (with_reducible first | rfl | apply And.intro | assumption) | ((with_reducible show zaf _ _ = true); rfl)) <;> try first | omega | (simp only [InR]; omega)
   refine nxt hi (by rw [zer hi,hI,c]; rfl) ?_
   simp [AV.bare,zal,zaP,zaS,zak,zau,zag,tokz1,lk,zab,zcW]
 intro hI2
 have hI2:=zey hI2
 rw [if_neg (by simp [hI2])]
 simp (maxSteps:=4000000) only [go_sem,AV.one,zae,zac,zad,zap,zas,zab,czb,cza,↓reduceIte]
 refine zbA (t.marks.length) [] [1,2] (fun i => [(5,.int .i64 i)]) (fun _ m => m) (fun i => (t.marks.take i).all (zfc t.last) = true) ?_ ?_ ?_ ?_
 ·simp
 ·simp [AV.bare,zal,zaP,zaS,zak,zau,zag,tokz1,lk,zab,zcW]
 ·intro i hi hI
  have hi':=czH.2 hi
  have hm:zfc t.last (at_ t.marks i) = (inB (at_ t.marks i).frm 0 t.last && inB (at_ t.marks i).til 0 t.last && decide ((at_ t.marks i).frm ≤ (at_ t.marks i).til) && zbr (at_ t.marks i).top):=rfl
  simp (maxSteps:=4000000) only [go_sem,AV.one,zae,zac,zad,zap,zas,zab,czb,cza,↓reduceIte,hi',zat hi]
  refine ⟨by omega,fun q => ?_,fun q => ?_⟩
  ·rw [if_pos (zgk hi ?_)]
   rw [hm]
   simp at q
   rcases q with ((q | q) | q) | q <;> (try simp [q]) <;> (intros; omega)
  ·simp at q
   refine ⟨(by simp only [InR]; omega),nxt hi ?_ ?_⟩
   ·rw [zer hi,hI,hm]
    simp [q]
   ·simp [AV.bare,zal,zaP,zaS,zak,zau,zag,tokz1,lk,zab,zcW]
 intro hI3
 have hI3:=zey hI3
 rw [if_neg (by simp [hI3])]
 have hok:HOk t:=⟨by omega,fun r hr => (zc3 r).1 (czG.1 hI r hr),hst.1,hst.2⟩
 have hmy:=znI hok
 simp (maxSteps:=4000000) only [go_sem,AV.one,zae,zac,zad,zap,zas,zab,czb,cza,↓reduceIte]
 refine ⟨hok,fun q => ?_,fun q => ?_⟩
 ·simp at q
  rw [if_pos q]
 simp at q
 rw [if_neg (by omega)]
 refine zbA ((zde t.heights).toNat) [] [1,2] (fun i => [(7,.int .i64 i)]) (fun _ m => m) (fun i => zfj t i = []) ?_ ?_ ?_ ?_
 ·simp [zfj]
 ·simp [AV.bare,zal,zaP,zaS,zak,zau,zag,tokz1,lk,zab,zcW]
 ·intro i hi hI
  have hi':(i:Int) < zde t.heights:=by omega
  have hn:=zeg t.heights i
  have p3:LOk (zis t.heights (i:Int)):=⟨by omega,zrM _ _ hok.h⟩
  cases c:zcu t.step (zis t.heights i) <;>
   simp (maxSteps:=4000000) only [go_sem,AV.one,zae,zac,zad,zap,zas,zab,czb,cza,↓reduceIte,hi',c]
  ·all_goals (repeat' first | (with_reducible first | rfl | apply And.intro | assumption) | ((with_reducible show zaf _ _ = true); rfl)) <;> try first | omega | (simp only [InR]; omega)
   refine nxt hi (by rw [zk9,hI,c]; rfl) ?_
   simp [AV.bare,zal,zaP,zaS,zak,zau,zag,tokz1,lk,zab,zcW]
  ·all_goals (repeat' first | (with_reducible first | rfl | apply And.intro | assumption) | ((with_reducible show zaf _ _ = true); rfl)) <;> try first | omega | (simp only [InR]; omega)
   rw [if_neg]
   intro q
   have:zis t.heights (i:Int) ∈ zbH t:=by
    simp only [zbH,zfj,List.mem_filter,czx]
    exact ⟨⟨i,by simp; omega,rfl⟩,c⟩
   rw [q] at this
   cases this
 ·intro hI
  have hi':¬ (((zde t.heights).toNat:Nat):Int) < zde t.heights:=by omega
  simp (maxSteps:=4000000) only [go_sem,AV.one,zae,zac,zad,zap,zas,zab,czb,cza,↓reduceIte,hi']
  all_goals (repeat' first | (with_reducible first | rfl | apply And.intro | assumption) | ((with_reducible show zaf _ _ = true); rfl)) <;> try first | omega | (simp only [InR]; omega)
  rw [if_pos (show zbH t = [] from hI)]
def P6 (g:FuncId):=(zax 66 (zcU (fun t:Tb => t.heights.length ≤ 4096) zbl) (P5):zaN) g
theorem P6_ok:zaD Tryz.prog P6:=zaj (zbm zxp) (P5_ok)
theorem P6_flag (d:Option Nat):zaK P6 d = none:=(zai (by decide) d).trans (P5_flag d)
attribute [go_sem] P6 P6_flag
def zgs (l:List Int) (hs:List Rg):List Bool:=List.zipWith (fun x r => inB x r.lo r.hi) l hs
theorem zhF {l:List Int} {hs:List Rg} {i:Nat} (h1:i < l.length) (h2:i < hs.length):at_ (zgs l hs) i = inB (at_ l i) (at_ hs i).lo (at_ hs i).hi:=by
 simp [at_,zgs,List.getD,List.getElem?_zipWith,h1,h2]
theorem zfe (l:List Int) (hs:List Rg):(zgs l hs).length = min l.length hs.length:=by simp [zgs]
theorem ztv {t:Tb} {l:List Int} (h:HOk t) (hl:l.length = t.heights.length) (hz:(zgs l t.heights).all id = true):LOk l:=by
 refine ⟨by have:=h.len; omega,fun x hx => ?_⟩
 obtain ⟨i,hi,rfl⟩:=List.getElem_of_mem hx
 have h2:i < t.heights.length:=by omega
 have h3:i < (zgs l t.heights).length:=by rw [zfe]; omega
 have:=czG.1 hz _ (zbb h3)
 rw [zhF hi h2] at this
 have hr:=h.h _ (zbb h2)
 have:=(zbn _ _ _).1 this
 rw [zdy hi] at this
 omega
def za3 (t:Tb) (l:List Int):Bool:=(zgs l t.heights).all id && (decide ((l.length:Int) = t.heights.length) && zcu t.step l)
theorem zoe (t:Tb) (l:List Int) (h:HOk t ∧ l.length ≤ 4096):zaU Tryz.prog 29 [Enc.enc t,Enc.enc l] (· = Enc.enc (za3 t l)):=by
 have hs0:=h.1.s0
 have hs1:=h.1.s1
 have hl:=h.2
 have hh:=h.1.len
 simp only [zcw]
 refine cpz P6_ok Tryz.func29 zaF ?_
 rw [Tryz.ntmps29]
 simp only [Tryz.f29,zah,zaq]
 simp (maxSteps:=4000000) only [go_sem,AV.one,zae,zac,zad,zap,zas,zab,czb,cza,↓reduceIte]
 refine zbA ((zgs l t.heights).length) [] [1,2,4] (fun i => [(5,.int .i64 i)]) (fun _ m => m) (fun i => ((zgs l t.heights).take i).all id = true) ?_ ?_ ?_ ?_
 ·simp
 ·simp [AV.bare,zal,zaP,zaS,zak,zau,zag,tokz1,lk,zab,zcW]
 ·intro i hi hI
  have hz:=zfe l t.heights
  have h1:i < l.length:=by omega
  have h2:i < t.heights.length:=by omega
  have hz:=zhF h1 h2
  cases c:inB (at_ l i) (at_ t.heights i).lo (at_ t.heights i).hi <;>
   simp (maxSteps:=4000000) only [go_sem,AV.one,zae,zac,zad,zap,zas,zab,czb,cza,↓reduceIte,zat h1,zat h2,czH.2 h1,czH.2 h2,c]
  all_goals all_goals (repeat' first | (with_reducible first | rfl | apply And.intro | assumption) | ((with_reducible show zaf _ _ = true); rfl)) <;> try first | omega | (simp only [InR]; omega)
  ·rw [za3,zgk hi (by rw [hz,c]; rfl)]; rfl
  ·refine nxt hi ?_ ?_
   ·rw [zer hi,hI,hz,c]; rfl
   ·simp [AV.bare,zal,zaP,zaS,zak,zau,zag,tokz1,lk,zab,zcW]
 ·intro hI
  have hI:=zey hI
  have hz:=zfe l t.heights
  have hd:decide (((zgs l t.heights).length:Int) < (l.length:Int)) = true → decide (((zgs l t.heights).length:Int) < (t.heights.length:Int)) = false:=by
   simp; omega
  cases c1:decide (((zgs l t.heights).length:Int) < (l.length:Int))
  ·cases c2:decide ((l.length:Int) = t.heights.length)
   ·simp (maxSteps:=4000000) only [go_sem,AV.one,zae,zac,zad,zap,zas,zab,czb,cza,↓reduceIte,c1,c2]
    simp [za3,c2]
   ·have hlo:=ztv h.1 (by simp at c2; omega) hI
    simp (maxSteps:=4000000) only [go_sem,AV.one,zae,zac,zad,zap,zas,zab,czb,cza,↓reduceIte,c1,c2]
    all_goals (repeat' first | (with_reducible first | rfl | apply And.intro | assumption) | ((with_reducible show zaf _ _ = true); rfl)) <;> try first | omega | (simp only [InR]; omega)
    simp [za3,c2,hI]
  ·have c3:=hd c1
   cases c2:decide ((l.length:Int) = t.heights.length)
   ·simp (maxSteps:=4000000) only [go_sem,AV.one,zae,zac,zad,zap,zas,zab,czb,cza,↓reduceIte,c1,c2,c3]
    simp [za3,c2]
   ·have hlo:=ztv h.1 (by simp at c2; omega) hI
    simp (maxSteps:=4000000) only [go_sem,AV.one,zae,zac,zad,zap,zas,zab,czb,cza,↓reduceIte,c1,c2,c3]
    all_goals (repeat' first | (with_reducible first | rfl | apply And.intro | assumption) | ((with_reducible show zaf _ _ = true); rfl)) <;> try first | omega | (simp only [InR]; omega)
    simp [za3,c2,hI]
def P7 (g:FuncId):=(zax 29 (zbL (fun (t:Tb) (l:List Int) => HOk t ∧ l.length ≤ 4096) za3) (P6):zaN) g
theorem P7_ok:zaD Tryz.prog P7:=zaj (zaR zoe) (P6_ok)
theorem P7_flag (d:Option Nat):zaK P7 d = none:=(zai (by decide) d).trans (P6_flag d)
attribute [go_sem] P7 P7_flag
def zbE (t:Tb) (l:List Int):Bool:=za3 t l && t.marks.all (zd8 l)
theorem zbI {t:Tb} {l:List Int} (h:za3 t l = true):l.length = t.heights.length:=by
 simp only [za3,czl,decide_eq_true_eq] at h
 omega
theorem zqW (t:Tb) (l:List Int) (h:(HOk t ∧ l.length ≤ 4096) ∧ MOk t):zaU Tryz.prog 85 [Enc.enc t,Enc.enc l] (· = Enc.enc (zbE t l)):=by
 have h0:=h.1.1
 have h1:=h.1.2
 have hm:=h.2.len
 cases c0:za3 t l
 ·simp only [zcw]
  refine cpz P7_ok Tryz.func85 zaF ?_
  rw [Tryz.ntmps85]
  simp only [Tryz.f85,zah,zaq]
  simp (maxSteps:=4000000) only [go_sem,AV.one,zae,zac,zad,zap,zas,zab,czb,cza,↓reduceIte,c0]
  all_goals (repeat' first | (with_reducible first | rfl | apply And.intro | assumption) | ((with_reducible show zaf _ _ = true); rfl)) <;> try first | omega | (simp only [InR]; omega)
  simp [zbE,c0]
 have hll:=zbI c0
 simp only [zcw]
 refine cpz P7_ok Tryz.func85 zaF ?_
 rw [Tryz.ntmps85]
 simp only [Tryz.f85,zah,zaq]
 simp (maxSteps:=4000000) only [go_sem,AV.one,zae,zac,zad,zap,zas,zab,czb,cza,↓reduceIte,c0]
 refine ⟨⟨h0,h1⟩,?_⟩
 refine zbA (t.marks.length) [] [1,2,4] (fun i => [(5,.int .i64 i)]) (fun _ m => m) (fun i => (t.marks.take i).all (zd8 l) = true) ?_ ?_ ?_ ?_
 ·simp
 ·simp [AV.bare,zal,zaP,zaS,zak,zau,zag,tokz1,lk,zab,zcW]
 ·intro i hi hI
  have hr:=h.2.m _ (zbb hi)
  cases c:zd8 l (at_ t.marks i) <;>
   simp (maxSteps:=4000000) only [go_sem,AV.one,zae,zac,zad,zap,zas,zab,czb,cza,↓reduceIte,zat hi,czH.2 hi,c]
  all_goals all_goals (repeat' first | (with_reducible first | rfl | apply And.intro | assumption) | ((with_reducible show zaf _ _ = true); rfl)) <;> try first | omega | (simp only [InR]; omega)
  ·rw [zbE,zgk hi c,Bool.and_false]
  ·refine nxt hi ?_ ?_
   ·rw [zer hi,hI,c]; rfl
   ·simp [AV.bare,zal,zaP,zaS,zak,zau,zag,tokz1,lk,zab,zcW]
 ·intro hI
  have hI:=zey hI
  simp (maxSteps:=4000000) only [go_sem,AV.one,zae,zac,zad,zap,zas,zab,czb,cza,↓reduceIte]
  simp [zbE,c0,hI]
def P8 (g:FuncId):=(zax 85 (zbL (fun (t:Tb) (l:List Int) => (HOk t ∧ l.length ≤ 4096) ∧ MOk t) zbE) (P7):zaN) g
theorem P8_ok:zaD Tryz.prog P8:=zaj (zaR zqW) (P7_ok)
theorem P8_flag (d:Option Nat):zaK P8 d = none:=(zai (by decide) d).trans (P7_flag d)
attribute [go_sem] P8 P8_flag
def zaC (t:Tb):List (List Int):=(zbH t).filter (zbE t)
theorem zs9 (t:Tb) (h:HOk t ∧ MOk t):zaU Tryz.prog 69 [Enc.enc t] (· = Enc.enc (zaC t)):=by
 have h0:=h.1
 have h1:=h.2
 have hll:=zhj h.1
 simp only [zcw]
 refine cpz P8_ok Tryz.func69 zaF ?_
 rw [Tryz.ntmps69]
 simp only [Tryz.f69,zah,zaq]
 simp (maxSteps:=4000000) only [go_sem,AV.one,zae,zac,zad,zap,zas,zab,czb,cza,↓reduceIte]
 refine ⟨h0,?_⟩
 refine zbA ((zbH t).length) [.slot 3 1] [1,2,4] (fun i => [(5,.int .i64 i),(3,.sl ((((zbH t).take i).filter (zbE t)).map EncE.cs) (.own 1))]) (fun i m => m.set 1 (.tok (((zbH t).take i).filter (zbE t)).length 1)) (fun _ => True) ?_ ?_ ?_ ?_
 ·trivial
 ·simp [AV.bare,zal,zaP,zaS,zak,zau,zag,tokz1,lk,zab,zcW]
 ·intro i hi _
  have hat:=zpg h.1 _ (zbb hi)
  have hlen:=hat.2.len
  have hf:=List.length_filter_le (zbE t) ((zbH t).take i)
  have hf2:((zbH t).take i).length ≤ 3000:=by simp; omega
  cases c:zbE t (at_ (zbH t) i) <;>
   simp (maxSteps:=4000000) only [go_sem,AV.one,zae,zac,zad,zap,zas,zab,czb,cza,↓reduceIte,zat hi,czH.2 hi,c]
  all_goals all_goals (repeat' first | (with_reducible first | rfl | apply And.intro | assumption) | ((with_reducible show zaf _ _ = true); rfl)) <;> try first | omega | (simp only [InR]; omega)
  all_goals
   refine nxt hi trivial ?_
   simp [AV.bare,zal,zaP,zaS,zak,zau,zag,tokz1,lk,zab,zcW,zsj hi,c]
 ·intro _
  simp (maxSteps:=4000000) only [go_sem,AV.one,zae,zac,zad,zap,zas,zab,czb,cza,↓reduceIte,czm]
  all_goals (repeat' first | (with_reducible first | rfl | apply And.intro | assumption) | ((with_reducible show zaf _ _ = true); rfl)) <;> try first | omega | (simp only [InR]; omega)
  rfl
def zjr (l:List Int) (level:Int) (n:Nat):List Int:=((List.range n).filter fun i => decide (level < at_ l i)).map fun i:Nat => (i:Int)
def zd5 (l:List Int) (level:Int):List Int:=zjr l level l.length
theorem wetN_succ (l:List Int) (level:Int) (n:Nat):zjr l level (n + 1) = zjr l level n ++ (if level < at_ l n then [(n:Int)] else []):=by
 simp only [zjr,List.range_succ,List.filter_append,List.map_append]
 by_cases c:level < at_ l n <;> simp [List.filter,c]
theorem zh1 (l:List Int) (level:Int) (n:Nat):(zjr l level n).length ≤ n:=by
 have:=List.length_filter_le (fun i => decide (level < at_ l i)) (List.range n)
 simpa [zjr] using this
end Go.Proofs
