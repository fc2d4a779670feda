/- The texts D, L, S1, S2, S3, S4, joined. -/
import Derived.Test.YtilbconikmpadaaGreatG6
import Derived.Test.YtilbconikmpadaaGreatProg
import Derived.KernelRfl
set_option linter.all false
namespace Go.Fs
structure Rg where
 lo:Int
 hi:Int
instance:Inhabited Rg:=⟨⟨0,0⟩⟩
structure Mk where
 frm:Int
 til:Int
 top:Rg
instance:Inhabited Mk:=⟨⟨0,0,default⟩⟩
structure Tb where
 last:Int
 heights:List Rg
 step:Int
 levels:List Int
 marks:List Mk
instance:Enc Rg where
 enc r:=.agg [.int .i64 r.lo,.int .i64 r.hi]
 dec
  | .agg [.int .i64 a,.int .i64 b] => some ⟨a,b⟩
  | _ => none
 law v x h:=by
  split at h
  ·cases h; rfl
  ·cases h
 dep:=2
 ok x:=by simp [zbq]
instance:EncE Rg where
 cs r:=[.int .i64 r.lo,.int .i64 r.hi]
 dcs
  | [.int .i64 a,.int .i64 b] => some ⟨a,b⟩
  | _ => none
 law v x h:=by
  split at h
  ·cases h; rfl
  ·cases h
 inv _:=rfl
 dep:=1
 sz:=2
 len _:=rfl
 ok x:=by simp [zbq]
instance:Enc Mk where
 enc m:=.agg [.int .i64 m.frm,.int .i64 m.til,.int .i64 m.top.lo,.int .i64 m.top.hi]
 dec
  | .agg [.int .i64 a,.int .i64 b,.int .i64 c,.int .i64 d] => some ⟨a,b,⟨c,d⟩⟩
  | _ => none
 law v x h:=by
  split at h
  ·cases h; rfl
  ·cases h
 dep:=2
 ok x:=by simp [zbq]
instance:EncE Mk where
 cs m:=[.int .i64 m.frm,.int .i64 m.til,.int .i64 m.top.lo,.int .i64 m.top.hi]
 dcs
  | [.int .i64 a,.int .i64 b,.int .i64 c,.int .i64 d] => some ⟨a,b,⟨c,d⟩⟩
  | _ => none
 law v x h:=by
  split at h
  ·cases h; rfl
  ·cases h
 inv _:=rfl
 dep:=1
 sz:=4
 len _:=rfl
 ok x:=by simp [zbq]
instance:Enc Tb where
 enc t:=.agg [.int .i64 t.last,.sl (t.heights.map EncE.cs) .no,.int .i64 t.step,.sl (t.levels.map EncE.cs) .no,.sl (t.marks.map EncE.cs) .no]
 dec
  | .agg [.int .i64 a,.sl b .no,.int .i64 c,.sl d .no,.sl e .no] =>
   match (zdH b:Option (List Rg)),(zdH d:Option (List Int)),(zdH e:Option (List Mk)) with
   | some b,some d,some e => some ⟨a,b,c,d,e⟩
   | _,_,_ => none
  | _ => none
 law v x h:=by
  split at h
  ·split at h
   ·rename_i h1 h2 h3
    cases h
    rw [zbt _ _ h1,zbt _ _ h2,zbt _ _ h3]
   ·cases h
  ·cases h
 dep:=3
 ok x:=by
  simp only [zbq,czn,czk,or_false,forall_eq_or_imp,forall_eq,true_and,czx,forall_exists_index,and_imp,forall_apply_eq_imp_iff₂]
  exact ⟨fun a _ => EncE.ok a,fun a _ => EncE.ok a,fun a _ => EncE.ok a⟩
theorem enc_rg (r:Rg):Enc.enc r = .agg [.int .i64 r.lo,.int .i64 r.hi]:=rfl
theorem cs_rg (r:Rg):EncE.cs r = [.int .i64 r.lo,.int .i64 r.hi]:=rfl
theorem dec_rg (a b:Int):(Enc.dec (.agg [.int .i64 a,.int .i64 b]):Option Rg) = some ⟨a,b⟩:=rfl
theorem dcs_rg (a b:Int):(EncE.dcs [.int .i64 a,.int .i64 b]:Option Rg) = some ⟨a,b⟩:=rfl
theorem dep_rg:EncE.dep Rg = 1:=rfl
theorem sz_rg:EncE.sz Rg = 2:=rfl
theorem eta_rg (r:Rg):(⟨r.lo,r.hi⟩:Rg) = r:=rfl
theorem enc_mk (m:Mk):Enc.enc m = .agg [.int .i64 m.frm,.int .i64 m.til,.int .i64 m.top.lo,.int .i64 m.top.hi]:=rfl
theorem cs_mk (m:Mk):EncE.cs m = [.int .i64 m.frm,.int .i64 m.til,.int .i64 m.top.lo,.int .i64 m.top.hi]:=rfl
theorem dec_mk (a b c d:Int):(Enc.dec (.agg [.int .i64 a,.int .i64 b,.int .i64 c,.int .i64 d]):Option Mk) = some ⟨a,b,⟨c,d⟩⟩:=rfl
theorem dcs_mk (a b c d:Int):(EncE.dcs [.int .i64 a,.int .i64 b,.int .i64 c,.int .i64 d]:Option Mk) = some ⟨a,b,⟨c,d⟩⟩:=rfl
theorem dep_mk:EncE.dep Mk = 1:=rfl
def zcW:=And.intro @znr (And.intro @cs_arr (And.intro @zrQ (And.intro @zel (And.intro @zrW (And.intro @zrV (And.intro @cs_rg (And.intro @cs_mk (And.intro @zch (And.intro @zdJ (And.intro @zkJ (And.intro @znl (And.intro @znk (And.intro @dep_rg (And.intro @dep_mk (And.intro @znq (And.intro @ztC (And.intro @ztB (And.intro @zpb (And.intro @bel_int (And.intro @zpd (And.intro @ztz (And.intro @ztA (And.intro @zsb (And.intro @zsc (And.intro @bel_mp (And.intro @zr9 (And.intro @bel_agg (And.intro @bel_tup (And.intro @zsa (And.intro @zty (And.intro @bel_mpr (And.intro @bel_fn (And.intro @zmr (And.intro @zkX (And.intro @zkW (And.intro @zkY (And.intro @zms (And.intro @zbl (And.intro @zc5 (And.intro @zdl (And.intro @zbB (And.intro @zde (And.intro @ziu (And.intro @zcr (And.intro @bel_vec (And.intro @bel_vp (And.intro @zpe @ztD)))))))))))))))))))))))))))))))))))))))))))))))
theorem sz_mk:EncE.sz Mk = 4:=rfl
theorem eta_mk (r:Mk):(⟨r.frm,r.til,r.top⟩:Mk) = r:=rfl
theorem zoW (t:Tb):Enc.enc t = .agg [.int .i64 t.last,.sl (t.heights.map EncE.cs) .no,.int .i64 t.step,.sl (t.levels.map EncE.cs) .no,.sl (t.marks.map EncE.cs) .no]:=rfl
def zcz:=And.intro @zrJ (And.intro @zrL (And.intro @zrK (And.intro @zeu (And.intro @zrM (And.intro @zni (And.intro @zjO (And.intro @zjN (And.intro @enc_rg (And.intro @enc_mk @zoW)))))))))
theorem dec_tb (a c:Int) (b d e:List (List AV)):(Enc.dec (.agg [.int .i64 a,.sl b .no,.int .i64 c,.sl d .no,.sl e .no]):Option Tb) =
  match (zdH b:Option (List Rg)),(zdH d:Option (List Int)),(zdH e:Option (List Mk)) with
   | some b,some d,some e => some ⟨a,b,c,d,e⟩
   | _,_,_ => none:=rfl
theorem eta_tb (t:Tb):(⟨t.last,t.heights,t.step,t.levels,t.marks⟩:Tb) = t:=rfl
attribute [go_sem] zjV vc_label vc_seq zjW ze1 vc_loop vc_exit vc_ret znP vc_draw stepA zuS sem zdY semV evT lk zaE blkA St.put putT AV.un AV.av zf2 Op.operands zpn pickA binA zcx retA zhb resV ze2 AV.strip Tk.strip ofV zmX List.map_nil List.toList_toArray Option.getD_some Option.getD_none czy Nat.reduceAdd Nat.reduceSub if_true if_false Nat.reduceEqDiff true_and and_true czp Nat.reduceLT forall_const Option.map_some reduceCtorEq implies_true zkx zmW zjM zjK zfw AV.solid AV.cells' AV.cells List.nil_append czs List.append_nil zdV avsA callV zjo czn czk or_false or_true false_or forall_eq_or_imp forall_eq zr4 Call.operands Array.toList_append czz zsX bndA List.getD_cons_zero List.getD_cons_succ List.getD_nil zsq zuG zct zbC zd1 zjm zuF zni zjO zjN dec_int dec_bool dec_list zel zrW zrV dcs_int dcs_list zdq decL_nil decL_cons zrS zkJ znl znk sz_int sz_bool sz_list zsW imm_map len_map zah Nat.reduceLeDiff minA maxA true_implies Nat.succ_ne_zero List.drop_succ_cons List.drop_zero List.take_succ_cons List.take_zero czD czS not_true_eq_false not_false_eq_true zch zdJ tokz1 zuJ snap_int zuK snap_nilp snap_nilf snap_agg snap_tup snap_ref snap_fn snap_mpr zqF znX snap_ptr snap_arr snap_mp imm_undef imm_int imm_boolv imm_nilp imm_nilf imm_agg imm_tup imm_ref imm_fn imm_mpr zvy zrv imm_ptr imm_arr imm_mp czA decide_false decide_true false_implies Nat.lt_irrefl czF Nat.reduceMul Nat.zero_add Nat.zero_le Bool.true_eq_false vcDr zdN zgt zi5 zef zbK zbF effOp zeG zkk List.filterMap_cons List.filterMap_nil List.replicate List.set_cons_zero List.set_cons_succ Bool.not_true Bool.not_false Bool.and_true Bool.and_false Bool.true_and Bool.false_and Nat.add_zero and_self imp_self appA ztv zjQ zkF zcb zc4 Option.map_none List.getElem?_nil zlm zhq zkH eqA Bool.not_eq_true List.singleton_append Option.isSome_some Option.isSome_none zqG zvz ite_or ite_and Bool.not_eq_true' vcOps_nil zuw ziR if_tr if_prop' if_tr' ite_self cast0 cast1 Int.reduceToNat Int.reduceLT Int.reduceLE Int.reduceEq eq_self Int.le_refl czf zrJ zrL zrK zeu dec_fnl dec_fnb dec_fnc dec_refc zrM cs_arr dec_arr dcs_arr zmh zrQ sz_arr take_arr zuC zqw soft_ints snap_ints imm_ints scal_ints one_ints drop_ints zrf zrg Nat.mul_one callN frA AV.frsh zg0 zgu zez List.any_cons List.any_nil zsV Bool.or_false Bool.false_or Bool.or_true Bool.true_or beq_self_eq_true Nat.reduceBEq vc_scope scpA zqK snapF_int zqL zuN zuO snapF_agg snapF_tup snapF_ref snapF_fn snapF_mpr snapF_sl snapF_ptr snapF_arr snapF_mp snapF_yld snapF_vec snapF_vp vecA zrE snapG_agg zqI snapG_int zqJ zuL zuM snapG_tup snapG_ref snapG_fn snapG_mpr snapG_sl snapG_ptr snapG_arr snapG_mp snapG_yld snapG_vec snapG_vp snapA partS AV.strip1 AV.soft picR_one picR_nil zs9 zuP snap_vec snap_vp imm_vec imm_vp all_map picS_sl picS_arr picS_vec zpo enc_rg cs_rg dec_rg dcs_rg dep_rg sz_rg eta_rg enc_mk cs_mk dec_mk dcs_mk dep_mk sz_mk eta_mk zoW dec_tb eta_tb
end Go.Fs
namespace Go.Proofs
open Go.Fs
theorem zaD:Tryz.prog.follows .mixedOrders = true:=by kernel_rfl
theorem ly0:zcv Tryz.prog 0 = some (1) ∧ zbA Tryz.prog 0 = some (false) ∧ bytesOf? Tryz.prog 0 = some (0) ∧ za8 Tryz.prog 0 = false ∧ zcm Tryz.prog 0 = none ∧ zbG Tryz.prog 0 = none ∧ zbQ Tryz.prog 0 = none ∧ intOf? Tryz.prog 0 = none ∧ za7 Tryz.prog 0 = none ∧ zaY Tryz.prog 0 = none ∧ mapOf? Tryz.prog 0 = none ∧ zaH Tryz.prog 0 = none ∧ za1 Tryz.prog 0 = some ([.undef]) ∧ zbL Tryz.prog 0 = some (.undef) ∧ zbP Tryz.prog 0 = none:=by and_intros <;> kernel_rfl
theorem ly1:zcv Tryz.prog 1 = some (1) ∧ zbA Tryz.prog 1 = some (false) ∧ bytesOf? Tryz.prog 1 = some (8) ∧ za8 Tryz.prog 1 = false ∧ zcm Tryz.prog 1 = none ∧ zbG Tryz.prog 1 = none ∧ zbQ Tryz.prog 1 = none ∧ intOf? Tryz.prog 1 = none ∧ za7 Tryz.prog 1 = none ∧ zaY Tryz.prog 1 = none ∧ mapOf? Tryz.prog 1 = none ∧ zaH Tryz.prog 1 = none ∧ za1 Tryz.prog 1 = some ([.nilf]) ∧ zbL Tryz.prog 1 = some (.nilf) ∧ zbP Tryz.prog 1 = none:=by and_intros <;> kernel_rfl
theorem ly2:zcv Tryz.prog 2 = some (1) ∧ zbA Tryz.prog 2 = some (false) ∧ bytesOf? Tryz.prog 2 = some (8) ∧ za8 Tryz.prog 2 = false ∧ zcm Tryz.prog 2 = none ∧ zbG Tryz.prog 2 = none ∧ zbQ Tryz.prog 2 = none ∧ intOf? Tryz.prog 2 = some (.i64) ∧ za7 Tryz.prog 2 = none ∧ zaY Tryz.prog 2 = none ∧ mapOf? Tryz.prog 2 = none ∧ zaH Tryz.prog 2 = none ∧ za1 Tryz.prog 2 = some ([(.int .i64 0)]) ∧ zbL Tryz.prog 2 = some ((.int .i64 0)) ∧ zbP Tryz.prog 2 = none:=by and_intros <;> kernel_rfl
theorem ly3:zcv Tryz.prog 3 = some (1) ∧ zbA Tryz.prog 3 = some (false) ∧ bytesOf? Tryz.prog 3 = some (8) ∧ za8 Tryz.prog 3 = false ∧ zcm Tryz.prog 3 = none ∧ zbG Tryz.prog 3 = none ∧ zbQ Tryz.prog 3 = none ∧ intOf? Tryz.prog 3 = some (.i64) ∧ za7 Tryz.prog 3 = none ∧ zaY Tryz.prog 3 = none ∧ mapOf? Tryz.prog 3 = none ∧ zaH Tryz.prog 3 = none ∧ za1 Tryz.prog 3 = some ([(.int .i64 0)]) ∧ zbL Tryz.prog 3 = some ((.int .i64 0)) ∧ zbP Tryz.prog 3 = none:=by and_intros <;> kernel_rfl
theorem ly4:zcv Tryz.prog 4 = some (1) ∧ zbA Tryz.prog 4 = some (false) ∧ bytesOf? Tryz.prog 4 = some (1) ∧ za8 Tryz.prog 4 = true ∧ zcm Tryz.prog 4 = none ∧ zbG Tryz.prog 4 = none ∧ zbQ Tryz.prog 4 = none ∧ intOf? Tryz.prog 4 = none ∧ za7 Tryz.prog 4 = none ∧ zaY Tryz.prog 4 = none ∧ mapOf? Tryz.prog 4 = none ∧ zaH Tryz.prog 4 = none ∧ za1 Tryz.prog 4 = some ([(.bool false)]) ∧ zbL Tryz.prog 4 = some ((.bool false)) ∧ zbP Tryz.prog 4 = none:=by and_intros <;> kernel_rfl
theorem ly5:zcv Tryz.prog 5 = some (1) ∧ zbA Tryz.prog 5 = some (false) ∧ bytesOf? Tryz.prog 5 = some (1) ∧ za8 Tryz.prog 5 = false ∧ zcm Tryz.prog 5 = none ∧ zbG Tryz.prog 5 = none ∧ zbQ Tryz.prog 5 = none ∧ intOf? Tryz.prog 5 = some (.u8) ∧ za7 Tryz.prog 5 = none ∧ zaY Tryz.prog 5 = none ∧ mapOf? Tryz.prog 5 = none ∧ zaH Tryz.prog 5 = none ∧ za1 Tryz.prog 5 = some ([(.int .u8 0)]) ∧ zbL Tryz.prog 5 = some ((.int .u8 0)) ∧ zbP Tryz.prog 5 = none:=by and_intros <;> kernel_rfl
theorem ly22:zcv Tryz.prog 22 = some (1) ∧ zbA Tryz.prog 22 = some (false) ∧ bytesOf? Tryz.prog 22 = some (24) ∧ za8 Tryz.prog 22 = false ∧ zcm Tryz.prog 22 = some ((68,2)) ∧ zbG Tryz.prog 22 = none ∧ zbQ Tryz.prog 22 = none ∧ intOf? Tryz.prog 22 = none ∧ za7 Tryz.prog 22 = none ∧ zaY Tryz.prog 22 = none ∧ mapOf? Tryz.prog 22 = none ∧ zaH Tryz.prog 22 = none ∧ za1 Tryz.prog 22 = some ([(.sl [] .full)]) ∧ zbL Tryz.prog 22 = some ((.sl [] .full)) ∧ zbP Tryz.prog 22 = none:=by and_intros <;> kernel_rfl
theorem ly23:zcv Tryz.prog 23 = some (1) ∧ zbA Tryz.prog 23 = some (false) ∧ bytesOf? Tryz.prog 23 = some (24) ∧ za8 Tryz.prog 23 = false ∧ zcm Tryz.prog 23 = some ((3,1)) ∧ zbG Tryz.prog 23 = none ∧ zbQ Tryz.prog 23 = none ∧ intOf? Tryz.prog 23 = none ∧ za7 Tryz.prog 23 = none ∧ zaY Tryz.prog 23 = none ∧ mapOf? Tryz.prog 23 = none ∧ zaH Tryz.prog 23 = none ∧ za1 Tryz.prog 23 = some ([(.sl [] .full)]) ∧ zbL Tryz.prog 23 = some ((.sl [] .full)) ∧ zbP Tryz.prog 23 = none:=by and_intros <;> kernel_rfl
theorem ly24:zcv Tryz.prog 24 = some (1) ∧ zbA Tryz.prog 24 = some (false) ∧ bytesOf? Tryz.prog 24 = some (24) ∧ za8 Tryz.prog 24 = false ∧ zcm Tryz.prog 24 = some ((175,4)) ∧ zbG Tryz.prog 24 = none ∧ zbQ Tryz.prog 24 = none ∧ intOf? Tryz.prog 24 = none ∧ za7 Tryz.prog 24 = none ∧ zaY Tryz.prog 24 = none ∧ mapOf? Tryz.prog 24 = none ∧ zaH Tryz.prog 24 = none ∧ za1 Tryz.prog 24 = some ([(.sl [] .full)]) ∧ zbL Tryz.prog 24 = some ((.sl [] .full)) ∧ zbP Tryz.prog 24 = none:=by and_intros <;> kernel_rfl
theorem ly26:zcv Tryz.prog 26 = some (5) ∧ zbA Tryz.prog 26 = some (true) ∧ bytesOf? Tryz.prog 26 = some (88) ∧ za8 Tryz.prog 26 = false ∧ zcm Tryz.prog 26 = none ∧ zbG Tryz.prog 26 = none ∧ zbQ Tryz.prog 26 = none ∧ intOf? Tryz.prog 26 = none ∧ za7 Tryz.prog 26 = none ∧ zaY Tryz.prog 26 = none ∧ mapOf? Tryz.prog 26 = none ∧ zaH Tryz.prog 26 = some ([(0,1),(1,1),(2,1),(3,1),(4,1)]) ∧ za1 Tryz.prog 26 = some ([(.int .i64 0),(.sl [] .full),(.int .i64 0),(.sl [] .full),(.sl [] .full)]) ∧ zbL Tryz.prog 26 = some ((.agg [(.int .i64 0),(.sl [] .full),(.int .i64 0),(.sl [] .full),(.sl [] .full)])) ∧ zbP Tryz.prog 26 = none:=by and_intros <;> kernel_rfl
theorem ly27:zcv Tryz.prog 27 = some (1) ∧ zbA Tryz.prog 27 = some (false) ∧ bytesOf? Tryz.prog 27 = some (24) ∧ za8 Tryz.prog 27 = false ∧ zcm Tryz.prog 27 = some ((108,3)) ∧ zbG Tryz.prog 27 = none ∧ zbQ Tryz.prog 27 = none ∧ intOf? Tryz.prog 27 = none ∧ za7 Tryz.prog 27 = none ∧ zaY Tryz.prog 27 = none ∧ mapOf? Tryz.prog 27 = none ∧ zaH Tryz.prog 27 = none ∧ za1 Tryz.prog 27 = some ([(.sl [] .full)]) ∧ zbL Tryz.prog 27 = some ((.sl [] .full)) ∧ zbP Tryz.prog 27 = none:=by and_intros <;> kernel_rfl
theorem ly28:zcv Tryz.prog 28 = some (1) ∧ zbA Tryz.prog 28 = some (false) ∧ bytesOf? Tryz.prog 28 = some (24) ∧ za8 Tryz.prog 28 = false ∧ zcm Tryz.prog 28 = some ((113,2)) ∧ zbG Tryz.prog 28 = none ∧ zbQ Tryz.prog 28 = none ∧ intOf? Tryz.prog 28 = none ∧ za7 Tryz.prog 28 = none ∧ zaY Tryz.prog 28 = none ∧ mapOf? Tryz.prog 28 = none ∧ zaH Tryz.prog 28 = none ∧ za1 Tryz.prog 28 = some ([(.sl [] .full)]) ∧ zbL Tryz.prog 28 = some ((.sl [] .full)) ∧ zbP Tryz.prog 28 = none:=by and_intros <;> kernel_rfl
theorem ly30:zcv Tryz.prog 30 = some (9) ∧ zbA Tryz.prog 30 = some (true) ∧ bytesOf? Tryz.prog 30 = some (168) ∧ za8 Tryz.prog 30 = false ∧ zcm Tryz.prog 30 = none ∧ zbG Tryz.prog 30 = none ∧ zbQ Tryz.prog 30 = none ∧ intOf? Tryz.prog 30 = none ∧ za7 Tryz.prog 30 = none ∧ zaY Tryz.prog 30 = none ∧ mapOf? Tryz.prog 30 = none ∧ zaH Tryz.prog 30 = some ([(0,5),(5,1),(6,1),(7,1),(8,1)]) ∧ za1 Tryz.prog 30 = some ([(.int .i64 0),(.sl [] .full),(.int .i64 0),(.sl [] .full),(.sl [] .full),(.int .i64 0),(.sl [] .full),(.sl [] .full),(.sl [] .full)]) ∧ zbL Tryz.prog 30 = some ((.agg [(.int .i64 0),(.sl [] .full),(.int .i64 0),(.sl [] .full),(.sl [] .full),(.int .i64 0),(.sl [] .full),(.sl [] .full),(.sl [] .full)])) ∧ zbP Tryz.prog 30 = none:=by and_intros <;> kernel_rfl
theorem ly32:zcv Tryz.prog 32 = some (1) ∧ zbA Tryz.prog 32 = some (false) ∧ bytesOf? Tryz.prog 32 = some (8) ∧ za8 Tryz.prog 32 = false ∧ zcm Tryz.prog 32 = none ∧ zbG Tryz.prog 32 = none ∧ zbQ Tryz.prog 32 = none ∧ intOf? Tryz.prog 32 = none ∧ za7 Tryz.prog 32 = none ∧ zaY Tryz.prog 32 = none ∧ mapOf? Tryz.prog 32 = none ∧ zaH Tryz.prog 32 = none ∧ za1 Tryz.prog 32 = some ([.nilf]) ∧ zbL Tryz.prog 32 = some (.nilf) ∧ zbP Tryz.prog 32 = none:=by and_intros <;> kernel_rfl
theorem ly33:zcv Tryz.prog 33 = some (1) ∧ zbA Tryz.prog 33 = some (false) ∧ bytesOf? Tryz.prog 33 = some (24) ∧ za8 Tryz.prog 33 = false ∧ zcm Tryz.prog 33 = some ((55,3)) ∧ zbG Tryz.prog 33 = none ∧ zbQ Tryz.prog 33 = none ∧ intOf? Tryz.prog 33 = none ∧ za7 Tryz.prog 33 = none ∧ zaY Tryz.prog 33 = none ∧ mapOf? Tryz.prog 33 = none ∧ zaH Tryz.prog 33 = none ∧ za1 Tryz.prog 33 = some ([(.sl [] .full)]) ∧ zbL Tryz.prog 33 = some ((.sl [] .full)) ∧ zbP Tryz.prog 33 = none:=by and_intros <;> kernel_rfl
theorem ly34:zcv Tryz.prog 34 = some (1) ∧ zbA Tryz.prog 34 = some (false) ∧ bytesOf? Tryz.prog 34 = some (8) ∧ za8 Tryz.prog 34 = false ∧ zcm Tryz.prog 34 = none ∧ zbG Tryz.prog 34 = none ∧ zbQ Tryz.prog 34 = none ∧ intOf? Tryz.prog 34 = some (.i64) ∧ za7 Tryz.prog 34 = none ∧ zaY Tryz.prog 34 = none ∧ mapOf? Tryz.prog 34 = none ∧ zaH Tryz.prog 34 = none ∧ za1 Tryz.prog 34 = some ([(.int .i64 0)]) ∧ zbL Tryz.prog 34 = some ((.int .i64 0)) ∧ zbP Tryz.prog 34 = none:=by and_intros <;> kernel_rfl
theorem ly37:zcv Tryz.prog 37 = some (1) ∧ zbA Tryz.prog 37 = some (false) ∧ bytesOf? Tryz.prog 37 = some (24) ∧ za8 Tryz.prog 37 = false ∧ zcm Tryz.prog 37 = some ((88,2)) ∧ zbG Tryz.prog 37 = none ∧ zbQ Tryz.prog 37 = none ∧ intOf? Tryz.prog 37 = none ∧ za7 Tryz.prog 37 = none ∧ zaY Tryz.prog 37 = none ∧ mapOf? Tryz.prog 37 = none ∧ zaH Tryz.prog 37 = none ∧ za1 Tryz.prog 37 = some ([(.sl [] .full)]) ∧ zbL Tryz.prog 37 = some ((.sl [] .full)) ∧ zbP Tryz.prog 37 = none:=by and_intros <;> kernel_rfl
theorem ly38:zcv Tryz.prog 38 = some (1) ∧ zbA Tryz.prog 38 = some (false) ∧ bytesOf? Tryz.prog 38 = some (24) ∧ za8 Tryz.prog 38 = false ∧ zcm Tryz.prog 38 = some ((91,4)) ∧ zbG Tryz.prog 38 = none ∧ zbQ Tryz.prog 38 = none ∧ intOf? Tryz.prog 38 = none ∧ za7 Tryz.prog 38 = none ∧ zaY Tryz.prog 38 = none ∧ mapOf? Tryz.prog 38 = none ∧ zaH Tryz.prog 38 = none ∧ za1 Tryz.prog 38 = some ([(.sl [] .full)]) ∧ zbL Tryz.prog 38 = some ((.sl [] .full)) ∧ zbP Tryz.prog 38 = none:=by and_intros <;> kernel_rfl
theorem ly40:zcv Tryz.prog 40 = some (5) ∧ zbA Tryz.prog 40 = some (true) ∧ bytesOf? Tryz.prog 40 = some (88) ∧ za8 Tryz.prog 40 = false ∧ zcm Tryz.prog 40 = none ∧ zbG Tryz.prog 40 = none ∧ zbQ Tryz.prog 40 = none ∧ intOf? Tryz.prog 40 = none ∧ za7 Tryz.prog 40 = none ∧ zaY Tryz.prog 40 = none ∧ mapOf? Tryz.prog 40 = none ∧ zaH Tryz.prog 40 = some ([(0,1),(1,1),(2,1),(3,1),(4,1)]) ∧ za1 Tryz.prog 40 = some ([(.int .i64 0),(.sl [] .full),(.int .i64 0),(.sl [] .full),(.sl [] .full)]) ∧ zbL Tryz.prog 40 = some ((.agg [(.int .i64 0),(.sl [] .full),(.int .i64 0),(.sl [] .full),(.sl [] .full)])) ∧ zbP Tryz.prog 40 = none:=by and_intros <;> kernel_rfl
theorem ly41:zcv Tryz.prog 41 = some (1) ∧ zbA Tryz.prog 41 = some (false) ∧ bytesOf? Tryz.prog 41 = some (24) ∧ za8 Tryz.prog 41 = false ∧ zcm Tryz.prog 41 = some ((93,3)) ∧ zbG Tryz.prog 41 = none ∧ zbQ Tryz.prog 41 = none ∧ intOf? Tryz.prog 41 = none ∧ za7 Tryz.prog 41 = none ∧ zaY Tryz.prog 41 = none ∧ mapOf? Tryz.prog 41 = none ∧ zaH Tryz.prog 41 = none ∧ za1 Tryz.prog 41 = some ([(.sl [] .full)]) ∧ zbL Tryz.prog 41 = some ((.sl [] .full)) ∧ zbP Tryz.prog 41 = none:=by and_intros <;> kernel_rfl
theorem ly42:zcv Tryz.prog 42 = some (1) ∧ zbA Tryz.prog 42 = some (false) ∧ bytesOf? Tryz.prog 42 = some (24) ∧ za8 Tryz.prog 42 = false ∧ zcm Tryz.prog 42 = some ((95,2)) ∧ zbG Tryz.prog 42 = none ∧ zbQ Tryz.prog 42 = none ∧ intOf? Tryz.prog 42 = none ∧ za7 Tryz.prog 42 = none ∧ zaY Tryz.prog 42 = none ∧ mapOf? Tryz.prog 42 = none ∧ zaH Tryz.prog 42 = none ∧ za1 Tryz.prog 42 = some ([(.sl [] .full)]) ∧ zbL Tryz.prog 42 = some ((.sl [] .full)) ∧ zbP Tryz.prog 42 = none:=by and_intros <;> kernel_rfl
theorem ly44:zcv Tryz.prog 44 = some (9) ∧ zbA Tryz.prog 44 = some (true) ∧ bytesOf? Tryz.prog 44 = some (168) ∧ za8 Tryz.prog 44 = false ∧ zcm Tryz.prog 44 = none ∧ zbG Tryz.prog 44 = none ∧ zbQ Tryz.prog 44 = none ∧ intOf? Tryz.prog 44 = none ∧ za7 Tryz.prog 44 = none ∧ zaY Tryz.prog 44 = none ∧ mapOf? Tryz.prog 44 = none ∧ zaH Tryz.prog 44 = some ([(0,5),(5,1),(6,1),(7,1),(8,1)]) ∧ za1 Tryz.prog 44 = some ([(.int .i64 0),(.sl [] .full),(.int .i64 0),(.sl [] .full),(.sl [] .full),(.int .i64 0),(.sl [] .full),(.sl [] .full),(.sl [] .full)]) ∧ zbL Tryz.prog 44 = some ((.agg [(.int .i64 0),(.sl [] .full),(.int .i64 0),(.sl [] .full),(.sl [] .full),(.int .i64 0),(.sl [] .full),(.sl [] .full),(.sl [] .full)])) ∧ zbP Tryz.prog 44 = none:=by and_intros <;> kernel_rfl
theorem ly53:zcv Tryz.prog 53 = some (3) ∧ zbA Tryz.prog 53 = some (true) ∧ bytesOf? Tryz.prog 53 = some (40) ∧ za8 Tryz.prog 53 = false ∧ zcm Tryz.prog 53 = none ∧ zbG Tryz.prog 53 = none ∧ zbQ Tryz.prog 53 = none ∧ intOf? Tryz.prog 53 = none ∧ za7 Tryz.prog 53 = none ∧ zaY Tryz.prog 53 = none ∧ mapOf? Tryz.prog 53 = none ∧ zaH Tryz.prog 53 = some ([(0,1),(1,1),(2,1)]) ∧ za1 Tryz.prog 53 = some ([(.int .i64 0),(.int .i64 0),(.sl [] .full)]) ∧ zbL Tryz.prog 53 = some ((.agg [(.int .i64 0),(.int .i64 0),(.sl [] .full)])) ∧ zbP Tryz.prog 53 = none:=by and_intros <;> kernel_rfl
theorem ly55:zcv Tryz.prog 55 = some (3) ∧ zbA Tryz.prog 55 = some (true) ∧ bytesOf? Tryz.prog 55 = some (40) ∧ za8 Tryz.prog 55 = false ∧ zcm Tryz.prog 55 = none ∧ zbG Tryz.prog 55 = none ∧ zbQ Tryz.prog 55 = none ∧ intOf? Tryz.prog 55 = none ∧ za7 Tryz.prog 55 = none ∧ zaY Tryz.prog 55 = none ∧ mapOf? Tryz.prog 55 = none ∧ zaH Tryz.prog 55 = some ([(0,1),(1,1),(2,1)]) ∧ za1 Tryz.prog 55 = some ([(.int .i64 0),(.int .i64 0),(.sl [] .full)]) ∧ zbL Tryz.prog 55 = some ((.agg [(.int .i64 0),(.int .i64 0),(.sl [] .full)])) ∧ zbP Tryz.prog 55 = none:=by and_intros <;> kernel_rfl
theorem ly61:zcv Tryz.prog 61 = some (2) ∧ zbA Tryz.prog 61 = some (true) ∧ bytesOf? Tryz.prog 61 = some (16) ∧ za8 Tryz.prog 61 = false ∧ zcm Tryz.prog 61 = none ∧ zbG Tryz.prog 61 = none ∧ zbQ Tryz.prog 61 = none ∧ intOf? Tryz.prog 61 = none ∧ za7 Tryz.prog 61 = some (2) ∧ zaY Tryz.prog 61 = some (2) ∧ mapOf? Tryz.prog 61 = none ∧ zaH Tryz.prog 61 = some ([(0,1),(1,1)]) ∧ za1 Tryz.prog 61 = some ([(.int .i64 0),(.int .i64 0)]) ∧ zbL Tryz.prog 61 = some ((.agg [(.int .i64 0),(.int .i64 0)])) ∧ zbP Tryz.prog 61 = none:=by and_intros <;> kernel_rfl
theorem ly64:zcv Tryz.prog 64 = some (1) ∧ zbA Tryz.prog 64 = some (false) ∧ bytesOf? Tryz.prog 64 = some (24) ∧ za8 Tryz.prog 64 = false ∧ zcm Tryz.prog 64 = some ((23,1)) ∧ zbG Tryz.prog 64 = none ∧ zbQ Tryz.prog 64 = none ∧ intOf? Tryz.prog 64 = none ∧ za7 Tryz.prog 64 = none ∧ zaY Tryz.prog 64 = none ∧ mapOf? Tryz.prog 64 = none ∧ zaH Tryz.prog 64 = none ∧ za1 Tryz.prog 64 = some ([(.sl [] .full)]) ∧ zbL Tryz.prog 64 = some ((.sl [] .full)) ∧ zbP Tryz.prog 64 = none:=by and_intros <;> kernel_rfl
theorem ly68:zcv Tryz.prog 68 = some (2) ∧ zbA Tryz.prog 68 = some (true) ∧ bytesOf? Tryz.prog 68 = some (16) ∧ za8 Tryz.prog 68 = false ∧ zcm Tryz.prog 68 = none ∧ zbG Tryz.prog 68 = none ∧ zbQ Tryz.prog 68 = none ∧ intOf? Tryz.prog 68 = none ∧ za7 Tryz.prog 68 = some (2) ∧ zaY Tryz.prog 68 = some (2) ∧ mapOf? Tryz.prog 68 = none ∧ zaH Tryz.prog 68 = some ([(0,1),(1,1)]) ∧ za1 Tryz.prog 68 = some ([(.int .i64 0),(.int .i64 0)]) ∧ zbL Tryz.prog 68 = some ((.agg [(.int .i64 0),(.int .i64 0)])) ∧ zbP Tryz.prog 68 = none:=by and_intros <;> kernel_rfl
theorem ly88:zcv Tryz.prog 88 = some (2) ∧ zbA Tryz.prog 88 = some (true) ∧ bytesOf? Tryz.prog 88 = some (16) ∧ za8 Tryz.prog 88 = false ∧ zcm Tryz.prog 88 = none ∧ zbG Tryz.prog 88 = none ∧ zbQ Tryz.prog 88 = none ∧ intOf? Tryz.prog 88 = none ∧ za7 Tryz.prog 88 = some (2) ∧ zaY Tryz.prog 88 = some (2) ∧ mapOf? Tryz.prog 88 = none ∧ zaH Tryz.prog 88 = some ([(0,1),(1,1)]) ∧ za1 Tryz.prog 88 = some ([(.int .i64 0),(.int .i64 0)]) ∧ zbL Tryz.prog 88 = some ((.agg [(.int .i64 0),(.int .i64 0)])) ∧ zbP Tryz.prog 88 = none:=by and_intros <;> kernel_rfl
theorem ly91:zcv Tryz.prog 91 = some (4) ∧ zbA Tryz.prog 91 = some (true) ∧ bytesOf? Tryz.prog 91 = some (32) ∧ za8 Tryz.prog 91 = false ∧ zcm Tryz.prog 91 = none ∧ zbG Tryz.prog 91 = none ∧ zbQ Tryz.prog 91 = none ∧ intOf? Tryz.prog 91 = none ∧ za7 Tryz.prog 91 = none ∧ zaY Tryz.prog 91 = some (4) ∧ mapOf? Tryz.prog 91 = none ∧ zaH Tryz.prog 91 = some ([(0,1),(1,1),(2,2)]) ∧ za1 Tryz.prog 91 = some ([(.int .i64 0),(.int .i64 0),(.int .i64 0),(.int .i64 0)]) ∧ zbL Tryz.prog 91 = some ((.agg [(.int .i64 0),(.int .i64 0),(.int .i64 0),(.int .i64 0)])) ∧ zbP Tryz.prog 91 = none:=by and_intros <;> kernel_rfl
theorem ly93:zcv Tryz.prog 93 = some (3) ∧ zbA Tryz.prog 93 = some (true) ∧ bytesOf? Tryz.prog 93 = some (24) ∧ za8 Tryz.prog 93 = false ∧ zcm Tryz.prog 93 = none ∧ zbG Tryz.prog 93 = none ∧ zbQ Tryz.prog 93 = none ∧ intOf? Tryz.prog 93 = none ∧ za7 Tryz.prog 93 = some (3) ∧ zaY Tryz.prog 93 = some (3) ∧ mapOf? Tryz.prog 93 = none ∧ zaH Tryz.prog 93 = some ([(0,1),(1,1),(2,1)]) ∧ za1 Tryz.prog 93 = some ([(.int .i64 0),(.int .i64 0),(.int .i64 0)]) ∧ zbL Tryz.prog 93 = some ((.agg [(.int .i64 0),(.int .i64 0),(.int .i64 0)])) ∧ zbP Tryz.prog 93 = none:=by and_intros <;> kernel_rfl
theorem ly95:zcv Tryz.prog 95 = some (2) ∧ zbA Tryz.prog 95 = some (true) ∧ bytesOf? Tryz.prog 95 = some (16) ∧ za8 Tryz.prog 95 = false ∧ zcm Tryz.prog 95 = none ∧ zbG Tryz.prog 95 = none ∧ zbQ Tryz.prog 95 = none ∧ intOf? Tryz.prog 95 = none ∧ za7 Tryz.prog 95 = some (2) ∧ zaY Tryz.prog 95 = some (2) ∧ mapOf? Tryz.prog 95 = none ∧ zaH Tryz.prog 95 = some ([(0,1),(1,1)]) ∧ za1 Tryz.prog 95 = some ([(.int .i64 0),(.int .i64 0)]) ∧ zbL Tryz.prog 95 = some ((.agg [(.int .i64 0),(.int .i64 0)])) ∧ zbP Tryz.prog 95 = none:=by and_intros <;> kernel_rfl
theorem ly96:zcv Tryz.prog 96 = some (1) ∧ zbA Tryz.prog 96 = some (false) ∧ bytesOf? Tryz.prog 96 = some (2) ∧ za8 Tryz.prog 96 = false ∧ zcm Tryz.prog 96 = none ∧ zbG Tryz.prog 96 = none ∧ zbQ Tryz.prog 96 = none ∧ intOf? Tryz.prog 96 = some (.u16) ∧ za7 Tryz.prog 96 = none ∧ zaY Tryz.prog 96 = none ∧ mapOf? Tryz.prog 96 = none ∧ zaH Tryz.prog 96 = none ∧ za1 Tryz.prog 96 = some ([(.int .u16 0)]) ∧ zbL Tryz.prog 96 = some ((.int .u16 0)) ∧ zbP Tryz.prog 96 = none:=by and_intros <;> kernel_rfl
theorem ly97:zcv Tryz.prog 97 = some (1) ∧ zbA Tryz.prog 97 = some (false) ∧ bytesOf? Tryz.prog 97 = some (24) ∧ za8 Tryz.prog 97 = false ∧ zcm Tryz.prog 97 = some ((5,1)) ∧ zbG Tryz.prog 97 = none ∧ zbQ Tryz.prog 97 = none ∧ intOf? Tryz.prog 97 = none ∧ za7 Tryz.prog 97 = none ∧ zaY Tryz.prog 97 = none ∧ mapOf? Tryz.prog 97 = none ∧ zaH Tryz.prog 97 = none ∧ za1 Tryz.prog 97 = some ([(.sl [] .full)]) ∧ zbL Tryz.prog 97 = some ((.sl [] .full)) ∧ zbP Tryz.prog 97 = none:=by and_intros <;> kernel_rfl
theorem ly108:zcv Tryz.prog 108 = some (3) ∧ zbA Tryz.prog 108 = some (true) ∧ bytesOf? Tryz.prog 108 = some (24) ∧ za8 Tryz.prog 108 = false ∧ zcm Tryz.prog 108 = none ∧ zbG Tryz.prog 108 = none ∧ zbQ Tryz.prog 108 = none ∧ intOf? Tryz.prog 108 = none ∧ za7 Tryz.prog 108 = some (3) ∧ zaY Tryz.prog 108 = some (3) ∧ mapOf? Tryz.prog 108 = none ∧ zaH Tryz.prog 108 = some ([(0,1),(1,1),(2,1)]) ∧ za1 Tryz.prog 108 = some ([(.int .i64 0),(.int .i64 0),(.int .i64 0)]) ∧ zbL Tryz.prog 108 = some ((.agg [(.int .i64 0),(.int .i64 0),(.int .i64 0)])) ∧ zbP Tryz.prog 108 = none:=by and_intros <;> kernel_rfl
theorem ly113:zcv Tryz.prog 113 = some (2) ∧ zbA Tryz.prog 113 = some (true) ∧ bytesOf? Tryz.prog 113 = some (16) ∧ za8 Tryz.prog 113 = false ∧ zcm Tryz.prog 113 = none ∧ zbG Tryz.prog 113 = none ∧ zbQ Tryz.prog 113 = none ∧ intOf? Tryz.prog 113 = none ∧ za7 Tryz.prog 113 = some (2) ∧ zaY Tryz.prog 113 = some (2) ∧ mapOf? Tryz.prog 113 = none ∧ zaH Tryz.prog 113 = some ([(0,1),(1,1)]) ∧ za1 Tryz.prog 113 = some ([(.int .i64 0),(.int .i64 0)]) ∧ zbL Tryz.prog 113 = some ((.agg [(.int .i64 0),(.int .i64 0)])) ∧ zbP Tryz.prog 113 = none:=by and_intros <;> kernel_rfl
theorem ly117:zcv Tryz.prog 117 = some (1) ∧ zbA Tryz.prog 117 = some (false) ∧ bytesOf? Tryz.prog 117 = some (8) ∧ za8 Tryz.prog 117 = false ∧ zcm Tryz.prog 117 = none ∧ zbG Tryz.prog 117 = none ∧ zbQ Tryz.prog 117 = none ∧ intOf? Tryz.prog 117 = some (.u64) ∧ za7 Tryz.prog 117 = none ∧ zaY Tryz.prog 117 = none ∧ mapOf? Tryz.prog 117 = none ∧ zaH Tryz.prog 117 = none ∧ za1 Tryz.prog 117 = some ([(.int .u64 0)]) ∧ zbL Tryz.prog 117 = some ((.int .u64 0)) ∧ zbP Tryz.prog 117 = none:=by and_intros <;> kernel_rfl
theorem ly128:zcv Tryz.prog 128 = some (1) ∧ zbA Tryz.prog 128 = some (false) ∧ bytesOf? Tryz.prog 128 = some (24) ∧ za8 Tryz.prog 128 = false ∧ zcm Tryz.prog 128 = some ((188,10)) ∧ zbG Tryz.prog 128 = none ∧ zbQ Tryz.prog 128 = none ∧ intOf? Tryz.prog 128 = none ∧ za7 Tryz.prog 128 = none ∧ zaY Tryz.prog 128 = none ∧ mapOf? Tryz.prog 128 = none ∧ zaH Tryz.prog 128 = none ∧ za1 Tryz.prog 128 = some ([(.sl [] .full)]) ∧ zbL Tryz.prog 128 = some ((.sl [] .full)) ∧ zbP Tryz.prog 128 = none:=by and_intros <;> kernel_rfl
theorem ly130:zcv Tryz.prog 130 = some (2) ∧ zbA Tryz.prog 130 = some (true) ∧ bytesOf? Tryz.prog 130 = some (48) ∧ za8 Tryz.prog 130 = false ∧ zcm Tryz.prog 130 = none ∧ zbG Tryz.prog 130 = none ∧ zbQ Tryz.prog 130 = none ∧ intOf? Tryz.prog 130 = none ∧ za7 Tryz.prog 130 = none ∧ zaY Tryz.prog 130 = none ∧ mapOf? Tryz.prog 130 = none ∧ zaH Tryz.prog 130 = some ([(0,1),(1,1)]) ∧ za1 Tryz.prog 130 = some ([(.sl [] .full),(.sl [] .full)]) ∧ zbL Tryz.prog 130 = some ((.agg [(.sl [] .full),(.sl [] .full)])) ∧ zbP Tryz.prog 130 = none:=by and_intros <;> kernel_rfl
theorem ly137:zcv Tryz.prog 137 = some (1) ∧ zbA Tryz.prog 137 = some (false) ∧ bytesOf? Tryz.prog 137 = some (8) ∧ za8 Tryz.prog 137 = false ∧ zcm Tryz.prog 137 = none ∧ zbG Tryz.prog 137 = none ∧ zbQ Tryz.prog 137 = none ∧ intOf? Tryz.prog 137 = none ∧ za7 Tryz.prog 137 = none ∧ zaY Tryz.prog 137 = none ∧ mapOf? Tryz.prog 137 = none ∧ zaH Tryz.prog 137 = none ∧ za1 Tryz.prog 137 = some ([.nilf]) ∧ zbL Tryz.prog 137 = some (.nilf) ∧ zbP Tryz.prog 137 = none:=by and_intros <;> kernel_rfl
theorem ly138:zcv Tryz.prog 138 = some (1) ∧ zbA Tryz.prog 138 = some (false) ∧ bytesOf? Tryz.prog 138 = some (8) ∧ za8 Tryz.prog 138 = false ∧ zcm Tryz.prog 138 = none ∧ zbG Tryz.prog 138 = none ∧ zbQ Tryz.prog 138 = none ∧ intOf? Tryz.prog 138 = none ∧ za7 Tryz.prog 138 = none ∧ zaY Tryz.prog 138 = none ∧ mapOf? Tryz.prog 138 = none ∧ zaH Tryz.prog 138 = none ∧ za1 Tryz.prog 138 = some ([.nilf]) ∧ zbL Tryz.prog 138 = some (.nilf) ∧ zbP Tryz.prog 138 = none:=by and_intros <;> kernel_rfl
theorem ly145:zcv Tryz.prog 145 = some (1) ∧ zbA Tryz.prog 145 = some (false) ∧ bytesOf? Tryz.prog 145 = some (8) ∧ za8 Tryz.prog 145 = false ∧ zcm Tryz.prog 145 = none ∧ zbG Tryz.prog 145 = none ∧ zbQ Tryz.prog 145 = none ∧ intOf? Tryz.prog 145 = none ∧ za7 Tryz.prog 145 = none ∧ zaY Tryz.prog 145 = none ∧ mapOf? Tryz.prog 145 = none ∧ zaH Tryz.prog 145 = none ∧ za1 Tryz.prog 145 = some ([.nilp]) ∧ zbL Tryz.prog 145 = some (.nilp) ∧ zbP Tryz.prog 145 = none:=by and_intros <;> kernel_rfl
theorem ly148:zcv Tryz.prog 148 = some (1) ∧ zbA Tryz.prog 148 = some (false) ∧ bytesOf? Tryz.prog 148 = some (8) ∧ za8 Tryz.prog 148 = false ∧ zcm Tryz.prog 148 = none ∧ zbG Tryz.prog 148 = none ∧ zbQ Tryz.prog 148 = none ∧ intOf? Tryz.prog 148 = none ∧ za7 Tryz.prog 148 = none ∧ zaY Tryz.prog 148 = none ∧ mapOf? Tryz.prog 148 = none ∧ zaH Tryz.prog 148 = none ∧ za1 Tryz.prog 148 = some ([.nilf]) ∧ zbL Tryz.prog 148 = some (.nilf) ∧ zbP Tryz.prog 148 = none:=by and_intros <;> kernel_rfl
theorem ly149:zcv Tryz.prog 149 = some (1) ∧ zbA Tryz.prog 149 = some (false) ∧ bytesOf? Tryz.prog 149 = some (8) ∧ za8 Tryz.prog 149 = false ∧ zcm Tryz.prog 149 = none ∧ zbG Tryz.prog 149 = none ∧ zbQ Tryz.prog 149 = none ∧ intOf? Tryz.prog 149 = none ∧ za7 Tryz.prog 149 = none ∧ zaY Tryz.prog 149 = none ∧ mapOf? Tryz.prog 149 = none ∧ zaH Tryz.prog 149 = none ∧ za1 Tryz.prog 149 = some ([.nilf]) ∧ zbL Tryz.prog 149 = some (.nilf) ∧ zbP Tryz.prog 149 = none:=by and_intros <;> kernel_rfl
theorem ly151:zcv Tryz.prog 151 = some (1) ∧ zbA Tryz.prog 151 = some (true) ∧ bytesOf? Tryz.prog 151 = some (8) ∧ za8 Tryz.prog 151 = false ∧ zcm Tryz.prog 151 = none ∧ zbG Tryz.prog 151 = none ∧ zbQ Tryz.prog 151 = none ∧ intOf? Tryz.prog 151 = none ∧ za7 Tryz.prog 151 = none ∧ zaY Tryz.prog 151 = none ∧ mapOf? Tryz.prog 151 = none ∧ zaH Tryz.prog 151 = some ([(0,1)]) ∧ za1 Tryz.prog 151 = some ([.nilf]) ∧ zbL Tryz.prog 151 = some ((.agg [.nilf])) ∧ zbP Tryz.prog 151 = none:=by and_intros <;> kernel_rfl
theorem ly158:zcv Tryz.prog 158 = some (1) ∧ zbA Tryz.prog 158 = some (false) ∧ bytesOf? Tryz.prog 158 = some (24) ∧ za8 Tryz.prog 158 = false ∧ zcm Tryz.prog 158 = some ((200,1)) ∧ zbG Tryz.prog 158 = none ∧ zbQ Tryz.prog 158 = none ∧ intOf? Tryz.prog 158 = none ∧ za7 Tryz.prog 158 = none ∧ zaY Tryz.prog 158 = none ∧ mapOf? Tryz.prog 158 = none ∧ zaH Tryz.prog 158 = none ∧ za1 Tryz.prog 158 = some ([(.sl [] .full)]) ∧ zbL Tryz.prog 158 = some ((.sl [] .full)) ∧ zbP Tryz.prog 158 = none:=by and_intros <;> kernel_rfl
theorem ly160:zcv Tryz.prog 160 = some (1) ∧ zbA Tryz.prog 160 = some (false) ∧ bytesOf? Tryz.prog 160 = some (24) ∧ za8 Tryz.prog 160 = false ∧ zcm Tryz.prog 160 = some ((130,2)) ∧ zbG Tryz.prog 160 = none ∧ zbQ Tryz.prog 160 = none ∧ intOf? Tryz.prog 160 = none ∧ za7 Tryz.prog 160 = none ∧ zaY Tryz.prog 160 = none ∧ mapOf? Tryz.prog 160 = none ∧ zaH Tryz.prog 160 = none ∧ za1 Tryz.prog 160 = some ([(.sl [] .full)]) ∧ zbL Tryz.prog 160 = some ((.sl [] .full)) ∧ zbP Tryz.prog 160 = none:=by and_intros <;> kernel_rfl
theorem ly162:zcv Tryz.prog 162 = some (10) ∧ zbA Tryz.prog 162 = some (true) ∧ bytesOf? Tryz.prog 162 = some (192) ∧ za8 Tryz.prog 162 = false ∧ zcm Tryz.prog 162 = none ∧ zbG Tryz.prog 162 = none ∧ zbQ Tryz.prog 162 = none ∧ intOf? Tryz.prog 162 = none ∧ za7 Tryz.prog 162 = none ∧ zaY Tryz.prog 162 = none ∧ mapOf? Tryz.prog 162 = none ∧ zaH Tryz.prog 162 = some ([(0,9),(9,1)]) ∧ za1 Tryz.prog 162 = some ([(.int .i64 0),(.sl [] .full),(.int .i64 0),(.sl [] .full),(.sl [] .full),(.int .i64 0),(.sl [] .full),(.sl [] .full),(.sl [] .full),(.sl [] .full)]) ∧ zbL Tryz.prog 162 = some ((.agg [(.int .i64 0),(.sl [] .full),(.int .i64 0),(.sl [] .full),(.sl [] .full),(.int .i64 0),(.sl [] .full),(.sl [] .full),(.sl [] .full),(.sl [] .full)])) ∧ zbP Tryz.prog 162 = none:=by and_intros <;> kernel_rfl
theorem ly164:zcv Tryz.prog 164 = some (1) ∧ zbA Tryz.prog 164 = some (false) ∧ bytesOf? Tryz.prog 164 = some (8) ∧ za8 Tryz.prog 164 = false ∧ zcm Tryz.prog 164 = none ∧ zbG Tryz.prog 164 = none ∧ zbQ Tryz.prog 164 = none ∧ intOf? Tryz.prog 164 = none ∧ za7 Tryz.prog 164 = none ∧ zaY Tryz.prog 164 = none ∧ mapOf? Tryz.prog 164 = none ∧ zaH Tryz.prog 164 = none ∧ za1 Tryz.prog 164 = some ([.nilf]) ∧ zbL Tryz.prog 164 = some (.nilf) ∧ zbP Tryz.prog 164 = none:=by and_intros <;> kernel_rfl
theorem ly169:zcv Tryz.prog 169 = some (10) ∧ zbA Tryz.prog 169 = some (true) ∧ bytesOf? Tryz.prog 169 = some (80) ∧ za8 Tryz.prog 169 = false ∧ zcm Tryz.prog 169 = none ∧ zbG Tryz.prog 169 = some ((10,1)) ∧ zbQ Tryz.prog 169 = some (3) ∧ intOf? Tryz.prog 169 = none ∧ za7 Tryz.prog 169 = some (10) ∧ zaY Tryz.prog 169 = some (10) ∧ mapOf? Tryz.prog 169 = none ∧ zaH Tryz.prog 169 = none ∧ za1 Tryz.prog 169 = some ([(.int .i64 0),(.int .i64 0),(.int .i64 0),(.int .i64 0),(.int .i64 0),(.int .i64 0),(.int .i64 0),(.int .i64 0),(.int .i64 0),(.int .i64 0)]) ∧ zbL Tryz.prog 169 = some ((.agg [(.int .i64 0),(.int .i64 0),(.int .i64 0),(.int .i64 0),(.int .i64 0),(.int .i64 0),(.int .i64 0),(.int .i64 0),(.int .i64 0),(.int .i64 0)])) ∧ zbP Tryz.prog 169 = none:=by and_intros <;> kernel_rfl
theorem ly175:zcv Tryz.prog 175 = some (4) ∧ zbA Tryz.prog 175 = some (true) ∧ bytesOf? Tryz.prog 175 = some (32) ∧ za8 Tryz.prog 175 = false ∧ zcm Tryz.prog 175 = none ∧ zbG Tryz.prog 175 = none ∧ zbQ Tryz.prog 175 = none ∧ intOf? Tryz.prog 175 = none ∧ za7 Tryz.prog 175 = none ∧ zaY Tryz.prog 175 = some (4) ∧ mapOf? Tryz.prog 175 = none ∧ zaH Tryz.prog 175 = some ([(0,1),(1,1),(2,2)]) ∧ za1 Tryz.prog 175 = some ([(.int .i64 0),(.int .i64 0),(.int .i64 0),(.int .i64 0)]) ∧ zbL Tryz.prog 175 = some ((.agg [(.int .i64 0),(.int .i64 0),(.int .i64 0),(.int .i64 0)])) ∧ zbP Tryz.prog 175 = none:=by and_intros <;> kernel_rfl
theorem ly178:zcv Tryz.prog 178 = some (1) ∧ zbA Tryz.prog 178 = some (false) ∧ bytesOf? Tryz.prog 178 = some (8) ∧ za8 Tryz.prog 178 = false ∧ zcm Tryz.prog 178 = none ∧ zbG Tryz.prog 178 = none ∧ zbQ Tryz.prog 178 = none ∧ intOf? Tryz.prog 178 = none ∧ za7 Tryz.prog 178 = none ∧ zaY Tryz.prog 178 = none ∧ mapOf? Tryz.prog 178 = none ∧ zaH Tryz.prog 178 = none ∧ za1 Tryz.prog 178 = some ([.nilp]) ∧ zbL Tryz.prog 178 = some (.nilp) ∧ zbP Tryz.prog 178 = none:=by and_intros <;> kernel_rfl
theorem ly188:zcv Tryz.prog 188 = some (10) ∧ zbA Tryz.prog 188 = some (true) ∧ bytesOf? Tryz.prog 188 = some (10) ∧ za8 Tryz.prog 188 = false ∧ zcm Tryz.prog 188 = none ∧ zbG Tryz.prog 188 = some ((10,1)) ∧ zbQ Tryz.prog 188 = some (4) ∧ intOf? Tryz.prog 188 = none ∧ za7 Tryz.prog 188 = none ∧ zaY Tryz.prog 188 = none ∧ mapOf? Tryz.prog 188 = none ∧ zaH Tryz.prog 188 = none ∧ za1 Tryz.prog 188 = some ([(.bool false),(.bool false),(.bool false),(.bool false),(.bool false),(.bool false),(.bool false),(.bool false),(.bool false),(.bool false)]) ∧ zbL Tryz.prog 188 = some ((.agg [(.bool false),(.bool false),(.bool false),(.bool false),(.bool false),(.bool false),(.bool false),(.bool false),(.bool false),(.bool false)])) ∧ zbP Tryz.prog 188 = some (10):=by and_intros <;> kernel_rfl
theorem ly192:zcv Tryz.prog 192 = some (2) ∧ zbA Tryz.prog 192 = some (true) ∧ bytesOf? Tryz.prog 192 = some (16) ∧ za8 Tryz.prog 192 = false ∧ zcm Tryz.prog 192 = none ∧ zbG Tryz.prog 192 = none ∧ zbQ Tryz.prog 192 = none ∧ intOf? Tryz.prog 192 = none ∧ zaY Tryz.prog 192 = some (2) ∧ mapOf? Tryz.prog 192 = none ∧ zaH Tryz.prog 192 = some ([(0,1),(1,1)]) ∧ za1 Tryz.prog 192 = some ([(.int .i64 0),(.int .i64 0)]) ∧ zbL Tryz.prog 192 = some ((.agg [(.int .i64 0),(.int .i64 0)])) ∧ zbP Tryz.prog 192 = none:=by and_intros <;> kernel_rfl
theorem ly196:zcv Tryz.prog 196 = some (1) ∧ zbA Tryz.prog 196 = some (false) ∧ bytesOf? Tryz.prog 196 = some (8) ∧ za8 Tryz.prog 196 = false ∧ zcm Tryz.prog 196 = none ∧ zbG Tryz.prog 196 = none ∧ zbQ Tryz.prog 196 = none ∧ intOf? Tryz.prog 196 = none ∧ za7 Tryz.prog 196 = none ∧ zaY Tryz.prog 196 = none ∧ mapOf? Tryz.prog 196 = none ∧ zaH Tryz.prog 196 = none ∧ za1 Tryz.prog 196 = some ([.nilf]) ∧ zbL Tryz.prog 196 = some (.nilf) ∧ zbP Tryz.prog 196 = none:=by and_intros <;> kernel_rfl
theorem ly200:zcv Tryz.prog 200 = some (1) ∧ zbA Tryz.prog 200 = some (false) ∧ bytesOf? Tryz.prog 200 = some (8) ∧ za8 Tryz.prog 200 = false ∧ zcm Tryz.prog 200 = none ∧ zbG Tryz.prog 200 = none ∧ zbQ Tryz.prog 200 = none ∧ intOf? Tryz.prog 200 = none ∧ za7 Tryz.prog 200 = none ∧ zaY Tryz.prog 200 = none ∧ mapOf? Tryz.prog 200 = some ((192,4)) ∧ zaH Tryz.prog 200 = none ∧ za1 Tryz.prog 200 = some ([.undef]) ∧ zbL Tryz.prog 200 = some (.undef) ∧ zbP Tryz.prog 200 = none:=by and_intros <;> kernel_rfl
theorem ly205:zcv Tryz.prog 205 = some (1) ∧ zbA Tryz.prog 205 = some (false) ∧ bytesOf? Tryz.prog 205 = some (8) ∧ za8 Tryz.prog 205 = false ∧ zcm Tryz.prog 205 = none ∧ zbG Tryz.prog 205 = none ∧ zbQ Tryz.prog 205 = none ∧ intOf? Tryz.prog 205 = none ∧ za7 Tryz.prog 205 = none ∧ zaY Tryz.prog 205 = none ∧ mapOf? Tryz.prog 205 = none ∧ zaH Tryz.prog 205 = none ∧ za1 Tryz.prog 205 = some ([.nilf]) ∧ zbL Tryz.prog 205 = some (.nilf) ∧ zbP Tryz.prog 205 = none:=by and_intros <;> kernel_rfl
theorem ly207:zcv Tryz.prog 207 = some (1) ∧ zbA Tryz.prog 207 = some (false) ∧ bytesOf? Tryz.prog 207 = some (8) ∧ za8 Tryz.prog 207 = false ∧ zcm Tryz.prog 207 = none ∧ zbG Tryz.prog 207 = none ∧ zbQ Tryz.prog 207 = none ∧ intOf? Tryz.prog 207 = none ∧ za7 Tryz.prog 207 = none ∧ zaY Tryz.prog 207 = none ∧ mapOf? Tryz.prog 207 = none ∧ zaH Tryz.prog 207 = none ∧ za1 Tryz.prog 207 = some ([.nilf]) ∧ zbL Tryz.prog 207 = some (.nilf) ∧ zbP Tryz.prog 207 = none:=by and_intros <;> kernel_rfl
theorem ly215:zcv Tryz.prog 215 = some (1) ∧ zbA Tryz.prog 215 = some (false) ∧ bytesOf? Tryz.prog 215 = some (8) ∧ za8 Tryz.prog 215 = false ∧ zcm Tryz.prog 215 = none ∧ zbG Tryz.prog 215 = none ∧ zbQ Tryz.prog 215 = none ∧ intOf? Tryz.prog 215 = none ∧ za7 Tryz.prog 215 = none ∧ zaY Tryz.prog 215 = none ∧ mapOf? Tryz.prog 215 = some ((220,4)) ∧ zaH Tryz.prog 215 = none ∧ za1 Tryz.prog 215 = some ([.undef]) ∧ zbL Tryz.prog 215 = some (.undef) ∧ zbP Tryz.prog 215 = none:=by and_intros <;> kernel_rfl
theorem ly216:zcv Tryz.prog 216 = some (1) ∧ zbA Tryz.prog 216 = some (false) ∧ bytesOf? Tryz.prog 216 = some (24) ∧ za8 Tryz.prog 216 = false ∧ zcm Tryz.prog 216 = some ((169,10)) ∧ zbG Tryz.prog 216 = none ∧ zbQ Tryz.prog 216 = none ∧ intOf? Tryz.prog 216 = none ∧ za7 Tryz.prog 216 = none ∧ zaY Tryz.prog 216 = none ∧ mapOf? Tryz.prog 216 = none ∧ zaH Tryz.prog 216 = none ∧ za1 Tryz.prog 216 = some ([(.sl [] .full)]) ∧ zbL Tryz.prog 216 = some ((.sl [] .full)) ∧ zbP Tryz.prog 216 = none:=by and_intros <;> kernel_rfl
theorem ly218:zcv Tryz.prog 218 = some (7) ∧ zbA Tryz.prog 218 = some (true) ∧ bytesOf? Tryz.prog 218 = some (120) ∧ za8 Tryz.prog 218 = false ∧ zcm Tryz.prog 218 = none ∧ zbG Tryz.prog 218 = none ∧ zbQ Tryz.prog 218 = none ∧ intOf? Tryz.prog 218 = none ∧ za7 Tryz.prog 218 = none ∧ zaY Tryz.prog 218 = none ∧ mapOf? Tryz.prog 218 = none ∧ zaH Tryz.prog 218 = some ([(0,5),(5,1),(6,1)]) ∧ za1 Tryz.prog 218 = some ([(.int .i64 0),(.sl [] .full),(.int .i64 0),(.sl [] .full),(.sl [] .full),(.sl [] .full),.undef]) ∧ zbL Tryz.prog 218 = some ((.agg [(.int .i64 0),(.sl [] .full),(.int .i64 0),(.sl [] .full),(.sl [] .full),(.sl [] .full),.undef])) ∧ zbP Tryz.prog 218 = none:=by and_intros <;> kernel_rfl
theorem ly220:zcv Tryz.prog 220 = some (2) ∧ zbA Tryz.prog 220 = some (true) ∧ bytesOf? Tryz.prog 220 = some (16) ∧ za8 Tryz.prog 220 = false ∧ zcm Tryz.prog 220 = none ∧ zbG Tryz.prog 220 = none ∧ zbQ Tryz.prog 220 = none ∧ intOf? Tryz.prog 220 = none ∧ zaY Tryz.prog 220 = some (2) ∧ mapOf? Tryz.prog 220 = none ∧ zaH Tryz.prog 220 = some ([(0,1),(1,1)]) ∧ za1 Tryz.prog 220 = some ([(.int .i64 0),(.int .i64 0)]) ∧ zbL Tryz.prog 220 = some ((.agg [(.int .i64 0),(.int .i64 0)])) ∧ zbP Tryz.prog 220 = none:=by and_intros <;> kernel_rfl
theorem ly229:zcv Tryz.prog 229 = some (1) ∧ zbA Tryz.prog 229 = some (false) ∧ bytesOf? Tryz.prog 229 = some (8) ∧ za8 Tryz.prog 229 = false ∧ zcm Tryz.prog 229 = none ∧ zbG Tryz.prog 229 = none ∧ zbQ Tryz.prog 229 = none ∧ intOf? Tryz.prog 229 = none ∧ za7 Tryz.prog 229 = none ∧ zaY Tryz.prog 229 = none ∧ mapOf? Tryz.prog 229 = none ∧ zaH Tryz.prog 229 = none ∧ za1 Tryz.prog 229 = some ([.nilf]) ∧ zbL Tryz.prog 229 = some (.nilf) ∧ zbP Tryz.prog 229 = none:=by and_intros <;> kernel_rfl
attribute [go_sem] ly0 ly1 ly2 ly3 ly4 ly5 ly22 ly23 ly24 ly26 ly27 ly28 ly30 ly32 ly33 ly34 ly37 ly38 ly40 ly41 ly42 ly44 ly53 ly55 ly61 ly64 ly68 ly88 ly91 ly93 ly95 ly96 ly97 ly108 ly113 ly117 ly128 ly130 ly137 ly138 ly145 ly148 ly149 ly151 ly158 ly160 ly162 ly164 ly169 ly175 ly178 ly188 ly192 ly196 ly200 ly205 ly207 ly215 ly216 ly218 ly220 ly229
theorem fl_26_0:zbT Tryz.prog 26 0 = some ((0,3)):=by kernel_rfl
theorem of_26_0:zbS Tryz.prog 26 0 = some (0):=by kernel_rfl
theorem fl_26_1:zbT Tryz.prog 26 1 = some ((1,22)):=by kernel_rfl
theorem of_26_1:zbS Tryz.prog 26 1 = some (1):=by kernel_rfl
theorem fl_26_2:zbT Tryz.prog 26 2 = some ((2,3)):=by kernel_rfl
theorem of_26_2:zbS Tryz.prog 26 2 = some (2):=by kernel_rfl
theorem fl_26_3:zbT Tryz.prog 26 3 = some ((3,23)):=by kernel_rfl
theorem of_26_3:zbS Tryz.prog 26 3 = some (3):=by kernel_rfl
theorem fl_26_4:zbT Tryz.prog 26 4 = some ((4,24)):=by kernel_rfl
theorem of_26_4:zbS Tryz.prog 26 4 = some (4):=by kernel_rfl
theorem fl_30_0:zbT Tryz.prog 30 0 = some ((0,26)):=by kernel_rfl
theorem of_30_0:zbS Tryz.prog 30 0 = some (0):=by kernel_rfl
theorem fl_30_1:zbT Tryz.prog 30 1 = some ((5,3)):=by kernel_rfl
theorem of_30_1:zbS Tryz.prog 30 1 = some (5):=by kernel_rfl
theorem fl_30_2:zbT Tryz.prog 30 2 = some ((6,27)):=by kernel_rfl
theorem of_30_2:zbS Tryz.prog 30 2 = some (6):=by kernel_rfl
theorem fl_30_3:zbT Tryz.prog 30 3 = some ((7,23)):=by kernel_rfl
theorem of_30_3:zbS Tryz.prog 30 3 = some (7):=by kernel_rfl
theorem fl_30_4:zbT Tryz.prog 30 4 = some ((8,28)):=by kernel_rfl
theorem of_30_4:zbS Tryz.prog 30 4 = some (8):=by kernel_rfl
theorem fl_40_0:zbT Tryz.prog 40 0 = some ((0,3)):=by kernel_rfl
theorem of_40_0:zbS Tryz.prog 40 0 = some (0):=by kernel_rfl
theorem fl_40_1:zbT Tryz.prog 40 1 = some ((1,37)):=by kernel_rfl
theorem of_40_1:zbS Tryz.prog 40 1 = some (1):=by kernel_rfl
theorem fl_40_2:zbT Tryz.prog 40 2 = some ((2,3)):=by kernel_rfl
theorem of_40_2:zbS Tryz.prog 40 2 = some (2):=by kernel_rfl
theorem fl_40_3:zbT Tryz.prog 40 3 = some ((3,23)):=by kernel_rfl
theorem of_40_3:zbS Tryz.prog 40 3 = some (3):=by kernel_rfl
theorem fl_40_4:zbT Tryz.prog 40 4 = some ((4,38)):=by kernel_rfl
theorem of_40_4:zbS Tryz.prog 40 4 = some (4):=by kernel_rfl
theorem fl_44_0:zbT Tryz.prog 44 0 = some ((0,40)):=by kernel_rfl
theorem of_44_0:zbS Tryz.prog 44 0 = some (0):=by kernel_rfl
theorem fl_44_1:zbT Tryz.prog 44 1 = some ((5,3)):=by kernel_rfl
theorem of_44_1:zbS Tryz.prog 44 1 = some (5):=by kernel_rfl
theorem fl_44_2:zbT Tryz.prog 44 2 = some ((6,41)):=by kernel_rfl
theorem of_44_2:zbS Tryz.prog 44 2 = some (6):=by kernel_rfl
theorem fl_44_3:zbT Tryz.prog 44 3 = some ((7,23)):=by kernel_rfl
theorem of_44_3:zbS Tryz.prog 44 3 = some (7):=by kernel_rfl
theorem fl_44_4:zbT Tryz.prog 44 4 = some ((8,42)):=by kernel_rfl
theorem of_44_4:zbS Tryz.prog 44 4 = some (8):=by kernel_rfl
theorem fl_53_0:zbT Tryz.prog 53 0 = some ((0,3)):=by kernel_rfl
theorem of_53_0:zbS Tryz.prog 53 0 = some (0):=by kernel_rfl
theorem fl_53_1:zbT Tryz.prog 53 1 = some ((1,3)):=by kernel_rfl
theorem of_53_1:zbS Tryz.prog 53 1 = some (1):=by kernel_rfl
theorem fl_53_2:zbT Tryz.prog 53 2 = some ((2,23)):=by kernel_rfl
theorem of_53_2:zbS Tryz.prog 53 2 = some (2):=by kernel_rfl
theorem fl_55_0:zbT Tryz.prog 55 0 = some ((0,3)):=by kernel_rfl
theorem of_55_0:zbS Tryz.prog 55 0 = some (0):=by kernel_rfl
theorem fl_55_1:zbT Tryz.prog 55 1 = some ((1,3)):=by kernel_rfl
theorem of_55_1:zbS Tryz.prog 55 1 = some (1):=by kernel_rfl
theorem fl_55_2:zbT Tryz.prog 55 2 = some ((2,23)):=by kernel_rfl
theorem of_55_2:zbS Tryz.prog 55 2 = some (2):=by kernel_rfl
theorem fl_61_0:zbT Tryz.prog 61 0 = some ((0,3)):=by kernel_rfl
theorem of_61_0:zbS Tryz.prog 61 0 = some (0):=by kernel_rfl
theorem fl_61_1:zbT Tryz.prog 61 1 = some ((1,3)):=by kernel_rfl
theorem of_61_1:zbS Tryz.prog 61 1 = some (1):=by kernel_rfl
theorem fl_68_0:zbT Tryz.prog 68 0 = some ((0,3)):=by kernel_rfl
theorem of_68_0:zbS Tryz.prog 68 0 = some (0):=by kernel_rfl
theorem fl_68_1:zbT Tryz.prog 68 1 = some ((1,3)):=by kernel_rfl
theorem of_68_1:zbS Tryz.prog 68 1 = some (1):=by kernel_rfl
theorem fl_88_0:zbT Tryz.prog 88 0 = some ((0,3)):=by kernel_rfl
theorem of_88_0:zbS Tryz.prog 88 0 = some (0):=by kernel_rfl
theorem fl_88_1:zbT Tryz.prog 88 1 = some ((1,3)):=by kernel_rfl
theorem of_88_1:zbS Tryz.prog 88 1 = some (1):=by kernel_rfl
theorem fl_91_0:zbT Tryz.prog 91 0 = some ((0,3)):=by kernel_rfl
theorem of_91_0:zbS Tryz.prog 91 0 = some (0):=by kernel_rfl
theorem fl_91_1:zbT Tryz.prog 91 1 = some ((1,3)):=by kernel_rfl
theorem of_91_1:zbS Tryz.prog 91 1 = some (1):=by kernel_rfl
theorem fl_91_2:zbT Tryz.prog 91 2 = some ((2,88)):=by kernel_rfl
theorem of_91_2:zbS Tryz.prog 91 2 = some (2):=by kernel_rfl
theorem fl_93_0:zbT Tryz.prog 93 0 = some ((0,3)):=by kernel_rfl
theorem of_93_0:zbS Tryz.prog 93 0 = some (0):=by kernel_rfl
theorem fl_93_1:zbT Tryz.prog 93 1 = some ((1,3)):=by kernel_rfl
theorem of_93_1:zbS Tryz.prog 93 1 = some (1):=by kernel_rfl
theorem fl_93_2:zbT Tryz.prog 93 2 = some ((2,3)):=by kernel_rfl
theorem of_93_2:zbS Tryz.prog 93 2 = some (2):=by kernel_rfl
theorem fl_95_0:zbT Tryz.prog 95 0 = some ((0,3)):=by kernel_rfl
theorem of_95_0:zbS Tryz.prog 95 0 = some (0):=by kernel_rfl
theorem fl_95_1:zbT Tryz.prog 95 1 = some ((1,3)):=by kernel_rfl
theorem of_95_1:zbS Tryz.prog 95 1 = some (1):=by kernel_rfl
theorem fl_108_0:zbT Tryz.prog 108 0 = some ((0,3)):=by kernel_rfl
theorem of_108_0:zbS Tryz.prog 108 0 = some (0):=by kernel_rfl
theorem fl_108_1:zbT Tryz.prog 108 1 = some ((1,3)):=by kernel_rfl
theorem of_108_1:zbS Tryz.prog 108 1 = some (1):=by kernel_rfl
theorem fl_108_2:zbT Tryz.prog 108 2 = some ((2,3)):=by kernel_rfl
theorem of_108_2:zbS Tryz.prog 108 2 = some (2):=by kernel_rfl
theorem fl_113_0:zbT Tryz.prog 113 0 = some ((0,3)):=by kernel_rfl
theorem of_113_0:zbS Tryz.prog 113 0 = some (0):=by kernel_rfl
theorem fl_113_1:zbT Tryz.prog 113 1 = some ((1,3)):=by kernel_rfl
theorem of_113_1:zbS Tryz.prog 113 1 = some (1):=by kernel_rfl
theorem fl_130_0:zbT Tryz.prog 130 0 = some ((0,23)):=by kernel_rfl
theorem of_130_0:zbS Tryz.prog 130 0 = some (0):=by kernel_rfl
theorem fl_130_1:zbT Tryz.prog 130 1 = some ((1,128)):=by kernel_rfl
theorem of_130_1:zbS Tryz.prog 130 1 = some (1):=by kernel_rfl
theorem fl_151_0:zbT Tryz.prog 151 0 = some ((0,149)):=by kernel_rfl
theorem of_151_0:zbS Tryz.prog 151 0 = some (0):=by kernel_rfl
theorem fl_162_0:zbT Tryz.prog 162 0 = some ((0,44)):=by kernel_rfl
theorem of_162_0:zbS Tryz.prog 162 0 = some (0):=by kernel_rfl
theorem fl_162_1:zbT Tryz.prog 162 1 = some ((9,160)):=by kernel_rfl
theorem of_162_1:zbS Tryz.prog 162 1 = some (9):=by kernel_rfl
theorem fl_175_0:zbT Tryz.prog 175 0 = some ((0,3)):=by kernel_rfl
theorem of_175_0:zbS Tryz.prog 175 0 = some (0):=by kernel_rfl
theorem fl_175_1:zbT Tryz.prog 175 1 = some ((1,3)):=by kernel_rfl
theorem of_175_1:zbS Tryz.prog 175 1 = some (1):=by kernel_rfl
theorem fl_175_2:zbT Tryz.prog 175 2 = some ((2,68)):=by kernel_rfl
theorem of_175_2:zbS Tryz.prog 175 2 = some (2):=by kernel_rfl
theorem ek_192:za7 Tryz.prog 192 = some (2):=by kernel_rfl
theorem fl_192_0:zbT Tryz.prog 192 0 = some ((0,3)):=by kernel_rfl
theorem of_192_0:zbS Tryz.prog 192 0 = some (0):=by kernel_rfl
theorem fl_192_1:zbT Tryz.prog 192 1 = some ((1,3)):=by kernel_rfl
theorem of_192_1:zbS Tryz.prog 192 1 = some (1):=by kernel_rfl
theorem fl_218_0:zbT Tryz.prog 218 0 = some ((0,40)):=by kernel_rfl
theorem of_218_0:zbS Tryz.prog 218 0 = some (0):=by kernel_rfl
theorem fl_218_1:zbT Tryz.prog 218 1 = some ((5,216)):=by kernel_rfl
theorem of_218_1:zbS Tryz.prog 218 1 = some (5):=by kernel_rfl
theorem fl_218_2:zbT Tryz.prog 218 2 = some ((6,215)):=by kernel_rfl
theorem of_218_2:zbS Tryz.prog 218 2 = some (6):=by kernel_rfl
theorem ek_220:za7 Tryz.prog 220 = some (2):=by kernel_rfl
theorem fl_220_0:zbT Tryz.prog 220 0 = some ((0,3)):=by kernel_rfl
theorem of_220_0:zbS Tryz.prog 220 0 = some (0):=by kernel_rfl
theorem fl_220_1:zbT Tryz.prog 220 1 = some ((1,3)):=by kernel_rfl
theorem of_220_1:zbS Tryz.prog 220 1 = some (1):=by kernel_rfl
attribute [go_sem] fl_26_0 of_26_0 fl_26_1 of_26_1 fl_26_2 of_26_2 fl_26_3 of_26_3 fl_26_4 of_26_4 fl_30_0 of_30_0 fl_30_1 of_30_1 fl_30_2 of_30_2 fl_30_3 of_30_3 fl_30_4 of_30_4 fl_40_0 of_40_0 fl_40_1 of_40_1 fl_40_2 of_40_2 fl_40_3 of_40_3 fl_40_4 of_40_4 fl_44_0 of_44_0 fl_44_1 of_44_1 fl_44_2 of_44_2 fl_44_3 of_44_3 fl_44_4 of_44_4 fl_53_0 of_53_0 fl_53_1 of_53_1 fl_53_2 of_53_2 fl_55_0 of_55_0 fl_55_1 of_55_1 fl_55_2 of_55_2 fl_61_0 of_61_0 fl_61_1 of_61_1 fl_68_0 of_68_0 fl_68_1 of_68_1 fl_88_0 of_88_0 fl_88_1 of_88_1 fl_91_0 of_91_0 fl_91_1 of_91_1 fl_91_2 of_91_2 fl_93_0 of_93_0 fl_93_1 of_93_1 fl_93_2 of_93_2 fl_95_0 of_95_0 fl_95_1 of_95_1 fl_108_0 of_108_0 fl_108_1 of_108_1 fl_108_2 of_108_2 fl_113_0 of_113_0 fl_113_1 of_113_1 fl_130_0 of_130_0 fl_130_1 of_130_1 fl_151_0 of_151_0 fl_162_0 of_162_0 fl_162_1 of_162_1 fl_175_0 of_175_0 fl_175_1 of_175_1 fl_175_2 of_175_2 ek_192 fl_192_0 of_192_0 fl_192_1 of_192_1 fl_218_0 of_218_0 fl_218_1 of_218_1 fl_218_2 of_218_2 ek_220 fl_220_0 of_220_0 fl_220_1 of_220_1
set_option maxHeartbeats 1000000
def P0:zaL:=zrk
theorem P0_app (g:FuncId):P0 g = none:=rfl
theorem P0_ok:zaC Tryz.prog P0:=zvb _
theorem P0_flag (d:Option Nat):zaI P0 d = none:=zlq d
attribute [go_sem] P0_app P0_flag
def inB (n lo hi:Int):Bool:=decide (lo ≤ n) && decide (n ≤ hi)
theorem In_call (n lo hi:Int):zaQ Tryz.prog 35 [Enc.enc n,Enc.enc lo,Enc.enc hi] (· = Enc.enc (inB n lo hi)):=by
 simp only [zcz]
 refine cpz P0_ok Tryz.func35 zaD ?_
 rw [Tryz.ntmps35]
 simp only [Tryz.f35,zag,zap]
 simp (maxSteps:=4000000) only [go_sem,AV.one,zae,zac,zad,zaq,zas,zab,czb,cza,↓reduceIte]
 grind [inB]
theorem Size_call (r:Rg) (h1:InR .i64 (r.hi - r.lo)) (h2:InR .i64 (r.hi - r.lo + 1)):zaQ Tryz.prog 121 [Enc.enc r] (· = Enc.enc (r.hi - r.lo + 1)):=by
 simp only [zcz]
 refine cpz P0_ok Tryz.func121 zaD ?_
 rw [Tryz.ntmps121]
 simp only [Tryz.f121,zag,zap]
 simp (maxSteps:=4000000) only [go_sem,AV.one,zae,zac,zad,zaq,zas,zab,czb,cza,↓reduceIte]
 exact ⟨h1,h2⟩
def zbn (r:Rg):Bool:=decide (0 ≤ r.lo) && decide (r.lo ≤ r.hi) && decide (r.hi ≤ 99)
theorem zlw (r:Rg):zaQ Tryz.prog 120 [Enc.enc r] (· = Enc.enc (zbn r)):=by
 simp only [zcz]
 refine cpz P0_ok Tryz.func120 zaD ?_
 rw [Tryz.ntmps120]
 simp only [Tryz.f120,zag,zap]
 simp (maxSteps:=4000000) only [go_sem,AV.one,zae,zac,zad,zaq,zas,zab,czb,cza,↓reduceIte]
 grind [zbn]
def P1 (g:FuncId):=(zaw 35 (zd1 (fun _ _ _ => True) inB) (zaw 121 (zct (fun r:Rg => InR .i64 (r.hi - r.lo) ∧ InR .i64 (r.hi - r.lo + 1)) (fun r => r.hi - r.lo + 1)) (zaw 120 (zct (fun _ => True) zbn) (P0))):zaL) g
theorem P1_ok:zaC Tryz.prog P1:=zaj (zbY fun a b c _ => In_call a b c) (zaj (zbf fun a h => Size_call a h.1 h.2) (zaj (zbf fun a _ => zlw a) (P0_ok)))
theorem P1_flag (d:Option Nat):zaI P1 d = none:=(zai (by decide) d).trans ((zai (by decide) d).trans ((zai (by decide) d).trans (P0_flag d)))
attribute [go_sem] P1 P1_flag
def zc8 (l:List Rg):Int:=l.foldl (fun n r => min 3000 (n * (r.hi - r.lo + 1))) 1
theorem zth (l:List Rg) (h:∀ r ∈ l,0 ≤ r.hi - r.lo ∧ r.hi - r.lo ≤ 99) (n:Int) (hn:0 ≤ n ∧ n ≤ 3000):0 ≤ l.foldl (fun n r => min 3000 (n * (r.hi - r.lo + 1))) n ∧ l.foldl (fun n r => min 3000 (n * (r.hi - r.lo + 1))) n ≤ 3000:=by
 induction l generalizing n with
 | nil => exact hn
 | cons r l ih =>
  have hr:=h r (by simp)
  have:0 ≤ n * (r.hi - r.lo + 1):=Int.mul_nonneg hn.1 (by omega)
  refine ih (fun r hr => h r (by simp [hr])) _ ?_
  dsimp only
  omega
theorem zvf (l:List Rg) (i:Nat) (hi:i < l.length):zc8 (l.take (i + 1)) = min 3000 (zc8 (l.take i) * ((at_ l i).hi - (at_ l i).lo + 1)):=by
 unfold zc8; rw [zaW hi,List.foldl_append]; rfl
theorem zbh {α:Type} [Inhabited α] {l:List α} {i:Nat} (h:i < l.length):at_ l i ∈ l:=by rw [zdm h]; exact List.getElem_mem h
theorem zsU {α:Type} {l:List α} {i:Nat} {P:α → Prop} (h:∀ x ∈ l,P x):∀ x ∈ l.take i,P x:=fun x hx => h x (List.mem_of_mem_take hx)
theorem Many_call (t:Tb) (h:t.heights.length ≤ 4096 ∧ ∀ r ∈ t.heights,0 ≤ r.hi - r.lo ∧ r.hi - r.lo ≤ 99):zaQ Tryz.prog 67 [Enc.enc t] (· = Enc.enc (zc8 t.heights)):=by
 simp only [zcz]
 refine cpz P1_ok Tryz.func67 zaD ?_
 rw [Tryz.ntmps67]
 simp only [Tryz.f67,zag,zap]
 simp (maxSteps:=4000000) only [go_sem,AV.one,zae,zac,zad,zaq,zas,zab,czb,cza,↓reduceIte]
 refine zbv (t.heights.length) [] [1,2] (fun i => [(4,.int .i64 i),(3,.int .i64 (zc8 (t.heights.take i)))]) (fun _ m => m) (fun _ => True) ?_ ?_ ?_ ?_
 ·trivial
 ·simp [AV.bare,zal,zaN,zaS,zak,zat,zah,tokz1,lk,zab,zcW,zc8]
 ·intro i hi _
  have hr:=h.2 _ (zbh hi)
  have hb:=zth _ (zsU (i:=i) h.2) 1 (by omega)
  have hm:0 ≤ zc8 (t.heights.take i) * ((at_ t.heights i).hi - (at_ t.heights i).lo + 1) ∧ zc8 (t.heights.take i) * ((at_ t.heights i).hi - (at_ t.heights i).lo + 1) ≤ 3000 * 100 :=
   ⟨Int.mul_nonneg hb.1 (by omega),Int.mul_le_mul hb.2 (by omega) (by omega) (by omega)⟩
  simp only [go_sem,AV.one,zae,zac,zad,zaq,zas,zab,czb,cza,↓reduceIte,zax hi,czH.2 hi]
  refine ⟨by omega,⟨?_,?_⟩,?_,?_,nxt hi trivial ?_⟩
  ·simp only [InR]; omega
  ·simp only [InR]; omega
  ·simp only [InR]; omega
  ·simp only [InR]; omega
  ·simp [AV.bare,zal,zaN,zaS,zak,zat,zah,tokz1,lk,zab,zcW,zvf _ _ hi]
 ·intro _
  simp only [go_sem,AV.one,zae,zac,zad,zaq,zas,zab,czb,cza,↓reduceIte,czm]
set_option maxRecDepth 8000
structure HOk (t:Tb):Prop where
 len:t.heights.length ≤ 10
 h:∀ r ∈ t.heights,0 ≤ r.lo ∧ r.lo ≤ r.hi ∧ r.hi ≤ 99
 s0:0 ≤ t.step
 s1:t.step ≤ 99
structure MOk (t:Tb):Prop where
 len:t.marks.length ≤ 7
 m:∀ m ∈ t.marks,0 ≤ m.frm ∧ m.frm ≤ m.til ∧ m.til < t.heights.length
structure LOk (l:List Int):Prop where
 len:l.length ≤ 4096
 b:∀ x ∈ l,0 ≤ x ∧ x ≤ 99
def P2 (g:FuncId):=(zaw 67 (zct HOk (fun t => zc8 t.heights)) (P1):zaL) g
theorem P2_ok:zaC Tryz.prog P2:=zaj (zbf fun t h => Many_call t ⟨by have:=h.len; omega,fun r hr => by have:=h.h r hr; omega⟩) (P1_ok)
theorem P2_flag (d:Option Nat):zaI P2 d = none:=(zai (by decide) d).trans (P1_flag d)
attribute [go_sem] P2 P2_flag
def zqp:List Int → Int
 | [] => 0
 | x :: r => r.foldl max x
theorem zow (l:List Int) (x:Int) (h:l ≠ []):zqp (l ++ [x]) = max (zqp l) x:=by
 cases l with
 | nil => exact absurd rfl h
 | cons y r => simp [zqp,List.foldl_append]
def zlE (l:List Int) (a b:Int):Int:=zqp ((l.drop a.toNat).take (b + 1 - a).toNat)
theorem zlr {α:Type} [Inhabited α] {l:List α} {a i:Nat} (h:a + i < l.length):(l.drop a).take (i + 1) = (l.drop a).take i ++ [at_ l (a + i)]:=by
 have:i < (l.drop a).length:=by simp; omega
 rw [zaW this]
 simp [at_,List.getD]
theorem topL_call (l:List Int) (a b:Int) (h0:0 ≤ a) (h:a ≤ b) (hb:b < l.length) (hl:l.length ≤ 4096):zaQ Tryz.prog 163 [Enc.enc l,Enc.enc a,Enc.enc b] (· = Enc.enc (zlE l a b)):=by
 obtain ⟨a,rfl⟩:=czu h0
 obtain ⟨b,rfl⟩:∃ k:Nat,b = a + k:=⟨(b - a).toNat,by omega⟩
 simp only [zcz]
 refine cpz P2_ok Tryz.func163 zaD ?_
 rw [Tryz.ntmps163]
 simp only [Tryz.f163,zag,zap]
 simp (maxSteps:=4000000) only [go_sem,AV.one,zae,zac,zad,zaq,zas,zab,czb,cza,↓reduceIte,zax (show a < l.length by omega)]
 refine ⟨by omega,?_⟩
 refine zbv (b + 1) [] [0,2,6] (fun i => [(8,.int .i64 ((a + i:Nat):Int)),(7,.int .i64 (if i = 0 then at_ l a else zqp ((l.drop a).take i)))]) (fun _ m => m) (fun _ => True) ?_ ?_ ?_ ?_
 ·trivial
 ·simp [AV.bare,zal,zaN,zaS,zak,zat,zah,tokz1,lk,zab,zcW]
 ·intro i hi _
  have hi':((a + i:Nat):Int) ≤ (a:Int) + (b:Int):=by omega
  simp only [go_sem,AV.one,zae,zac,zad,zaq,zas,zab,czb,cza,↓reduceIte,zax (show a + i < l.length by omega),hi']
  refine ⟨by omega,(by simp only [InR]; omega),nxt hi trivial ?_⟩
  have e:max (if i = 0 then at_ l a else zqp ((l.drop a).take i)) (at_ l (a + i)) = zqp ((l.drop a).take (i + 1)):=by
   rw [zlr (by omega)]
   by_cases h0:i = 0
   ·subst h0; simp [zqp]
   ·rw [if_neg h0,zow]
    intro q
    have:=congrArg List.length q
    simp at this
    omega
  simp [AV.bare,zal,zaN,zaS,zak,zat,zah,tokz1,lk,zab,zcW,e]
  omega
 ·intro _
  have hn:¬ (((a + (b + 1):Nat):Int) ≤ (a:Int) + (b:Int)):=by omega
  simp only [go_sem,AV.one,zae,zac,zad,zaq,zas,zab,czb,cza,↓reduceIte,hn]
  simp only [zlE,czF]
  rw [show ((a:Int) + b + 1 - a).toNat = b + 1 by omega]
def P3 (g:FuncId):=(zaw 163 (zd1 (fun (l:List Int) (a b:Int) => 0 ≤ a ∧ a ≤ b ∧ b < l.length ∧ l.length ≤ 4096) zlE) (P2):zaL) g
theorem P3_ok:zaC Tryz.prog P3:=zaj (zbY fun l a b h => topL_call l a b h.1 h.2.1 h.2.2.1 h.2.2.2) (P2_ok)
theorem P3_flag (d:Option Nat):zaI P3 d = none:=(zai (by decide) d).trans (P2_flag d)
attribute [go_sem] P3 P3_flag
def zdX (l:List Int) (m:Mk):Bool:=inB (zlE l m.frm m.til) m.top.lo m.top.hi
theorem zwy (l:List Int) (m:Mk) (h:(0 ≤ m.frm ∧ m.frm ≤ m.til ∧ m.til < l.length) ∧ l.length ≤ 4096):zaQ Tryz.prog 135 [Enc.enc l,Enc.enc m] (· = Enc.enc (zdX l m)):=by
 simp only [zcz]
 refine cpz P3_ok Tryz.func135 zaD ?_
 rw [Tryz.ntmps135]
 simp only [Tryz.f135,zag,zap]
 simp (maxSteps:=4000000) only [go_sem,AV.one,zae,zac,zad,zaq,zas,zab,czb,cza,↓reduceIte]
 exact ⟨rfl,⟨h.1.1,h.1.2.1,h.1.2.2,h.2⟩,rfl⟩
def zcE (s:Int):List Int → Bool
 | [] => true
 | [_] => true
 | x :: y :: r => (decide (y - x ≤ s) && decide (x - y ≤ s)) && zcE s (y :: r)
theorem zve (s:Int) (l:List Int) (y:Int) (h:l ≠ []):zcE s (l ++ [y]) = (zcE s l && (decide (y - l.getLast h ≤ s) && decide (l.getLast h - y ≤ s))):=by
 induction l with
 | nil => exact absurd rfl h
 | cons x l ih =>
  cases l with
  | nil => simp only [czs,List.nil_append,zcE,List.getLast_singleton,Bool.and_true,Bool.true_and]; rfl
  | cons z l =>
   have:=ih (by simp)
   simp only [czs] at this ⊢
   simp only [zcE,this,List.getLast_cons_cons,Bool.and_assoc]
   rfl
theorem zlV (s:Int) (l:List Int) (i:Nat) (h:i + 1 < l.length):zcE s (l.take (i + 1 + 1)) = (zcE s (l.take (i + 1)) && (decide (at_ l (i + 1) - at_ l i ≤ s) && decide (at_ l i - at_ l (i + 1) ≤ s))):=by
 have hn:l.take (i + 1) ≠ []:=by
  intro q
  have:=congrArg List.length q
  rw [czO,czy] at this
  omega
 rw [zaW h,zve _ _ _ hn]
 have:(l.take (i + 1)).getLast hn = at_ l i:=by
  rw [List.getLast_eq_getElem]
  simp [zdm (show i < l.length by omega),show min (i + 1) l.length - 1 = i by omega]
 rw [this]
theorem ziL (s:Int) (l:List Int):∀ i,zcE s l = true → zcE s (l.take i) = true:=by
 induction l with
 | nil => intro i _; simp [zcE]
 | cons x l ih =>
  intro i h
  cases i with
  | zero => simp [zcE]
  | succ i =>
   cases l with
   | nil => simp [zcE]
   | cons y l =>
    simp only [zcE,czl] at h
    cases i with
    | zero => simp [zcE]
    | succ i =>
     have:=ih (i + 1) h.2
     simp only [List.take_succ_cons,zcE,czl] at this ⊢
     exact ⟨h.1,this⟩
theorem Near_call (t:Tb) (l:List Int) (h:(0 ≤ t.step ∧ t.step ≤ 99) ∧ l.length ≤ 4096 ∧ ∀ x ∈ l,0 ≤ x ∧ x ≤ 99):zaQ Tryz.prog 87 [Enc.enc t,Enc.enc l] (· = Enc.enc (zcE t.step l)):=by
 simp only [zcz]
 refine cpz P3_ok Tryz.func87 zaD ?_
 rw [Tryz.ntmps87]
 simp only [Tryz.f87,zag,zap]
 simp (maxSteps:=4000000) only [go_sem,AV.one,zae,zac,zad,zaq,zas,zab,czb,cza,↓reduceIte]
 refine zbv (l.length - 1) [] [1,2,4] (fun i => [(5,.int .i64 ((i + 1:Nat):Int))]) (fun _ m => m) (fun i => zcE t.step (l.take (i + 1)) = true) ?_ ?_ ?_ ?_
 ·cases l with
  | nil => simp [zcE]
  | cons x l => simp [zcE]
 ·simp [AV.bare,zal,zaN,zaS,zak,zat,zah,tokz1,lk,zab,zcW]
 ·intro i hi hI
  have hi':((i + 1:Nat):Int) < (l.length:Int):=by omega
  have e1:((i + 1:Nat):Int) - 1 = (i:Int):=by omega
  have g1:=h.2.2 _ (zbh (show i < l.length by omega))
  have g2:=h.2.2 _ (zbh (show i + 1 < l.length by omega))
  have hs:=zlV t.step l i (by omega)
  cases c1:decide (t.step < at_ l (i + 1) - at_ l i) <;> cases c2:decide (t.step < at_ l i - at_ l (i + 1)) <;>
   simp only [go_sem,AV.one,zae,zac,zad,zaq,zas,zab,czb,cza,↓reduceIte,zax (show i + 1 < l.length by omega),zax (show i < l.length by omega),hi',e1,c1,c2]
  all_goals (repeat' first | (with_reducible first | rfl | apply And.intro | assumption) | ((with_reducible show zaf _ _ = true); rfl)) <;> try first | omega | (simp only [InR]; omega)
  ·refine nxt hi ?_ ?_
   ·rw [hs,hI]
    simp only [decide_eq_false_iff_not] at c1 c2
    simp; omega
   ·simp [AV.bare,zal,zaN,zaS,zak,zat,zah,tokz1,lk,zab,zcW]
  all_goals
   congr 1
   by_cases q:zcE t.step l = true
   ·have:=ziL t.step l (i + 1 + 1) q
    rw [hs] at this
    simp at this c1 c2
    omega
   ·simpa using q
 ·intro hI
  have hn:¬ ((l.length - 1 + 1:Nat):Int) < (l.length:Int):=by omega
  simp only [go_sem,AV.one,zae,zac,zad,zaq,zas,zab,czb,cza,↓reduceIte,hn]
  rw [← hI,cze (by omega)]
def szR (r:Rg):Int:=r.hi - r.lo + 1
def zh1:List Rg → Int → List Int
 | [],_ => []
 | r :: l,n => (r.lo + n % szR r) :: zh1 l (n / szR r)
def zwM (l:List Rg) (n:Int):Int:=l.foldl (fun n r => n / szR r) n
theorem nthL_snoc (l:List Rg) (r:Rg) (n:Int):zh1 (l ++ [r]) n = zh1 l n ++ [r.lo + zwM l n % szR r]:=by
 induction l generalizing n with
 | nil => rfl
 | cons x l ih => simp only [czs,zh1,ih]; rfl
theorem remL_snoc (l:List Rg) (r:Rg) (n:Int):zwM (l ++ [r]) n = zwM l n / szR r:=by simp [zwM,List.foldl_append]
theorem zd7 (l:List Rg) (n:Int):(zh1 l n).length = l.length:=by
 induction l generalizing n with
 | nil => rfl
 | cons r l ih => simp [zh1,ih]
theorem remL_bd (l:List Rg) (n:Int) (h:∀ r ∈ l,0 ≤ r.hi - r.lo) (hn:0 ≤ n):0 ≤ zwM l n ∧ zwM l n ≤ n:=by
 induction l generalizing n with
 | nil => exact ⟨hn,Int.le_refl _⟩
 | cons r l ih =>
  have hr:=h r (by simp)
  have h1:0 ≤ n / szR r:=Int.ediv_nonneg hn (by unfold szR; omega)
  have h2:n / szR r ≤ n:=Int.ediv_le_self _ hn
  have:=ih (n / szR r) (fun r hr => h r (by simp [hr])) h1
  show 0 ≤ zwM l (n / szR r) ∧ zwM l (n / szR r) ≤ n
  omega
theorem Nth_call (t:Tb) (n:Int) (h:(t.heights.length ≤ 4096 ∧ ∀ r ∈ t.heights,(0 ≤ r.hi - r.lo ∧ r.hi - r.lo ≤ 99) ∧ 0 ≤ r.lo ∧ r.lo ≤ 99) ∧ 0 ≤ n ∧ n ≤ 3000):zaQ Tryz.prog 113 [Enc.enc t,Enc.enc n] (· = Enc.enc (zh1 t.heights n)):=by
 simp only [zcz]
 refine cpz P3_ok Tryz.func113 zaD ?_
 rw [Tryz.ntmps113]
 simp only [Tryz.f113,zag,zap]
 simp (maxSteps:=4000000) only [go_sem,AV.one,zae,zac,zad,zaq,zas,zab,czb,cza,↓reduceIte]
 refine zbv (t.heights.length) [.slot 5 1] [2,4] (fun i => [(6,.int .i64 i),(5,.sl ((zh1 (t.heights.take i) n).map EncE.cs) (.own 1)),(1,.int .i64 (zwM (t.heights.take i) n))]) (fun i m => m.set 1 (.tok i 1)) (fun _ => True) ?_ ?_ ?_ ?_
 ·trivial
 ·simp [AV.bare,zal,zaN,zaS,zak,zat,zah,tokz1,lk,zab,zcW,zh1,zwM]
 ·intro i hi _
  have hi':=czH.2 hi
  have hr:=h.1.2 _ (zbh hi)
  have hb:=remL_bd _ n (zsU (i:=i) fun r hr => (h.1.2 r hr).1.1) h.2.1
  have hm:=Int.emod_lt_of_pos (zwM (t.heights.take i) n) (show 0 < (at_ t.heights i).hi - (at_ t.heights i).lo + 1 by omega)
  have hm':=Int.emod_nonneg (zwM (t.heights.take i) n) (show (at_ t.heights i).hi - (at_ t.heights i).lo + 1 ≠ 0 by omega)
  have hl:(zh1 (t.heights.take i) n).length = i:=by rw [zd7]; simp; omega
  simp only [go_sem,AV.one,zae,zac,zad,zaq,zas,zab,czb,cza,↓reduceIte,zax hi,hi',hl]
  all_goals (repeat' first | (with_reducible first | rfl | apply And.intro | assumption) | ((with_reducible show zaf _ _ = true); rfl)) <;> try first | omega | (simp only [InR]; omega)
  refine nxt hi trivial ?_
  simp [AV.bare,zal,zaN,zaS,zak,zat,zah,tokz1,lk,zab,zcW,zaW hi,nthL_snoc,remL_snoc,szR,zel,hl]
 ·intro _
  simp only [go_sem,AV.one,zae,zac,zad,zaq,zas,zab,czb,cza,↓reduceIte,czm]
def P4 (g:FuncId):=(zaw 135 (zbC (fun (l:List Int) (m:Mk) => (0 ≤ m.frm ∧ m.frm ≤ m.til ∧ m.til < l.length) ∧ l.length ≤ 4096) zdX) (zaw 87 (zbC (fun (t:Tb) (l:List Int) => (0 ≤ t.step ∧ t.step ≤ 99) ∧ LOk l) (fun t l => zcE t.step l)) (zaw 113 (zbC (fun (t:Tb) (n:Int) => HOk t ∧ 0 ≤ n ∧ n ≤ 3000) (fun t n => zh1 t.heights n)) (P3))):zaL) g
theorem P4_ok:zaC Tryz.prog P4:=zaj (zaM zwy) (zaj (zaM fun t l h => Near_call t l ⟨h.1,h.2.len,h.2.b⟩) (zaj (zaM fun t n h => Nth_call t n ⟨⟨by have:=h.1.len; omega,fun r hr => by have:=h.1.h r hr; omega⟩,h.2⟩) (P3_ok)))
theorem P4_flag (d:Option Nat):zaI P4 d = none:=(zai (by decide) d).trans ((zai (by decide) d).trans ((zai (by decide) d).trans (P3_flag d)))
attribute [go_sem] P4 P4_flag
theorem zed {α:Type} [Inhabited α] {l:List α} {p:α → Bool} {i:Nat} (h:i < l.length):(l.take (i + 1)).all p = ((l.take i).all p && p (at_ l i)):=by
 rw [zaW h,List.all_append]; simp
theorem zf5 {α:Type} [Inhabited α] {l:List α} {p:α → Bool} {i:Nat} (h:i < l.length) (hp:p (at_ l i) = false):l.all p = false:=by
 rw [List.all_eq_false]; exact ⟨_,zbh h,by simp [hp]⟩
theorem zhy {α:Type} [Inhabited α] {l:List α} {p:α → Bool} {i:Nat} (h:i < l.length):(l.take (i + 1)).filter p = (l.take i).filter p ++ (if p (at_ l i) then [at_ l i] else []):=by
 rw [zaW h,List.filter_append]
 cases c:p (at_ l i) <;> simp [List.filter,c]
theorem zrh (l:List Rg) (n:Int) (h:∀ r ∈ l,0 ≤ r.lo ∧ r.lo ≤ r.hi ∧ r.hi ≤ 99):∀ x ∈ zh1 l n,0 ≤ x ∧ x ≤ 99:=by
 induction l generalizing n with
 | nil => intro x hx; simp [zh1] at hx
 | cons r l ih =>
  intro x hx
  have hr:=h r (by simp)
  have h1:=Int.emod_lt_of_pos n (show 0 < szR r by unfold szR; omega)
  have h2:=Int.emod_nonneg n (show szR r ≠ 0 by unfold szR; omega)
  simp only [zh1,czn] at hx
  rcases hx with rfl | hx
  ·unfold szR at h1 h2 ⊢; omega
  ·exact ih _ (fun r hr => h r (by simp [hr])) x hx
theorem zm3 {t:Tb} (h:HOk t):0 ≤ zc8 t.heights ∧ zc8 t.heights ≤ 3000 :=
 zth _ (fun r hr => by have:=h.h r hr; omega) 1 (by omega)
def ze5 (t:Tb) (n:Nat):List (List Int):=((List.range n).map fun i:Nat => zh1 t.heights i).filter (zcE t.step)
def zcq (t:Tb):List (List Int):=ze5 t (zc8 t.heights).toNat
theorem zky (t:Tb) (n:Nat):ze5 t (n + 1) = ze5 t n ++ (if zcE t.step (zh1 t.heights n) then [zh1 t.heights n] else []):=by
 simp only [ze5,List.range_succ,List.map_append,List.filter_append,czb,List.map_nil]
 cases h:zcE t.step (zh1 t.heights n) <;> simp [List.filter,h]
theorem zlZ (t:Tb) (n:Nat):(ze5 t n).length ≤ n:=by
 have:=List.length_filter_le (zcE t.step) ((List.range n).map fun i:Nat => zh1 t.heights i)
 simpa [ze5] using this
theorem ziP {t:Tb} (h:HOk t):(zcq t).length ≤ 3000:=by
 have:=zlZ t (zc8 t.heights).toNat
 have:=zm3 h
 unfold zcq; omega
theorem zoJ {t:Tb} (h:HOk t):∀ l ∈ zcq t,l.length = t.heights.length ∧ LOk l:=fun l hl => by
 simp only [zcq,ze5,List.mem_filter,czx] at hl
 obtain ⟨⟨n,_,rfl⟩,_⟩:=hl
 have:=zd7 t.heights n
 have:=h.len
 exact ⟨zd7 _ _,by omega,zrh _ _ h.h⟩
theorem zwD (t:Tb) (h:HOk t):zaQ Tryz.prog 57 [Enc.enc t] (· = Enc.enc (zcq t)):=by
 have hm:=zm3 h
 have hl:=h.len
 have hs:=h.s0
 have hs':=h.s1
 simp only [zcz]
 refine cpz P4_ok Tryz.func57 zaD ?_
 rw [Tryz.ntmps57]
 simp only [Tryz.f57,zag,zap]
 simp (maxSteps:=4000000) only [go_sem,AV.one,zae,zac,zad,zaq,zas,zab,czb,cza,↓reduceIte]
 refine zbv ((zc8 t.heights).toNat) [.slot 3 1] [1,2] (fun i => [(4,.int .i64 i),(3,.sl ((ze5 t i).map EncE.cs) (.own 1))]) (fun i m => m.set 1 (.tok (ze5 t i).length 1)) (fun _ => True) ?_ ?_ ?_ ?_
 ·trivial
 ·simp [AV.bare,zal,zaN,zaS,zak,zat,zah,tokz1,lk,zab,zcW,ze5]
 ·intro i hi _
  have hi':(i:Int) < zc8 t.heights:=by omega
  have hn:=zd7 t.heights i
  have p3:LOk (zh1 t.heights (i:Int)):=⟨by omega,zrh _ _ h.h⟩
  have hll:=zlZ t i
  cases c:zcE t.step (zh1 t.heights i) <;>
   simp (maxSteps:=4000000) only [go_sem,AV.one,zae,zac,zad,zaq,zas,zab,czb,cza,↓reduceIte,hi',c]
  all_goals all_goals (repeat' first | (with_reducible first | rfl | apply And.intro | assumption) | ((with_reducible show zaf _ _ = true); rfl)) <;> try first | omega | (simp only [InR]; omega)
  all_goals
   refine nxt hi trivial ?_
   simp [AV.bare,zal,zaN,zaS,zak,zat,zah,tokz1,lk,zab,zcW,zky,c]
 ·intro _
  have hi':¬ (((zc8 t.heights).toNat:Nat):Int) < zc8 t.heights:=by omega
  simp (maxSteps:=4000000) only [go_sem,AV.one,zae,zac,zad,zaq,zas,zab,czb,cza,↓reduceIte,hi']
  all_goals (repeat' first | (with_reducible first | rfl | apply And.intro | assumption) | ((with_reducible show zaf _ _ = true); rfl)) <;> try first | omega | (simp only [InR]; omega)
  rfl
def P5 (g:FuncId):=(zaw 57 (zct HOk zcq) (P4):zaL) g
theorem P5_ok:zaC Tryz.prog P5:=zaj (zbf zwD) (P4_ok)
theorem P5_flag (d:Option Nat):zaI P5 d = none:=(zai (by decide) d).trans (P4_flag d)
attribute [go_sem] P5 P5_flag
theorem zek {α:Type} {l:List α} {p:α → Bool} (h:(l.take l.length).all p = true):l.all p = true:=by rwa [czm] at h
def zeW (last:Int) (m:Mk):Bool:=inB m.frm 0 last && inB m.til 0 last && decide (m.frm ≤ m.til) && zbn m.top
def zbp (t:Tb):Int :=
 if 9 < t.last ∨ 6 < t.levels.length ∨ 5 < t.marks.length then 3
 else if t.last < 0 ∨ (t.heights.length:Int) ≠ t.last + 1 ∨ inB t.step 0 99 = false then 1
 else if t.heights.all zbn = false then 1
 else if (t.levels.all fun n => inB n 0 99) = false then 1
 else if t.marks.all (zeW t.last) = false then 1
 else if 2000 < zc8 t.heights then 3
 else if zcq t = [] then 9 else 0
theorem zcQ (r:Rg):zbn r = true ↔ 0 ≤ r.lo ∧ r.lo ≤ r.hi ∧ r.hi ≤ 99:=by simp [zbn,and_assoc]
theorem zbJ (n lo hi:Int):inB n lo hi = true ↔ lo ≤ n ∧ n ≤ hi:=by simp [inB]
set_option maxHeartbeats 4000000 in
theorem zwH (t:Tb) (h:t.heights.length ≤ 4096):zaQ Tryz.prog 66 [Enc.enc t] (· = Enc.enc (zbp t)):=by
 unfold zbp
 simp only [zcz]
 refine cpz P5_ok Tryz.func66 zaD ?_
 rw [Tryz.ntmps66]
 simp only [Tryz.f66,zag,zap]
 simp (maxSteps:=4000000) only [go_sem,AV.one,zae,zac,zad,zaq,zas,zab,czb,cza,↓reduceIte]
 refine ⟨fun q => ?_,fun q => ⟨fun q2 => ?_,fun q2 => ?_,fun q2 => ?_⟩⟩
 ·rw [if_pos]
  simp at q
  rcases q with (q | q) | q
  ·exact .inl q
  ·exact .inr (.inl (by omega))
  ·exact .inr (.inr (by omega))
 ·simp at q q2
  refine ⟨by simpa using q2,(by simp only [InR]; omega)⟩
 all_goals
  have hno0:¬ (9 < t.last ∨ 6 < t.levels.length ∨ 5 < t.marks.length):=by simp at q; omega
  simp at q
  rw [if_neg hno0]
 ·simp at q2
  rw [if_pos (by rcases q2 with (q2 | q2) | q2 <;> simp [q2])]
 simp at q2
 obtain ⟨⟨c1,c2⟩,c3⟩:=q2
 have hst:=(zbJ _ _ _).1 c3
 have hno:¬ (t.last < 0 ∨ (t.heights.length:Int) ≠ t.last + 1 ∨ inB t.step 0 99 = false):=by
  rintro (q2 | q2 | q2)
  ·omega
  ·exact q2 c2
  ·simp [c3] at q2
 rw [if_neg hno]
 have hh:∀ i,i < t.heights.length → (i:Int) + 1 ≤ 4096:=fun i hi => by omega
 refine zbv (t.heights.length) [] [1,2] (fun i => [(3,.int .i64 i)]) (fun _ m => m) (fun i => (t.heights.take i).all zbn = true) ?_ ?_ ?_ ?_
 ·simp
 ·simp [AV.bare,zal,zaN,zaS,zak,zat,zah,tokz1,lk,zab,zcW]
 ·intro i hi hI
  have hi':=czH.2 hi
  cases c:zbn (at_ t.heights i) <;>
   simp (maxSteps:=4000000) only [go_sem,AV.one,zae,zac,zad,zaq,zas,zab,czb,cza,↓reduceIte,hi',zax hi,c]
  ·all_goals (repeat' first | (with_reducible first | rfl | apply And.intro | assumption) | ((with_reducible show zaf _ _ = true); rfl)) <;> try first | omega | (simp only [InR]; omega)
   rw [if_pos (zf5 hi c)]
  ·all_goals (repeat' first | (with_reducible first | rfl | apply And.intro | assumption) | ((with_reducible show zaf _ _ = true); rfl)) <;> try first | omega | (simp only [InR]; omega)
   refine nxt hi (by rw [zed hi,hI,c]; rfl) ?_
   simp [AV.bare,zal,zaN,zaS,zak,zat,zah,tokz1,lk,zab,zcW]
 intro hI
 have hI:=zek hI
 rw [if_neg (by simp [hI])]
 simp (maxSteps:=4000000) only [go_sem,AV.one,zae,zac,zad,zaq,zas,zab,czb,cza,↓reduceIte]
 refine zbv (t.levels.length) [] [1,2] (fun i => [(4,.int .i64 i)]) (fun _ m => m) (fun i => (t.levels.take i).all (fun n => inB n 0 99) = true) ?_ ?_ ?_ ?_
 ·simp
 ·simp [AV.bare,zal,zaN,zaS,zak,zat,zah,tokz1,lk,zab,zcW]
 ·intro i hi hI
  have hi':=czH.2 hi
  cases c:inB (at_ t.levels i) 0 99 <;>
   simp (maxSteps:=4000000) only [go_sem,AV.one,zae,zac,zad,zaq,zas,zab,czb,cza,↓reduceIte,hi',zax hi,c]
  ·all_goals (repeat' first | (with_reducible first | rfl | apply And.intro | assumption) | ((with_reducible show zaf _ _ = true); rfl)) <;> try first | omega | (simp only [InR]; omega)
   rw [if_pos (zf5 hi c)]
  ·all_goals (repeat' first | (with_reducible first | rfl | apply And.intro | assumption) | ((with_reducible show zaf _ _ = true); rfl)) <;> try first | omega | (simp only [InR]; omega)
   refine nxt hi (by rw [zed hi,hI,c]; rfl) ?_
   simp [AV.bare,zal,zaN,zaS,zak,zat,zah,tokz1,lk,zab,zcW]
 intro hI2
 have hI2:=zek hI2
 rw [if_neg (by simp [hI2])]
 simp (maxSteps:=4000000) only [go_sem,AV.one,zae,zac,zad,zaq,zas,zab,czb,cza,↓reduceIte]
 refine zbv (t.marks.length) [] [1,2] (fun i => [(5,.int .i64 i)]) (fun _ m => m) (fun i => (t.marks.take i).all (zeW t.last) = true) ?_ ?_ ?_ ?_
 ·simp
 ·simp [AV.bare,zal,zaN,zaS,zak,zat,zah,tokz1,lk,zab,zcW]
 ·intro i hi hI
  have hi':=czH.2 hi
  have hm:zeW t.last (at_ t.marks i) = (inB (at_ t.marks i).frm 0 t.last && inB (at_ t.marks i).til 0 t.last && decide ((at_ t.marks i).frm ≤ (at_ t.marks i).til) && zbn (at_ t.marks i).top):=rfl
  simp (maxSteps:=4000000) only [go_sem,AV.one,zae,zac,zad,zaq,zas,zab,czb,cza,↓reduceIte,hi',zax hi]
  refine ⟨by omega,fun q => ?_,fun q => ?_⟩
  ·rw [if_pos (zf5 hi ?_)]
   rw [hm]
   simp at q
   rcases q with ((q | q) | q) | q <;> (try simp [q]) <;> (intros; omega)
  ·simp at q
   refine ⟨(by simp only [InR]; omega),nxt hi ?_ ?_⟩
   ·rw [zed hi,hI,hm]
    simp [q]
   ·simp [AV.bare,zal,zaN,zaS,zak,zat,zah,tokz1,lk,zab,zcW]
 intro hI3
 have hI3:=zek hI3
 rw [if_neg (by simp [hI3])]
 have hok:HOk t:=⟨by omega,fun r hr => (zcQ r).1 (czG.1 hI r hr),hst.1,hst.2⟩
 have hmy:=zm3 hok
 simp (maxSteps:=4000000) only [go_sem,AV.one,zae,zac,zad,zaq,zas,zab,czb,cza,↓reduceIte]
 refine ⟨hok,fun q => ?_,fun q => ?_⟩
 ·simp at q
  rw [if_pos q]
 simp at q
 rw [if_neg (by omega)]
 refine zbv ((zc8 t.heights).toNat) [] [1,2] (fun i => [(7,.int .i64 i)]) (fun _ m => m) (fun i => ze5 t i = []) ?_ ?_ ?_ ?_
 ·simp [ze5]
 ·simp [AV.bare,zal,zaN,zaS,zak,zat,zah,tokz1,lk,zab,zcW]
 ·intro i hi hI
  have hi':(i:Int) < zc8 t.heights:=by omega
  have hn:=zd7 t.heights i
  have p3:LOk (zh1 t.heights (i:Int)):=⟨by omega,zrh _ _ hok.h⟩
  cases c:zcE t.step (zh1 t.heights i) <;>
   simp (maxSteps:=4000000) only [go_sem,AV.one,zae,zac,zad,zaq,zas,zab,czb,cza,↓reduceIte,hi',c]
  ·all_goals (repeat' first | (with_reducible first | rfl | apply And.intro | assumption) | ((with_reducible show zaf _ _ = true); rfl)) <;> try first | omega | (simp only [InR]; omega)
   refine nxt hi (by rw [zky,hI,c]; rfl) ?_
   simp [AV.bare,zal,zaN,zaS,zak,zat,zah,tokz1,lk,zab,zcW]
  ·all_goals (repeat' first | (with_reducible first | rfl | apply And.intro | assumption) | ((with_reducible show zaf _ _ = true); rfl)) <;> try first | omega | (simp only [InR]; omega)
   rw [if_neg]
   intro q
   have:zh1 t.heights (i:Int) ∈ zcq t:=by
    simp only [zcq,ze5,List.mem_filter,czx]
    exact ⟨⟨i,by simp; omega,rfl⟩,c⟩
   rw [q] at this
   cases this
 ·intro hI
  have hi':¬ (((zc8 t.heights).toNat:Nat):Int) < zc8 t.heights:=by omega
  simp (maxSteps:=4000000) only [go_sem,AV.one,zae,zac,zad,zaq,zas,zab,czb,cza,↓reduceIte,hi']
  all_goals (repeat' first | (with_reducible first | rfl | apply And.intro | assumption) | ((with_reducible show zaf _ _ = true); rfl)) <;> try first | omega | (simp only [InR]; omega)
  rw [if_pos (show zcq t = [] from hI)]
def P6 (g:FuncId):=(zaw 66 (zct (fun t:Tb => t.heights.length ≤ 4096) zbp) (P5):zaL) g
theorem P6_ok:zaC Tryz.prog P6:=zaj (zbf zwH) (P5_ok)
theorem P6_flag (d:Option Nat):zaI P6 d = none:=(zai (by decide) d).trans (P5_flag d)
attribute [go_sem] P6 P6_flag
def zhD (l:List Int) (hs:List Rg):List Bool:=List.zipWith (fun x r => inB x r.lo r.hi) l hs
theorem zhh {l:List Int} {hs:List Rg} {i:Nat} (h1:i < l.length) (h2:i < hs.length):at_ (zhD l hs) i = inB (at_ l i) (at_ hs i).lo (at_ hs i).hi:=by
 simp [at_,zhD,List.getD,List.getElem?_zipWith,h1,h2]
theorem ze0 (l:List Int) (hs:List Rg):(zhD l hs).length = min l.length hs.length:=by simp [zhD]
theorem zsN {t:Tb} {l:List Int} (h:HOk t) (hl:l.length = t.heights.length) (hz:(zhD l t.heights).all id = true):LOk l:=by
 refine ⟨by have:=h.len; omega,fun x hx => ?_⟩
 obtain ⟨i,hi,rfl⟩:=List.getElem_of_mem hx
 have h2:i < t.heights.length:=by omega
 have h3:i < (zhD l t.heights).length:=by rw [ze0]; omega
 have:=czG.1 hz _ (zbh h3)
 rw [zhh hi h2] at this
 have hr:=h.h _ (zbh h2)
 have:=(zbJ _ _ _).1 this
 rw [zdm hi] at this
 omega
def za4 (t:Tb) (l:List Int):Bool:=(zhD l t.heights).all id && (decide ((l.length:Int) = t.heights.length) && zcE t.step l)
theorem znH (t:Tb) (l:List Int) (h:HOk t ∧ l.length ≤ 4096):zaQ Tryz.prog 29 [Enc.enc t,Enc.enc l] (· = Enc.enc (za4 t l)):=by
 have hs0:=h.1.s0
 have hs1:=h.1.s1
 have hl:=h.2
 have hh:=h.1.len
 simp only [zcz]
 refine cpz P6_ok Tryz.func29 zaD ?_
 rw [Tryz.ntmps29]
 simp only [Tryz.f29,zag,zap]
 simp (maxSteps:=4000000) only [go_sem,AV.one,zae,zac,zad,zaq,zas,zab,czb,cza,↓reduceIte]
 refine zbv ((zhD l t.heights).length) [] [1,2,4] (fun i => [(5,.int .i64 i)]) (fun _ m => m) (fun i => ((zhD l t.heights).take i).all id = true) ?_ ?_ ?_ ?_
 ·simp
 ·simp [AV.bare,zal,zaN,zaS,zak,zat,zah,tokz1,lk,zab,zcW]
 ·intro i hi hI
  have hz:=ze0 l t.heights
  have h1:i < l.length:=by omega
  have h2:i < t.heights.length:=by omega
  have hz:=zhh h1 h2
  cases c:inB (at_ l i) (at_ t.heights i).lo (at_ t.heights i).hi <;>
   simp (maxSteps:=4000000) only [go_sem,AV.one,zae,zac,zad,zaq,zas,zab,czb,cza,↓reduceIte,zax h1,zax h2,czH.2 h1,czH.2 h2,c]
  all_goals all_goals (repeat' first | (with_reducible first | rfl | apply And.intro | assumption) | ((with_reducible show zaf _ _ = true); rfl)) <;> try first | omega | (simp only [InR]; omega)
  ·rw [za4,zf5 hi (by rw [hz,c]; rfl)]; rfl
  ·refine nxt hi ?_ ?_
   ·rw [zed hi,hI,hz,c]; rfl
   ·simp [AV.bare,zal,zaN,zaS,zak,zat,zah,tokz1,lk,zab,zcW]
 ·intro hI
  have hI:=zek hI
  have hz:=ze0 l t.heights
  have hd:decide (((zhD l t.heights).length:Int) < (l.length:Int)) = true → decide (((zhD l t.heights).length:Int) < (t.heights.length:Int)) = false:=by
   simp; omega
  cases c1:decide (((zhD l t.heights).length:Int) < (l.length:Int))
  ·cases c2:decide ((l.length:Int) = t.heights.length)
   ·simp (maxSteps:=4000000) only [go_sem,AV.one,zae,zac,zad,zaq,zas,zab,czb,cza,↓reduceIte,c1,c2]
    simp [za4,c2]
   ·have hlo:=zsN h.1 (by simp at c2; omega) hI
    simp (maxSteps:=4000000) only [go_sem,AV.one,zae,zac,zad,zaq,zas,zab,czb,cza,↓reduceIte,c1,c2]
    all_goals (repeat' first | (with_reducible first | rfl | apply And.intro | assumption) | ((with_reducible show zaf _ _ = true); rfl)) <;> try first | omega | (simp only [InR]; omega)
    simp [za4,c2,hI]
  ·have c3:=hd c1
   cases c2:decide ((l.length:Int) = t.heights.length)
   ·simp (maxSteps:=4000000) only [go_sem,AV.one,zae,zac,zad,zaq,zas,zab,czb,cza,↓reduceIte,c1,c2,c3]
    simp [za4,c2]
   ·have hlo:=zsN h.1 (by simp at c2; omega) hI
    simp (maxSteps:=4000000) only [go_sem,AV.one,zae,zac,zad,zaq,zas,zab,czb,cza,↓reduceIte,c1,c2,c3]
    all_goals (repeat' first | (with_reducible first | rfl | apply And.intro | assumption) | ((with_reducible show zaf _ _ = true); rfl)) <;> try first | omega | (simp only [InR]; omega)
    simp [za4,c2,hI]
def P7 (g:FuncId):=(zaw 29 (zbC (fun (t:Tb) (l:List Int) => HOk t ∧ l.length ≤ 4096) za4) (P6):zaL) g
theorem P7_ok:zaC Tryz.prog P7:=zaj (zaM znH) (P6_ok)
theorem P7_flag (d:Option Nat):zaI P7 d = none:=(zai (by decide) d).trans (P6_flag d)
attribute [go_sem] P7 P7_flag
def zby (t:Tb) (l:List Int):Bool:=za4 t l && t.marks.all (zdX l)
theorem zbI {t:Tb} {l:List Int} (h:za4 t l = true):l.length = t.heights.length:=by
 simp only [za4,czl,decide_eq_true_eq] at h
 omega
theorem zql (t:Tb) (l:List Int) (h:(HOk t ∧ l.length ≤ 4096) ∧ MOk t):zaQ Tryz.prog 85 [Enc.enc t,Enc.enc l] (· = Enc.enc (zby t l)):=by
 have h0:=h.1.1
 have h1:=h.1.2
 have hm:=h.2.len
 cases c0:za4 t l
 ·simp only [zcz]
  refine cpz P7_ok Tryz.func85 zaD ?_
  rw [Tryz.ntmps85]
  simp only [Tryz.f85,zag,zap]
  simp (maxSteps:=4000000) only [go_sem,AV.one,zae,zac,zad,zaq,zas,zab,czb,cza,↓reduceIte,c0]
  all_goals (repeat' first | (with_reducible first | rfl | apply And.intro | assumption) | ((with_reducible show zaf _ _ = true); rfl)) <;> try first | omega | (simp only [InR]; omega)
  simp [zby,c0]
 have hll:=zbI c0
 simp only [zcz]
 refine cpz P7_ok Tryz.func85 zaD ?_
 rw [Tryz.ntmps85]
 simp only [Tryz.f85,zag,zap]
 simp (maxSteps:=4000000) only [go_sem,AV.one,zae,zac,zad,zaq,zas,zab,czb,cza,↓reduceIte,c0]
 refine ⟨⟨h0,h1⟩,?_⟩
 refine zbv (t.marks.length) [] [1,2,4] (fun i => [(5,.int .i64 i)]) (fun _ m => m) (fun i => (t.marks.take i).all (zdX l) = true) ?_ ?_ ?_ ?_
 ·simp
 ·simp [AV.bare,zal,zaN,zaS,zak,zat,zah,tokz1,lk,zab,zcW]
 ·intro i hi hI
  have hr:=h.2.m _ (zbh hi)
  cases c:zdX l (at_ t.marks i) <;>
   simp (maxSteps:=4000000) only [go_sem,AV.one,zae,zac,zad,zaq,zas,zab,czb,cza,↓reduceIte,zax hi,czH.2 hi,c]
  all_goals all_goals (repeat' first | (with_reducible first | rfl | apply And.intro | assumption) | ((with_reducible show zaf _ _ = true); rfl)) <;> try first | omega | (simp only [InR]; omega)
  ·rw [zby,zf5 hi c,Bool.and_false]
  ·refine nxt hi ?_ ?_
   ·rw [zed hi,hI,c]; rfl
   ·simp [AV.bare,zal,zaN,zaS,zak,zat,zah,tokz1,lk,zab,zcW]
 ·intro hI
  have hI:=zek hI
  simp (maxSteps:=4000000) only [go_sem,AV.one,zae,zac,zad,zaq,zas,zab,czb,cza,↓reduceIte]
  simp [zby,c0,hI]
def P8 (g:FuncId):=(zaw 85 (zbC (fun (t:Tb) (l:List Int) => (HOk t ∧ l.length ≤ 4096) ∧ MOk t) zby) (P7):zaL) g
theorem P8_ok:zaC Tryz.prog P8:=zaj (zaM zql) (P7_ok)
theorem P8_flag (d:Option Nat):zaI P8 d = none:=(zai (by decide) d).trans (P7_flag d)
attribute [go_sem] P8 P8_flag
def zaJ (t:Tb):List (List Int):=(zcq t).filter (zby t)
theorem zsr (t:Tb) (h:HOk t ∧ MOk t):zaQ Tryz.prog 69 [Enc.enc t] (· = Enc.enc (zaJ t)):=by
 have h0:=h.1
 have h1:=h.2
 have hll:=ziP h.1
 simp only [zcz]
 refine cpz P8_ok Tryz.func69 zaD ?_
 rw [Tryz.ntmps69]
 simp only [Tryz.f69,zag,zap]
 simp (maxSteps:=4000000) only [go_sem,AV.one,zae,zac,zad,zaq,zas,zab,czb,cza,↓reduceIte]
 refine ⟨h0,?_⟩
 refine zbv ((zcq t).length) [.slot 3 1] [1,2,4] (fun i => [(5,.int .i64 i),(3,.sl ((((zcq t).take i).filter (zby t)).map EncE.cs) (.own 1))]) (fun i m => m.set 1 (.tok (((zcq t).take i).filter (zby t)).length 1)) (fun _ => True) ?_ ?_ ?_ ?_
 ·trivial
 ·simp [AV.bare,zal,zaN,zaS,zak,zat,zah,tokz1,lk,zab,zcW]
 ·intro i hi _
  have hat:=zoJ h.1 _ (zbh hi)
  have hlen:=hat.2.len
  have hf:=List.length_filter_le (zby t) ((zcq t).take i)
  have hf2:((zcq t).take i).length ≤ 3000:=by simp; omega
  cases c:zby t (at_ (zcq t) i) <;>
   simp (maxSteps:=4000000) only [go_sem,AV.one,zae,zac,zad,zaq,zas,zab,czb,cza,↓reduceIte,zax hi,czH.2 hi,c]
  all_goals all_goals (repeat' first | (with_reducible first | rfl | apply And.intro | assumption) | ((with_reducible show zaf _ _ = true); rfl)) <;> try first | omega | (simp only [InR]; omega)
  all_goals
   refine nxt hi trivial ?_
   simp [AV.bare,zal,zaN,zaS,zak,zat,zah,tokz1,lk,zab,zcW,zhy hi,c]
 ·intro _
  simp (maxSteps:=4000000) only [go_sem,AV.one,zae,zac,zad,zaq,zas,zab,czb,cza,↓reduceIte,czm]
  all_goals (repeat' first | (with_reducible first | rfl | apply And.intro | assumption) | ((with_reducible show zaf _ _ = true); rfl)) <;> try first | omega | (simp only [InR]; omega)
  rfl
def zlB (l:List Int) (level:Int) (n:Nat):List Int:=((List.range n).filter fun i => decide (level < at_ l i)).map fun i:Nat => (i:Int)
def zhd (l:List Int) (level:Int):List Int:=zlB l level l.length
theorem wetN_succ (l:List Int) (level:Int) (n:Nat):zlB l level (n + 1) = zlB l level n ++ (if level < at_ l n then [(n:Int)] else []):=by
 simp only [zlB,List.range_succ,List.filter_append,List.map_append]
 by_cases c:level < at_ l n <;> simp [List.filter,c]
theorem zmA (l:List Int) (level:Int) (n:Nat):(zlB l level n).length ≤ n:=by
 have:=List.length_filter_le (fun i => decide (level < at_ l i)) (List.range n)
 simpa [zlB] using this
end Go.Proofs
