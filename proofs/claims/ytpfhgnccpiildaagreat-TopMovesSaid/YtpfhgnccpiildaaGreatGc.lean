/- Walks of courses and of the sorts; the order as plain mathematics. -/
import Derived.Test.YtpfhgnccpiildaaGreatProg
import Derived.ChangeKeysEq
import Derived.Test.YtpfhgnccpiildaaGreatRows
import Derived.IntWalk
import Derived.Shelf.Bits.Mul64
import Derived.Shelf.Spec.BitsCarry
import Derived.Deep.RegionHeld3
import Derived.Outline
import Derived.Shelf.SlSortCmp.NoneTotal
import Derived.Sort.Statements
import Derived.Shelf.SlSortCmp.Insertion
import Derived.Test.YtpfhgnccpiildaaGreatGb
set_option linter.unusedSimpArgs false
set_option linter.unusedVariables false
namespace Go.Proofs.YtpfhgnccpiildaaGreat
open Go Go.Tx Go.Proofs.Tryz
abbrev Ri:Go.Tx.Row:=(.int .i64 .nil)
abbrev Di:Type:=(Int×Unit)
abbrev zi:Di:=(0,())
abbrev Ru:Go.Tx.Row:=(.int .u64 .nil)
abbrev Du:Type:=(Int×Unit)
abbrev Riii:Go.Tx.Row:=(.int .i64 (.int .i64 (.int .i64 .nil)))
abbrev Diii:Type:=(Int×(Int×(Int×Unit)))
abbrev ziii:Diii:=(0,0,0,())
abbrev qj5:Go.Tx.Row:=(.sl Riii .nil)
abbrev qj6:Type:=(List Diii×Unit)
abbrev Rii:Go.Tx.Row:=(.int .i64 (.int .i64 .nil))
abbrev Dii:Type:=(Int×(Int×Unit))
abbrev zii:Dii:=(0,0,())
abbrev qj8:Go.Tx.Row:=(.int .i64 (.int .i64 (.int .i64 (.int .i64 .nil))))
abbrev qj9:Type:=(Int×(Int×(Int×(Int×Unit))))
abbrev qja:qj9:=(0,0,0,0,())
abbrev qjb:Go.Tx.Row:=(.sl qj8 .nil)
abbrev qjc:Type:=(List qj9×Unit)
abbrev RLiE:Go.Tx.Row:=(.sl Ri .nil)
abbrev DLiE:Type:=(List Di×Unit)
abbrev qje:Go.Tx.Row:=(.sl Rii .nil)
abbrev qjf:Type:=(List Dii×Unit)
abbrev qjh:Go.Tx.Row:=(.int .i64 (.int .i64 (.int .i64 (.int .i64 (.int .i64 .nil)))))
abbrev Rbuu:Go.Tx.Row:=(.bool (.int .u64 (.int .u64 .nil)))
abbrev Dbuu:Type:=(Bool×(Int×(Int×Unit)))
theorem mixed:prog.follows .mixedOrders=true:=by kernel_rfl
def tysT:Tys:=[(2,⟨.int .i64,1,false,[.int .i64 0],false⟩),
  (3,⟨.int .i64,1,false,[.int .i64 0],false⟩),
  (4,⟨.bool,1,false,[.bool false],false⟩),
  (5,⟨.int .u8,1,false,[.int .u8 0],false⟩),
  (6,⟨.int .u8,1,false,[.int .u8 0],false⟩),
  (9,⟨.str,1,false,[.undef],false⟩),
  (10,⟨.str,1,false,[.undef],false⟩),
  (11,⟨.str,1,false,[.undef],false⟩),
  (12,⟨.int .u64,1,false,[.int .u64 0],false⟩),
  (21,⟨.int .i32,1,false,[.int .i32 0],false⟩),
  (22,⟨.slice 79 Riii,1,false,[.nils],false⟩),
  (24,⟨.struct [(0,22)],1,true,[.nils],false⟩),
  (26,⟨.struct [(0,2),(1,2)],2,true,[.int .i64 0,.int .i64 0],true⟩),
  (30,⟨.slice 39 qj8,1,false,[.nils],false⟩),
  (31,⟨.int .i64,1,false,[.int .i64 0],false⟩),
  (34,⟨.slice 3 Ri,1,false,[.nils],false⟩),
  (39,⟨.struct [(0,26),(2,3),(3,3)],4,true,[.int .i64 0,.int .i64 0,.int .i64 0,.int .i64 0],false⟩),
  (63,⟨.slice 26 Rii,1,false,[.nils],false⟩),
  (79,⟨.struct [(0,3),(1,2),(2,2)],3,true,[.int .i64 0,.int .i64 0,.int .i64 0],false⟩),
  (87,⟨.slice 92 Riii,1,false,[.nils],false⟩),
  (92,⟨.struct [(0,26),(2,3)],3,true,[.int .i64 0,.int .i64 0,.int .i64 0],false⟩),
  (98,⟨.int .u64,1,false,[.int .u64 0],false⟩),
  (111,⟨.slice 115 qjh,1,false,[.nils],false⟩),
  (115,⟨.struct [(0,26),(2,26),(4,3)],5,true,[.int .i64 0,.int .i64 0,.int .i64 0,.int .i64 0,.int .i64 0],false⟩),
  (121,⟨.slice 124 Riii,1,false,[.nils],false⟩),
  (124,⟨.struct [(0,26),(2,2)],3,true,[.int .i64 0,.int .i64 0,.int .i64 0],false⟩),
  (126,⟨.other,1,false,[.undef],false⟩),
  (128,⟨.struct [(0,126)],1,true,[.undef],false⟩),
  (131,⟨.struct [(0,4),(1,98),(2,98)],3,true,[.bool false,.int .u64 0,.int .u64 0],false⟩),
  (156,⟨.struct [(0,2),(1,98)],2,true,[.int .i64 0,.int .u64 0],false⟩),
  (158,⟨.array 2 2,2,true,[.int .i64 0,.int .i64 0],false⟩),
  (159,⟨.array 2 158,4,true,[.int .i64 0,.int .i64 0,.int .i64 0,.int .i64 0],false⟩),
  (164,⟨.other,1,false,[.undef],false⟩),
  (168,⟨.other,1,false,[.undef],false⟩),
  (170,⟨.other,1,false,[.undef],false⟩),
  (172,⟨.other,1,false,[.undef],false⟩),
  (175,⟨.struct [(0,4),(1,98),(2,98)],3,true,[.bool false,.int .u64 0,.int .u64 0],false⟩),
  (195,⟨.other,1,false,[.undef],false⟩),
  (202,⟨.int .u64,1,false,[.int .u64 0],false⟩),
  (204,⟨.other,1,false,[.undef],false⟩),
  (212,⟨.other,1,false,[.undef],false⟩),
  (217,⟨.int .i64,1,false,[.int .i64 0],false⟩),
  (224,⟨.int .u32,1,false,[.int .u32 0],false⟩),
  (235,⟨.int .u64,1,false,[.int .u64 0],false⟩),
  (243,⟨.other,1,false,[.nilp],false⟩),
  (255,⟨.int .u8,1,false,[.int .u8 0],false⟩),
  (256,⟨.int .u8,1,false,[.int .u8 0],false⟩),
  (259,⟨.int .i32,1,false,[.int .i32 0],false⟩),
  (260,⟨.int .i32,1,false,[.int .i32 0],false⟩)]
set_option maxRecDepth 20000 in
set_option maxHeartbeats 4000000 in
theorem qjn (n:Nat) (k0 k1:IntKind) (a0 a1 b0 b1:Int) (w:World):(Op.equalIn (n+2) 26 (.agg #[.int k0 a0,.int k1 a1]) (.agg #[.int k0 b0,.int k1 b1])).run prog w=.ok ((a0 == b0)&&(a1 == b1)) w:=by
  have hst:prog.stoodInHeld 26=false:=by kernel_rfl
  have hu:prog.underlying 26=some (.struct (prog.fieldsOf 26)):=by kernel_rfl
  have hf:=Tryz.underlying26
  rw [hu] at hf
  injection hf with hf
  injection hf with hf
  have e2:=fun (k:IntKind) (x y:Int)=>run_equalIn_int (P:=prog) w (n+0) 2 k .i64 x y Tryz.underlying2
  rw [run_equalIn_struct w (n+1) 26 _ _ hu hst,hf]
  simp [Op.eqFields,part,Sem.run_bind,Result.andThen_ok,e2,Tryz.isAgg2]
  cases h0:(a0 == b0)<;>cases h1:(a1 == b1)<;>simp_all
theorem qjo:EqT prog 26 2:=by
  refine ⟨fun vs us b w h1 h2 h=>?_,by kernel_rfl⟩
  obtain ⟨a0,a1,rfl⟩:∃ a0 a1,vs=[a0,a1]:=by
    match vs,h1 with
    | [a0,a1],_=>exact ⟨a0,a1,rfl⟩
  obtain ⟨b0,b1,rfl⟩:∃ b0 b1,us=[b0,b1]:=by
    match us,h2 with
    | [b0,b1],_=>exact ⟨b0,b1,rfl⟩
  obtain ⟨k0,x0,y0,c0,rfl,rfl,g0,rfl⟩:=q1g h
  obtain ⟨k1,x1,y1,c1,rfl,rfl,g1,rfl⟩:=q1g g0
  obtain rfl:=q1f g1
  refine (qjn 9998 k0 k1 x0 x1 y0 y1 w).trans ?_
  simp [Bool.and_assoc]
theorem tys:TysOK prog tysT:=q1l (by kernel_rfl) (by
  intro p hp he
  simp only [tysT,List.mem_cons,List.not_mem_nil,or_false] at hp
  rcases hp with rfl | rfl | rfl | rfl | rfl | rfl | rfl | rfl | rfl | rfl | rfl | rfl | rfl | rfl | rfl | rfl | rfl | rfl | rfl | rfl | rfl | rfl | rfl | rfl | rfl | rfl | rfl | rfl | rfl | rfl | rfl | rfl | rfl | rfl | rfl | rfl | rfl | rfl | rfl | rfl | rfl | rfl | rfl | rfl | rfl | rfl | rfl | rfl | rfl
  all_goals first | exact qjo | (cases he;done))
end Go.Proofs.YtpfhgnccpiildaaGreat

namespace Go.Proofs.YtpfhgnccpiildaaGreat
open Go.RowKit Go.Pel
theorem qjp {k:IntKind} {a b:Int} (h:a=b):Ending.returned (.int k a)=.returned (.int k b):=by rw [h]
theorem qjq {a b:Bool} (h:a=b):Ending.returned (.bool a)=.returned (.bool b):=by rw [h]

set_option maxHeartbeats 400000 in
theorem qjr (n:Int) (w:World) (h:-9223372036854775808≤n∧n≤9223372036854775807) :
    Calls Tryz.prog 125 #[.int .i64 n] w fun e w'=>e=.returned (.int .u64 n.natAbs)∧∃ x,w'=ext w x:=by
  obtain ⟨h1,h2⟩:=h
  go_enter Tryz.func125,Tryz.ntmps125
  go_wp2
  all_goals (go_ret;exact ⟨qjp (by first | (simp only [IntKind.wrap_u64];omega) | omega),ext_of (Bel.refl _)⟩)

set_option maxHeartbeats 400000 in
theorem qjs (n:Int) (w:World) (h:-9223372036854775808≤n∧n≤9223372036854775807) :
    Calls Tryz.prog 58 #[.int .i64 n] w fun e w'=>e=.returned (.int .u64 n.natAbs)∧∃ x,w'=ext w x:=by
  obtain ⟨h1,h2⟩:=h
  go_enter Tryz.func58,Tryz.ntmps58
  go_wp2
  all_goals (go_ret;exact ⟨qjp (by first | (simp only [IntKind.wrap_u64];omega) | omega),ext_of (Bel.refl _)⟩)

set_option maxHeartbeats 400000 in
theorem qjt (a b:Nat) (w:World) (ha:a<18446744073709551616) (hb:b<18446744073709551616) :
    Calls Tryz.prog 119 #[.int .u64 a,.int .u64 b] w fun e w'=>e=.returned (.int .u64 (Nat.gcd a b))∧∃ x,w'=ext w x:=by
  go_enter Tryz.func119,Tryz.ntmps119
  go_wp2
  go_loopw [0,1] (fun x y wr=>∃ x0 y0:Nat,x=.int .u64 x0∧y=.int .u64 y0∧x0<18446744073709551616∧y0<18446744073709551616∧Nat.gcd x0 y0=Nat.gcd a b∧∃ x,wr=ext w x) (fun _ y _=>(intOf y).toNat)
  case atStart=>exact ⟨a,b,rfl,rfl,ha,hb,rfl,ext_of (Bel.refl _)⟩
  case round =>
    obtain ⟨x0,y0,rfl,rfl,hx,hy,hg,x,rfl⟩:=hrel
    have HG:=Lib.hid hg;clear hg
    by_cases hlt:0<y0
    · go_wp2
      ((first | refine RegC.wp_region_ext1 (by kernel_rfl) (by kernel_rfl) ?_ | refine RegC.wp_region_ext0 (by kernel_rfl) (by kernel_rfl) ?_);(repeat (any_goals (first | go_big_quiet_step (fail) | (refine RegC.wpQuiet_split rfl rfl (fun hb=>?_) (fun hb=>?_)<;>simp only [hb]))));all_goals (refine wpQuiet_nil ?_;rintro _ ⟨nq,rfl⟩))
      go_wp2
      go_roundw
      case rel=>exact ⟨y0,x0 % y0,rfl,by simp,hy,Nat.lt_of_lt_of_le (Nat.mod_lt _ hlt) (by omega),by rw [← HG.out,Nat.gcd_comm x0 y0,Nat.gcd_rec y0 x0,Nat.gcd_comm],_,rfl⟩
      case measure=>simp [intOf];exact Nat.mod_lt _ hlt
    · go_wp2
      go_ret
      obtain rfl:y0=0:=by omega
      exact ⟨qjp (by rw [← HG.out];simp),_,rfl⟩

set_option maxHeartbeats 400000 in
theorem qju (a b:Nat) (w:World) (ha:a<18446744073709551616) (hb:b<18446744073709551616) :
    Calls Tryz.prog 57 #[.int .u64 a,.int .u64 b] w fun e w'=>e=.returned (.int .u64 (Nat.gcd a b))∧∃ x,w'=ext w x:=by
  go_enter Tryz.func57,Tryz.ntmps57
  go_wp2
  go_loopw [0,1] (fun x y wr=>∃ x0 y0:Nat,x=.int .u64 x0∧y=.int .u64 y0∧x0<18446744073709551616∧y0<18446744073709551616∧Nat.gcd x0 y0=Nat.gcd a b∧∃ x,wr=ext w x) (fun _ y _=>(intOf y).toNat)
  case atStart=>exact ⟨a,b,rfl,rfl,ha,hb,rfl,ext_of (Bel.refl _)⟩
  case round =>
    obtain ⟨x0,y0,rfl,rfl,hx,hy,hg,x,rfl⟩:=hrel
    have HG:=Lib.hid hg;clear hg
    by_cases hlt:0<y0
    · have hn : ((y0 : Int) != 0) = true := by rw [bne_iff_ne]; omega
      go_wp2
      ((first | refine RegC.wp_region_ext1 (by kernel_rfl) (by kernel_rfl) ?_ | refine RegC.wp_region_ext0 (by kernel_rfl) (by kernel_rfl) ?_);(repeat (any_goals (first | go_big_quiet_step (fail) | (refine RegC.wpQuiet_split rfl rfl (fun hb=>?_) (fun hb=>?_)<;>simp only [hb]))));all_goals (refine wpQuiet_nil ?_;rintro _ ⟨nq,rfl⟩))
      go_wp2
      go_roundw
      case rel=>exact ⟨y0,x0 % y0,rfl,by simp,hy,Nat.lt_of_lt_of_le (Nat.mod_lt _ hlt) (by omega),by rw [← HG.out,Nat.gcd_comm x0 y0,Nat.gcd_rec y0 x0,Nat.gcd_comm],_,rfl⟩
      case measure=>simp [intOf];exact Nat.mod_lt _ hlt
    · obtain rfl : y0 = 0 := by omega
      go_wp2
      go_ret
      exact ⟨qjp (by rw [← HG.out];simp),_,rfl⟩

set_option maxHeartbeats 400000 in
theorem qjv (n d:Int) (w:World) (h:-9223372036854775808≤n∧n≤9223372036854775807) (h':-9223372036854775808≤d∧d≤9223372036854775807) :
    Calls Tryz.prog 104 #[.agg #[.int .i64 n,.int .i64 d]] w fun e w'=>e=.returned (.int .i64 (qcv n d))∧∃ x,w'=ext w x:=by
  obtain ⟨h1,h2⟩:=h
  obtain ⟨h3,h4⟩:=h'
  by_cases c1:d<1
  · have e1 := Lib.hid (qcw (n := n) c1)
    go_enter Tryz.func104,Tryz.ntmps104
    go_wp2
    ((first | refine RegC.wp_region_ext1 (by kernel_rfl) (by kernel_rfl) ?_ | refine RegC.wp_region_ext0 (by kernel_rfl) (by kernel_rfl) ?_);(repeat (any_goals (first | go_big_quiet_step (fail) | (refine RegC.wpQuiet_split rfl rfl (fun hb=>?_) (fun hb=>?_)<;>simp only [hb]))));all_goals (refine wpQuiet_nil ?_;rintro _ ⟨nq,rfl⟩))
    go_wp2
    go_ret
    exact ⟨qjp e1.out.symm,ext_of (((Bel.refl _).alloc _).ext _)⟩
  · have c1' : decide (d < 1) = false := by simpa using c1
    by_cases c2:n=-9223372036854775808
    · subst c2
      go_enter Tryz.func104,Tryz.ntmps104
      go_wp2
      ((first | refine RegC.wp_region_ext1 (by kernel_rfl) (by kernel_rfl) ?_ | refine RegC.wp_region_ext0 (by kernel_rfl) (by kernel_rfl) ?_);(repeat (any_goals (first | go_big_quiet_step (fail) | (refine RegC.wpQuiet_split rfl rfl (fun hb=>?_) (fun hb=>?_)<;>simp only [hb]))));all_goals (refine wpQuiet_nil ?_;rintro _ ⟨nq,rfl⟩))
      go_wp2
      go_ret
      exact ⟨qjp qcx.symm,ext_of (((Bel.refl _).alloc _).ext _)⟩
    · have c2' : (n == -9223372036854775808) = false := by simpa using c2
      have E1:=Lib.hid (qcy (n:=n) (d:=d) (by omega) c2)
      have E2:=Lib.hid (qcz (n:=n) (d:=d))
      have E3:=Lib.hid (qd0 (n:=n) (d:=d) (by omega))
      obtain ⟨dn,rfl⟩:∃ dn:Nat,d=dn:=⟨d.toNat,by omega⟩
      go_enter Tryz.func104,Tryz.ntmps104
      go_wp2
      ((first | refine RegC.wp_region_ext1 (by kernel_rfl) (by kernel_rfl) ?_ | refine RegC.wp_region_ext0 (by kernel_rfl) (by kernel_rfl) ?_);(repeat (any_goals (first | go_big_quiet_step (first | (go_at_call 125;first | exact Calls.ext_of1 (qjr _ _ (by omega)) | exact Calls.ext_of (qjr _ _ (by omega))) | (go_at_call 119;first | exact Calls.ext_of1 (qjt _ _ _ (by omega) (by omega)) | exact Calls.ext_of (qjt _ _ _ (by omega) (by omega)))) | (refine RegC.wpQuiet_split rfl rfl (fun hb=>?_) (fun hb=>?_)<;>simp only [hb]))));all_goals (refine wpQuiet_nil ?_;rintro _ ⟨nq,rfl⟩))
      go_wp2
      · have hg : 1 < Nat.gcd dn n.natAbs := by omega
        go_ret
        exact ⟨qjp (E2.out (by simp only [Int.toNat_natCast];omega)).symm,ext_of (((Bel.refl _).alloc _).ext _)⟩
      · have hg : ¬ 1 < Nat.gcd dn n.natAbs := by omega
        go_ret
        exact ⟨qjp (E1.out (E3.out (by simpa using hg))).symm,ext_of (((Bel.refl _).alloc _).ext _)⟩


end Go.Proofs.YtpfhgnccpiildaaGreat

namespace Go.Proofs.YtpfhgnccpiildaaGreat
open Go.RowKit Go.Pel
set_option maxHeartbeats 400000 in
theorem qjw (n d:Int) (w:World) (hn:-9223372036854775808≤n∧n≤9223372036854775807) (hd:-9223372036854775808≤d∧d≤9223372036854775807) :
    Calls Tryz.prog 15 #[.agg #[.int .i64 n,.int .i64 d]] w fun e w'=>e=.returned (.int .i64 (qcv n d))∧∃ x,w'=ext w x:=by
  obtain ⟨hn1,hn2⟩:=hn;obtain ⟨hd1,hd2⟩:=hd
  by_cases c1:d<1
  · have e1 := Lib.hid (qcw (n := n) c1)
    go_enter Tryz.func15,Tryz.ntmps15
    go_wp2
    ((first | refine RegC.wp_region_ext1 (by kernel_rfl) (by kernel_rfl) ?_ | refine RegC.wp_region_ext0 (by kernel_rfl) (by kernel_rfl) ?_);(repeat (any_goals (first | go_big_quiet_step (fail) | (refine RegC.wpQuiet_split rfl rfl (fun hb=>?_) (fun hb=>?_)<;>simp only [hb]))));all_goals (refine wpQuiet_nil ?_;rintro _ ⟨nq,rfl⟩))
    go_wp2
    (go_ret;exact ⟨qjp (by exact e1.out.symm),ext_of (by (try simp only [qbh]);repeat (first | exact Bel.refl _ | assumption | refine qbq ?_ _ | refine qbr ?_ _ | refine Bel.ext ?_ _ | refine Bel.alloc ?_ _ | refine Bel.drewN ?_ _))⟩)
  · have c1' : decide (d < 1) = false := by simpa using c1
    by_cases c2:n=-9223372036854775808
    · subst c2
      go_enter Tryz.func15,Tryz.ntmps15
      go_wp2
      ((first | refine RegC.wp_region_ext1 (by kernel_rfl) (by kernel_rfl) ?_ | refine RegC.wp_region_ext0 (by kernel_rfl) (by kernel_rfl) ?_);(repeat (any_goals (first | go_big_quiet_step (fail) | (refine RegC.wpQuiet_split rfl rfl (fun hb=>?_) (fun hb=>?_)<;>simp only [hb]))));all_goals (refine wpQuiet_nil ?_;rintro _ ⟨nq,rfl⟩))
      go_wp2
      (go_ret;exact ⟨qjp (by exact qcx.symm),ext_of (by (try simp only [qbh]);repeat (first | exact Bel.refl _ | assumption | refine qbq ?_ _ | refine qbr ?_ _ | refine Bel.ext ?_ _ | refine Bel.alloc ?_ _ | refine Bel.drewN ?_ _))⟩)
    · have c2' : (n == -9223372036854775808) = false := by simpa using c2
      have E1:=Lib.hid (qcy (n:=n) (d:=d) (by omega) c2)
      have E2:=Lib.hid (qcz (n:=n) (d:=d))
      obtain ⟨dn,rfl⟩:∃ dn:Nat,d=dn:=⟨d.toNat,by omega⟩
      go_enter Tryz.func15,Tryz.ntmps15
      go_wp2
      ((first | refine RegC.wp_region_ext1 (by kernel_rfl) (by kernel_rfl) ?_ | refine RegC.wp_region_ext0 (by kernel_rfl) (by kernel_rfl) ?_);(repeat (any_goals (first | go_big_quiet_step (first | (go_at_call 58;first | exact Calls.ext_of1 (qjs _ _ (by omega)) | exact Calls.ext_of (qjs _ _ (by omega))) | (go_at_call 57;first | exact Calls.ext_of1 (qju _ _ _ (by omega) (by omega)) | exact Calls.ext_of (qju _ _ _ (by omega) (by omega)))) | (refine RegC.wpQuiet_split rfl rfl (fun hb=>?_) (fun hb=>?_)<;>simp only [hb]))));all_goals (refine wpQuiet_nil ?_;rintro _ ⟨nq,rfl⟩))
      go_wp2
      all_goals (go_ret;exact ⟨qjp (by first | exact (E2.out (by rw [Int.toNat_natCast,Nat.gcd_comm];(first | omega | (simp only [bne_iff_ne,ne_eq,bne_eq_false_iff_eq,beq_iff_eq,beq_eq_false_iff_ne,decide_eq_true_eq,decide_eq_false_iff_not,Bool.or_eq_true,Bool.and_eq_true,Bool.not_eq_true,Bool.not_eq_true',Bool.not_eq_false'] at *;omega)))).symm | exact (E1.out (by rw [Int.toNat_natCast,Nat.gcd_comm];(first | omega | (simp only [bne_iff_ne,ne_eq,bne_eq_false_iff_eq,beq_iff_eq,beq_eq_false_iff_ne,decide_eq_true_eq,decide_eq_false_iff_not,Bool.or_eq_true,Bool.and_eq_true,Bool.not_eq_true,Bool.not_eq_true',Bool.not_eq_false'] at *;omega)))).symm),ext_of (by (try simp only [qbh]);repeat (first | exact Bel.refl _ | assumption | refine qbq ?_ _ | refine qbr ?_ _ | refine Bel.ext ?_ _ | refine Bel.alloc ?_ _ | refine Bel.drewN ?_ _))⟩)

set_option maxHeartbeats 400000 in
theorem qjy (n:Int) (w:World):Calls Tryz.prog 137 #[.int .i64 n] w fun e w'=>e=.returned (.bool (far n))∧∃ x,w'=ext w x:=by
  go_enter Tryz.func137,Tryz.ntmps137
  go_wp2
  all_goals (go_ret;exact ⟨qjq (by first | exact (qdg _).symm | (rw [qdg];simp [*];done) | (rw [qdg];simp;omega)),ext_of (by (try simp only [qbh]);repeat (first | exact Bel.refl _ | assumption | refine qbq ?_ _ | refine qbr ?_ _ | refine Bel.ext ?_ _ | refine Bel.alloc ?_ _ | refine Bel.drewN ?_ _))⟩)

set_option maxHeartbeats 400000 in
theorem qjz (i a b:Int) (w:World) :
    Calls Tryz.prog 98 #[.agg #[.int .i64 i,.int .i64 a,.int .i64 b]] w fun e w'=>e=.returned (.int .i64 (qd9 i a b))∧∃ x,w'=ext w x:=by
  have E1:=Lib.hid (qda (i:=i) (a:=a) (b:=b))
  have E2:=Lib.hid (qdb (i:=i) (a:=a) (b:=b))
  go_enter Tryz.func98,Tryz.ntmps98
  go_wp2_with (first | (go_at_call 137;refine (qjy _ _).mono ?_;rintro e _ ⟨rfl,nx,rfl⟩))
  all_goals (go_ret;exact ⟨qjp (by (try simp only [qdj,qdk] at *);first | exact (E2.out (by omega)).symm | exact (E1.out (by omega)).symm),ext_of (by (try simp only [qbh]);repeat (first | exact Bel.refl _ | assumption | refine qbq ?_ _ | refine qbr ?_ _ | refine Bel.ext ?_ _ | refine Bel.alloc ?_ _ | refine Bel.drewN ?_ _))⟩)

set_option maxHeartbeats 400000 in
theorem qk0 (i a b:Int) (w:World) :
    Calls Tryz.prog 96 #[.agg #[.int .i64 i,.int .i64 a,.int .i64 b]] w fun e w'=>e=.returned (.int .i64 (qd9 i a b))∧∃ x,w'=ext w x:=by
  have E1:=Lib.hid (qda (i:=i) (a:=a) (b:=b))
  have E2:=Lib.hid (qdb (i:=i) (a:=a) (b:=b))
  go_enter Tryz.func96,Tryz.ntmps96
  go_wp2
  all_goals (go_ret;exact ⟨qjp (by first | exact (E1.out (by omega)).symm | exact (E2.out (by omega)).symm),ext_of (by (try simp only [qbh]);repeat (first | exact Bel.refl _ | assumption | refine qbq ?_ _ | refine qbr ?_ _ | refine Bel.ext ?_ _ | refine Bel.alloc ?_ _ | refine Bel.drewN ?_ _))⟩)
end Go.Proofs.YtpfhgnccpiildaaGreat

namespace Go.Proofs.YtpfhgnccpiildaaGreat
open Go.RowKit Go.Pel

set_option maxHeartbeats 1000000 in
theorem qk1 (neg:Bool) (hi lo dhi dlo:Nat) (w:World) (h1:hi<18446744073709551616) (h2:lo<18446744073709551616) (h3:dhi<18446744073709551616) (h4:dlo<18446744073709551616) :
    Calls Tryz.prog 124 #[.agg #[.bool neg,.int .u64 hi,.int .u64 lo],.int .u64 dhi,.int .u64 dlo] w fun e w'=>e=.returned (.tuple #[.agg #[.int .i64 (bld neg hi lo dhi dlo).1,.int .i64 (bld neg hi lo dhi dlo).2.1],.int .i64 (bld neg hi lo dhi dlo).2.2])∧∃ x,w'=ext w x:=by
  have E1:=Lib.hid (@qdl neg hi lo dhi dlo)
  have E2:=Lib.hid (@qdm hi lo dhi dlo)
  have E3:=Lib.hid (@qdn hi lo dhi dlo)
  cases neg
  all_goals (
    go_enter Tryz.func124,Tryz.ntmps124
    go_wp2)
  all_goals first
    | (have e:=E1.out (by omega);exact bodyPost_ret (v:=.tuple #[.agg #[.int .i64 0,.int .i64 0],.int .i64 16]) (by simp [results,Tryz.results124,go_sem]) rfl ⟨by first | rw [e] | (simp only [‹hi=0›] at e;rw [e]),ext_of (by (try simp only [qbh]);repeat (first | exact Bel.refl _ | assumption | refine qbq ?_ _ | refine qbr ?_ _ | refine Bel.ext ?_ _ | refine Bel.alloc ?_ _ | refine Bel.drewN ?_ _))⟩)
    | (have e:=E2.out (by omega);exact bodyPost_ret (v:=.tuple #[.agg #[.int .i64 (-(lo:Int)),.int .i64 dlo],.int .i64 0]) (by simp [results,Tryz.results124,go_sem]) rfl ⟨by first | rw [e] | (simp only [‹hi=0›] at e;rw [e]),ext_of (by (try simp only [qbh]);repeat (first | exact Bel.refl _ | assumption | refine qbq ?_ _ | refine qbr ?_ _ | refine Bel.ext ?_ _ | refine Bel.alloc ?_ _ | refine Bel.drewN ?_ _))⟩)
    | (have e:=E3.out (by omega);exact bodyPost_ret (v:=.tuple #[.agg #[.int .i64 lo,.int .i64 dlo],.int .i64 0]) (by simp [results,Tryz.results124,go_sem]) rfl ⟨by first | rw [e] | (simp only [‹hi=0›] at e;rw [e]),ext_of (by (try simp only [qbh]);repeat (first | exact Bel.refl _ | assumption | refine qbq ?_ _ | refine qbr ?_ _ | refine Bel.ext ?_ _ | refine Bel.alloc ?_ _ | refine Bel.drewN ?_ _))⟩)

end Go.Proofs.YtpfhgnccpiildaaGreat

namespace Go.Proofs.YtpfhgnccpiildaaGreat
open Go.RowKit Go.Pel
theorem qk3 {a g:Nat} (h:a<18446744073709551616):IntKind.u64.wrap ((a:Int) / (g:Int))=((a / g:Nat):Int):=by
  have:=qds (g:=g) h
  rw [← Int.natCast_ediv];generalize a / g=q at *;rw [IntKind.wrap_u64];omega

set_option maxHeartbeats 1000000 in
theorem qk4 (n d:Int) (w:World) (hn:-9223372036854775808≤n∧n≤9223372036854775807) (hd:-9223372036854775808≤d∧d≤9223372036854775807) :
    Calls Tryz.prog 148 #[.int .i64 n,.int .i64 d] w fun e w'=>e=.returned (.tuple #[.agg #[.int .i64 (mk n d).1,.int .i64 (mk n d).2.1],.int .i64 (mk n d).2.2])∧∃ x,w'=ext w x:=by
  obtain ⟨hn1,hn2⟩:=hn;obtain ⟨hd1,hd2⟩:=hd
  by_cases c:d=0
  · subst c
    go_enter Tryz.func148,Tryz.ntmps148
    go_wp2
    exact bodyPost_ret (v:=.tuple #[.agg #[.int .i64 0,.int .i64 0],.int .i64 26]) (by simp [results,Tryz.results148,go_sem]) rfl ⟨by rw [qdp],ext_of (by (try simp only [qbh]);repeat (first | exact Bel.refl _ | assumption | refine qbq ?_ _ | refine qbr ?_ _ | refine Bel.ext ?_ _ | refine Bel.alloc ?_ _ | refine Bel.drewN ?_ _))⟩
  · have c' : (d == 0) = false := by simpa using c
    have E1:=Lib.hid (qdt (n:=n) c)
    have g1:=qdr (n:=n) c
    have g2:Nat.gcd n.natAbs d.natAbs<18446744073709551616:=Nat.lt_of_le_of_lt (Nat.gcd_le_right _ (by omega)) (by omega:d.natAbs<18446744073709551616)
    have b1:=qds (a:=n.natAbs) (g:=Nat.gcd n.natAbs d.natAbs) (B:=18446744073709551616) (by omega)
    have b2:=qds (a:=d.natAbs) (g:=Nat.gcd n.natAbs d.natAbs) (B:=18446744073709551616) (by omega)
    have G1:((Nat.gcd n.natAbs d.natAbs:Int) == 0)=false:=by rw [beq_eq_false_iff_ne];omega
    have q1:IntKind.u64.wrap ((n.natAbs:Int) / (Nat.gcd n.natAbs d.natAbs:Int))=((n.natAbs / Nat.gcd n.natAbs d.natAbs:Nat):Int):=qk3 (by omega)
    have q2:IntKind.u64.wrap ((d.natAbs:Int) / (Nat.gcd n.natAbs d.natAbs:Int))=((d.natAbs / Nat.gcd n.natAbs d.natAbs:Nat):Int):=qk3 (by omega)
    go_enter Tryz.func148,Tryz.ntmps148
    go_wp2_with (first | (go_at_call 125;refine (qjr _ _ (by omega)).mono ?_;rintro e _ ⟨rfl,nx,rfl⟩) | (go_at_call 119;refine (qjt _ _ _ (by omega) (by omega)).mono ?_;rintro e _ ⟨rfl,nx,rfl⟩))
    ((first | refine RegC.wp_region_tail1 17 (by kernel_rfl) (by kernel_rfl) ?_ | refine RegC.wp_region_tail0 17 (by kernel_rfl) (by kernel_rfl) ?_);simp only [List.take_succ_cons,List.take_zero,List.drop_succ_cons,List.drop_zero];(repeat (any_goals (first | go_big_quiet_step (first | (go_at_call 125;first | exact Calls.ext_of1 (qjr _ _ (by omega)) | exact Calls.ext_of (qjr _ _ (by omega))) | (go_at_call 124;first | exact Calls.ext_of1 (qk1 _ 0 _ 0 _ _ (by omega) (by omega) (by omega) (by omega)) | exact Calls.ext_of (qk1 _ 0 _ 0 _ _ (by omega) (by omega) (by omega) (by omega)))) | (refine RegC.wpQuiet_split rfl rfl (fun hb=>?_) (fun hb=>?_)<;>simp only [hb]))));all_goals (refine wpQuiet_nil ?_;rintro _ ⟨nq,rfl⟩))
    go_wp2
    exact bodyPost_ret (v:=.tuple #[.agg #[.int .i64 (mk n d).1,.int .i64 (mk n d).2.1],.int .i64 (mk n d).2.2]) (by simp [results,Tryz.results148,go_sem,E1.out]) rfl ⟨rfl,ext_of (by (try simp only [qbh]);repeat (first | exact Bel.refl _ | assumption | refine qbq ?_ _ | refine qbr ?_ _ | refine Bel.ext ?_ _ | refine Bel.alloc ?_ _ | refine Bel.drewN ?_ _))⟩

end Go.Proofs.YtpfhgnccpiildaaGreat

namespace Go.Pel
open Go Go.RowKit
def un (a:Int):Nat:=(a % 18446744073709551616).toNat
theorem qk6 (a:Int):un a<18446744073709551616:=by unfold un;omega
theorem qk7 (a:Int):((un a:Nat):Int)=a % 18446744073709551616:=by unfold un;omega
theorem qk8 {a:Int} (h:0≤a) (h2:a<9223372036854775808):((un a:Nat):Int)=a:=by rw [qk7];omega
theorem qk9 {a:Int} (h:a<0) (h2:-9223372036854775808≤a):((un a:Nat):Int)=a+18446744073709551616:=by rw [qk7];omega
theorem qka (a b:Int) (ha:-9223372036854775808≤a∧a<9223372036854775808) (hb:-9223372036854775808≤b∧b<9223372036854775808) :
    ((un a*un b:Nat):Int)=a*b+18446744073709551616*((if a<0 then b else 0)+(if b<0 then a else 0))+(if a<0∧b<0 then 340282366920938463463374607431768211456 else 0):=by
  have e:((un a*un b:Nat):Int)=(un a:Int)*(un b:Int):=by simp
  rw [e]
  by_cases h1:a<0<;>by_cases h2:b<0
  · rw [qk9 h1 ha.1, qk9 h2 hb.1]
    simp only [h1,h2,if_true,and_self,Int.add_mul,Int.mul_add]
    have:b*18446744073709551616=18446744073709551616*b:=Int.mul_comm _ _
    omega
  · rw [qk9 h1 ha.1, qk8 (by omega) hb.2]
    simp only [h1,h2,if_true,if_false,and_false,Int.add_mul,Int.mul_add]
    omega
  · rw [qk8 (by omega) ha.2, qk9 h2 hb.1]
    simp only [h1,h2,if_true,if_false,false_and,Int.add_mul,Int.mul_add]
    omega
  · rw [qk8 (by omega) ha.2, qk8 (by omega) hb.2]
    simp only [h1,h2,if_false,false_and]
    omega
def hiOf (a b:Int):Int:=wrap64 (wrap64 (wrap64 ((un a*un b / 18446744073709551616:Nat):Int) - (if a<0 then b else 0)) - (if b<0 then a else 0))
theorem qkb (a b:Int) (ha:-9223372036854775808≤a∧a<9223372036854775808) (hb:-9223372036854775808≤b∧b<9223372036854775808) (hP:-77371252455336267181195264≤a*b∧a*b≤77371252455336267181195264):hiOf a b=a*b / 18446744073709551616:=by
  have h:=qka a b ha hb
  unfold hiOf
  generalize un a*un b=U at h
  generalize a*b=P at h hP ⊢
  unfold wrap64
  by_cases h1:a<0<;>by_cases h2:b<0<;>simp only [h1,h2,if_true,if_false,and_true,and_false,and_self,Int.sub_zero,Int.add_zero,Int.zero_add,Int.mul_zero] at h ⊢ <;> omega
theorem qkc (a b:Int) (ha:-9223372036854775808≤a∧a<9223372036854775808) (hb:-9223372036854775808≤b∧b<9223372036854775808):((un a*un b % 18446744073709551616:Nat):Int)=a*b % 18446744073709551616:=by
  have h:=qka a b ha hb
  generalize un a*un b=U at h ⊢
  generalize a*b=P at h ⊢
  by_cases h1:a<0<;>by_cases h2:b<0<;>simp only [h1,h2,if_true,if_false,and_true,and_false,and_self,Int.add_zero,Int.zero_add,Int.mul_zero] at h<;>omega
def farD (p q:Pt) (n d:Int):Int:=(p.a - q.a)*d+(p.b - q.b)*n
def leads (p q:Pt) (n d:Int):Bool:=if farD p q n d≠0 then decide (0<farD p q n d) else if p.b≠q.b then decide (q.b<p.b) else decide (p.id<q.id)
def cmpZ (a b:Int):Int:=if a<b then -1 else if b<a then 1 else 0
theorem qkd {a b:Int} (h:a<b):cmpZ a b=-1:=if_pos h
theorem qke {a b:Int} (h:b<a):cmpZ a b=1:=by unfold cmpZ;rw [if_neg (by omega),if_pos h]
theorem qkf {a b:Int} (h:a=b):cmpZ a b=0:=by unfold cmpZ;rw [if_neg (by omega),if_neg (by omega)]
def orZ (x y:Int):Int:=if x≠0 then x else y
theorem qkg {x y:Int} (h:x=0):orZ x y=y:=if_neg (by simpa using h)
theorem qkh {x y:Int} (h:x≠0):orZ x y=x:=if_pos h
def cmpC (p q:Pt) (n d:Int):Int:=if farD p q n d<0 then -1 else if 0<farD p q n d then 1 else if cmpZ p.b q.b≠0 then cmpZ p.b q.b else cmpZ q.id p.id
theorem qki {p q:Pt} {n d:Int} (h:farD p q n d<0):cmpC p q n d=-1:=if_pos h
theorem qkj {p q:Pt} {n d:Int} (h:0<farD p q n d):cmpC p q n d=1:=by unfold cmpC;rw [if_neg (by omega),if_pos h]
theorem qkk {p q:Pt} {n d:Int} (h:farD p q n d=0) (hb:p.b≠q.b):cmpC p q n d=cmpZ p.b q.b:=by
  unfold cmpC;rw [if_neg (by omega),if_neg (by omega),if_pos]
  rcases Int.lt_or_gt_of_ne hb with h1 | h1
  · rw [qkd h1];decide
  · rw [qke h1];decide
theorem qkl {p q:Pt} {n d:Int} (h:farD p q n d=0) (hb:p.b=q.b):cmpC p q n d=cmpZ q.id p.id:=by
  unfold cmpC;rw [if_neg (by omega),if_neg (by omega),if_neg (by rw [qkf hb];decide)]
theorem qkm (p q:Pt) (n d:Int):decide (0<cmpC p q n d)=leads p q n d:=by
  unfold leads
  rcases (by omega:farD p q n d<0∨farD p q n d=0∨0<farD p q n d) with h | h | h
  · rw [qki h,if_pos (by omega)];simp;omega
  · rw [if_neg (by omega)]
    by_cases hb:p.b=q.b
    · rw [qkl h hb, if_neg (by omega)]
      rcases (by omega:p.id<q.id∨q.id<p.id∨p.id=q.id) with h2 | h2 | h2
      · rw [qke h2];simp;omega
      · rw [qkd h2];simp;omega
      · rw [qkf h2.symm];simp;omega
    · rw [qkk h hb, if_pos hb]
      rcases (by omega:p.b<q.b∨q.b<p.b) with h1 | h1
      · rw [qkd h1];simp;omega
      · rw [qke h1];simp;omega
  · rw [qkj h,if_pos (by omega)];simp;omega
def qkn (p q:Pt) (n d:Int):Int:=if p.chk=0∧q.chk=0∧qcv n d=0 then (if p.id=q.id then 2 else 0) else 8
theorem qko {p q:Pt} {n d:Int} (h:¬ (p.chk=0∧q.chk=0∧qcv n d=0)):qkn p q n d=8:=if_neg h
theorem qkp {p q:Pt} {n d:Int} (h:p.chk=0∧q.chk=0∧qcv n d=0) (hi:p.id=q.id):qkn p q n d=2:=by unfold qkn;rw [if_pos h,if_pos hi]
theorem qkq {p q:Pt} {n d:Int} (h:p.chk=0∧q.chk=0∧qcv n d=0) (hi:p.id≠q.id):qkn p q n d=0:=by unfold qkn;rw [if_pos h,if_neg hi]
theorem qkr {p q:Pt} {n d:Int} (h:qkn p q n d=0):p.chk=0∧q.chk=0∧qcv n d=0∧p.id≠q.id:=by
  unfold qkn at h
  split at h
  · rename_i h1
    split at h
    · omega
    · exact ⟨h1.1,h1.2.1,h1.2.2,‹_›⟩
  · omega
def qks (p q:Pt) (n d:Int):Bool×Int:=if qkn p q n d=0 then (leads p q n d,0) else (false,qkn p q n d)
end Go.Pel

namespace Go.Proofs
open Go.Shelf
def Tryz.lays264_ren:Go.Shelf.Ren:=⟨fun | 264=>123 | n=>n,fun | 53=>98 | 46=>202 | n=>n,fun | n=>n⟩
theorem Tryz.lays264:Go.Proofs.Lays.n264 Tryz.prog Tryz.lays264_ren:={
  mixed:=by kernel_rfl
  f264:=Tryz.func123.trans (congrArg some (by kernel_rfl))
  t46:=Tryz.underlying202
  a46:=Tryz.isAgg202
  z46:=Tryz.sizeOf202
  v46:=Tryz.zeroValue202
  t53:=Tryz.underlying98
  a53:=Tryz.isAgg98
  z53:=Tryz.sizeOf98
  v53:=Tryz.zeroValue98 }
open Go.RowKit Go.Lib in
theorem Tryz.bits_Mul64 (x y:Nat) (hx:x<18446744073709551616) (hy:y<18446744073709551616) (w:World) :
    Calls Tryz.prog 123 #[.int .u64 x,.int .u64 y] w fun e w'=>e=.returned (.tuple #[.int .u64 ((x*y / 18446744073709551616:Nat):Int),.int .u64 ((x*y % 18446744073709551616:Nat):Int)])∧w'=w:=Any.bits_Mul64 Tryz.lays264 x y hx hy w
end Go.Proofs

namespace Go.Proofs.YtpfhgnccpiildaaGreat
open Go.RowKit Go.Pel
theorem qkt (x y c:Nat) (hx:x<18446744073709551616) (hy:y<18446744073709551616) (hc:c≤1) (w:World) :
    (callFunc 145 #[.int .u64 x,.int .u64 y,.int .u64 c]).run Tryz.prog w =
      .ok (.value (.tuple #[.int .u64 (((x+y+c) % 18446744073709551616:Nat):Int),.int .u64 (((x+y+c) / 18446744073709551616:Nat):Int)])) w:=by
  rw [run_callFunc_extern Tryz.func145 (by kernel_rfl) (by kernel_rfl) (by kernel_rfl) (e:=add64Entry) (by kernel_rfl),run_add64 x y c (by omega) (by omega) (by omega) (by omega)]
  simp only [Result.andThen]
  congr 5<;>omega
theorem qku {a b Z:Int} {H:Nat} (hH:un a*un b / 18446744073709551616=H) (hZ:hiOf a b=Z):(decide (a<0)=true∧decide (b<0)=true∧wrap64 (wrap64 (wrap64 (H:Int) - b) - a)=Z)∨(decide (a<0)=true∧decide (b<0)=false∧wrap64 (wrap64 (H:Int) - b)=Z)∨(decide (a<0)=false∧decide (b<0)=true∧wrap64 (wrap64 (H:Int) - a)=Z)∨(decide (a<0)=false∧decide (b<0)=false∧wrap64 (H:Int)=Z):=by
  have w2:∀ x,wrap64 (wrap64 x)=wrap64 x:=fun x=>by unfold wrap64;omega
  unfold hiOf at hZ
  rw [hH] at hZ
  by_cases h1:a<0<;>by_cases h2:b<0<;>simp only [h1,h2,if_true,if_false,Int.sub_zero,w2] at hZ<;>simp [h1,h2,hZ]
theorem qkv (a b:Int) (H L:Nat) (hH:un a*un b / 18446744073709551616=H) (hL:un a*un b % 18446744073709551616=L) (w:World) :
    Calls Tryz.prog 123 #[.int .u64 (IntKind.u64.wrap a),.int .u64 (IntKind.u64.wrap b)] w fun e w'=>e=.returned (.tuple #[.int .u64 (H:Int),.int .u64 (L:Int)])∧∃ x,w'=ext w x:=by
  have h:=Tryz.bits_Mul64 (un a) (un b) (qk6 a) (qk6 b) w
  rw [hH,hL] at h
  have e1:((un a:Nat):Int)=IntKind.u64.wrap a:=by rw [qk7,IntKind.wrap_u64]
  have e2:((un b:Nat):Int)=IntKind.u64.wrap b:=by rw [qk7,IntKind.wrap_u64]
  rw [e1,e2] at h
  exact h.mono fun _ _ ⟨he,hw⟩=>⟨he,ext_of (hw ▸ Bel.refl _)⟩
theorem qkw (L:Nat) (hL:L<18446744073709551616) (w:World):(callFunc 145 #[.int .u64 0,.int .u64 (L:Int),.int .u64 0]).run Tryz.prog w=.ok (.value (.tuple #[.int .u64 (L:Int),.int .u64 0])) w:=by
  have h:=qkt 0 L 0 (by omega) hL (by omega) w
  have e1:(0+L+0) % 18446744073709551616=L:=by omega
  have e2:(0+L+0) / 18446744073709551616=0:=by omega
  rw [e1,e2] at h
  exact h
set_option maxRecDepth 10000 in
set_option maxHeartbeats 8000000 in
theorem qkx (a b c d:Int) (w:World) (ha:-9223372036854775808≤a∧a<9223372036854775808) (hb:-9223372036854775808≤b∧b<9223372036854775808) (hc:-9223372036854775808≤c∧c<9223372036854775808) (hd:-9223372036854775808≤d∧d<9223372036854775808)
    (hab:-38685626227668133590597632≤a*b∧a*b≤38685626227668133590597632) (hcd:-38685626227668133590597632≤c*d∧c*d≤38685626227668133590597632) :
    Calls Tryz.prog 105 #[.agg #[.int .i64 a,.int .i64 b,.int .i64 c,.int .i64 d]] w fun e w'=>e=.returned (.agg #[.int .i64 ((a*b+c*d) / 18446744073709551616),.int .u64 ((a*b+c*d) % 18446744073709551616)])∧∃ x,w'=ext w x:=by
  have i0:∀ w,(Instr.index 159 (.agg #[.int .i64 a,.int .i64 b,.int .i64 c,.int .i64 d]) (.int .i64 0)).run Tryz.prog w=.ok (.agg #[.int .i64 a,.int .i64 b]) w:=fun _=>by kernel_rfl
  have i1:∀ w,(Instr.index 159 (.agg #[.int .i64 a,.int .i64 b,.int .i64 c,.int .i64 d]) (.int .i64 1)).run Tryz.prog w=.ok (.agg #[.int .i64 c,.int .i64 d]) w:=fun _=>by kernel_rfl
  obtain ⟨H1,hH1⟩:∃ H,un a*un b / 18446744073709551616=H:=⟨_,rfl⟩
  obtain ⟨L1,hL1⟩:∃ L,un a*un b % 18446744073709551616=L:=⟨_,rfl⟩
  obtain ⟨H2,hH2⟩:∃ H,un c*un d / 18446744073709551616=H:=⟨_,rfl⟩
  obtain ⟨L2,hL2⟩:∃ L,un c*un d % 18446744073709551616=L:=⟨_,rfl⟩
  have q1:=Lib.hid (qkv a b H1 L1 hH1 hL1)
  have q2:=Lib.hid (qkv c d H2 L2 hH2 hL2)
  have a1:=qkw L1 (by omega)
  have L1b:L1<18446744073709551616:=by omega
  have L2b:L2<18446744073709551616:=by omega
  obtain ⟨S,hS⟩:∃ S,(L1+L2+0) % 18446744073709551616=S:=⟨_,rfl⟩
  obtain ⟨C,hC⟩:∃ C,(L1+L2+0) / 18446744073709551616=C:=⟨_,rfl⟩
  have a2:∀ w,(callFunc 145 #[.int .u64 (L1:Int),.int .u64 (L2:Int),.int .u64 0]).run Tryz.prog w=.ok (.value (.tuple #[.int .u64 (S:Int),.int .u64 (C:Int)])) w:=fun w=>by
    have h:=qkt L1 L2 0 L1b L2b (by omega) w
    rw [hS,hC] at h;exact h
  obtain ⟨Z1,hZ1⟩:∃ Z,hiOf a b=Z:=⟨_,rfl⟩
  obtain ⟨Z2,hZ2⟩:∃ Z,hiOf c d=Z:=⟨_,rfl⟩
  have z1:Z1=a*b / 18446744073709551616:=by rw [← hZ1];exact qkb a b ha hb (by omega)
  have z2:Z2=c*d / 18446744073709551616:=by rw [← hZ2];exact qkb c d hc hd (by omega)
  have l1:=qkc a b ha hb
  have l2:=qkc c d hc hd
  rw [hL1] at l1
  rw [hL2] at l2
  have k1:=qku hH1 hZ1
  have k2:=qku hH2 hZ2
  have w1:wrap64 Z1=Z1:=by unfold wrap64;omega
  have hfin:Hid (wrap64 (wrap64 (Z1+Z2)+wrap64 (C:Int))=(a*b+c*d) / 18446744073709551616∧(S:Int)=(a*b+c*d) % 18446744073709551616):=Lib.hid (by
    have hs:(S:Int)=((L1:Int)+L2) % 18446744073709551616:=by omega
    have hcc:(C:Int)=((L1:Int)+L2) / 18446744073709551616:=by omega
    generalize a*b=P1 at *
    generalize c*d=P2 at *
    unfold wrap64
    constructor<;>omega)
  have HF:=hfin
  clear hH1 hL1 hH2 hL2 hS hC hZ1 hZ2 z1 z2 l1 l2 hab hcd hfin L1b L2b
  obtain ⟨ha1,ha2⟩:=ha;obtain ⟨hb1,hb2⟩:=hb;obtain ⟨hc1,hc2⟩:=hc;obtain ⟨hd1,hd2⟩:=hd
  rcases k1 with ⟨sa,sb,e1⟩ | ⟨sa,sb,e1⟩ | ⟨sa,sb,e1⟩ | ⟨sa,sb,e1⟩
  all_goals
    rcases k2 with ⟨sc,sd,e2⟩ | ⟨sc,sd,e2⟩ | ⟨sc,sd,e2⟩ | ⟨sc,sd,e2⟩
  all_goals
    go_enter Tryz.func105,Tryz.ntmps105
    go_wp2
    refine wp_loop_rounds 3 ?_
    rw [rounds_succ]
    go_wp2_with ((go_at_call 123;refine (q1.out _).mono ?_;rintro e _ ⟨rfl,y1,rfl⟩))
    rw [rounds_succ]
    go_wp2_with ((go_at_call 123;refine (q2.out _).mono ?_;rintro e _ ⟨rfl,y2,rfl⟩))
    rw [rounds_succ]
    go_wp2
    exact bodyPost_ret (v:=.agg #[.int .i64 (wrap64 (wrap64 (Z1+Z2)+wrap64 (C:Int))),.int .u64 (S:Int)]) (by simp [results,Tryz.results105,go_sem]) rfl ⟨by rw [HF.out.1,HF.out.2],ext_of (by (try simp only [qbh]);repeat (first | exact Bel.refl _ | assumption | refine qbq ?_ _ | refine qbr ?_ _ | refine Bel.ext ?_ _ | refine Bel.alloc ?_ _ | refine Bel.drewN ?_ _))⟩
end Go.Proofs.YtpfhgnccpiildaaGreat

namespace Go.Proofs.YtpfhgnccpiildaaGreat
open Go.RowKit Go.Pel
def cmpI (a b:Int):Int:=if a<b then -1 else if b<a then 1 else 0
theorem qky {a b:Int} (h:a<b):cmpI a b=-1:=if_pos h
theorem qkz {a b:Int} (h:b<a):cmpI a b=1:=by unfold cmpI;rw [if_neg (by omega),if_pos h]
theorem ql0 {a b:Int} (h:a=b):cmpI a b=0:=by unfold cmpI;rw [if_neg (by omega),if_neg (by omega)]
set_option maxHeartbeats 400000 in
theorem ql1 (a b:Int) (w:World):Calls Tryz.prog 140 #[.int .i64 a,.int .i64 b] w fun e w'=>e=.returned (.int .i64 (cmpI a b))∧∃ x,w'=ext w x:=by
  rcases (by omega:a<b∨b<a∨a=b) with h | h | h
  · have H := Lib.hid (qky h)
    have h2:¬ b<a:=by omega
    go_enter Tryz.func140,Tryz.ntmps140
    go_wp2
    (go_ret;exact ⟨qjp (by exact H.out.symm),ext_of (by (try simp only [qbh]);repeat (first | exact Bel.refl _ | assumption | refine qbq ?_ _ | refine qbr ?_ _ | refine Bel.ext ?_ _ | refine Bel.alloc ?_ _ | refine Bel.drewN ?_ _))⟩)
  · have H := Lib.hid (qkz h)
    have h2:¬ a<b:=by omega
    go_enter Tryz.func140,Tryz.ntmps140
    go_wp2
    (go_ret;exact ⟨qjp (by exact H.out.symm),ext_of (by (try simp only [qbh]);repeat (first | exact Bel.refl _ | assumption | refine qbq ?_ _ | refine qbr ?_ _ | refine Bel.ext ?_ _ | refine Bel.alloc ?_ _ | refine Bel.drewN ?_ _))⟩)
  · have H := Lib.hid (ql0 h)
    have h2:¬ a<b:=by omega
    have h3:¬ b<a:=by omega
    clear h
    go_enter Tryz.func140,Tryz.ntmps140
    go_wp2
    (go_ret;exact ⟨qjp (by exact H.out.symm),ext_of (by (try simp only [qbh]);repeat (first | exact Bel.refl _ | assumption | refine qbq ?_ _ | refine qbr ?_ _ | refine Bel.ext ?_ _ | refine Bel.alloc ?_ _ | refine Bel.drewN ?_ _))⟩)
end Go.Proofs.YtpfhgnccpiildaaGreat

namespace Go.Proofs.YtpfhgnccpiildaaGreat
open Go.RowKit Go.Pel
set_option maxHeartbeats 400000 in
theorem ql2 (a b:Int) (w:World):Calls Tryz.prog 140 #[.int .i64 a,.int .i64 b] w fun e w'=>e=.returned (.int .i64 (cmpZ a b))∧∃ x,w'=ext w x:=ql1 a b w
set_option maxHeartbeats 400000 in
theorem ql3 (a b:Int) (w:World):Calls Tryz.prog 126 #[.int .i64 a,.int .i64 b] w fun e w'=>e=.returned (.int .i64 (cmpZ a b))∧∃ x,w'=ext w x:=by
  rcases (by omega:a<b∨b<a∨a=b) with h | h | h
  · have H := Lib.hid (qkd h)
    have h2:¬ b<a:=by omega
    go_enter Tryz.func126,Tryz.ntmps126
    go_wp2
    (go_ret;exact ⟨qjp (by exact H.out.symm),ext_of (by (try simp only [qbh]);repeat (first | exact Bel.refl _ | assumption | refine qbq ?_ _ | refine qbr ?_ _ | refine Bel.ext ?_ _ | refine Bel.alloc ?_ _ | refine Bel.drewN ?_ _))⟩)
  · have H := Lib.hid (qke h)
    have h2:¬ a<b:=by omega
    go_enter Tryz.func126,Tryz.ntmps126
    go_wp2
    (go_ret;exact ⟨qjp (by exact H.out.symm),ext_of (by (try simp only [qbh]);repeat (first | exact Bel.refl _ | assumption | refine qbq ?_ _ | refine qbr ?_ _ | refine Bel.ext ?_ _ | refine Bel.alloc ?_ _ | refine Bel.drewN ?_ _))⟩)
  · have H := Lib.hid (qkf h)
    have h2:¬ a<b:=by omega
    have h3:¬ b<a:=by omega
    clear h
    go_enter Tryz.func126,Tryz.ntmps126
    go_wp2
    (go_ret;exact ⟨qjp (by exact H.out.symm),ext_of (by (try simp only [qbh]);repeat (first | exact Bel.refl _ | assumption | refine qbq ?_ _ | refine qbr ?_ _ | refine Bel.ext ?_ _ | refine Bel.alloc ?_ _ | refine Bel.drewN ?_ _))⟩)
set_option maxHeartbeats 1000000 in
theorem ql4 (x y:Int) (g:Nat) (w:World) (hg:g<w.heap.size) (h0:w.cell? ⟨g,0,none⟩=some (.int .i64 x)) (h1:w.cell? ⟨g,1,none⟩=some (.int .i64 y)) :
    Calls Tryz.prog 151 #[.slice (some ⟨g,0,none⟩) 2 2] w fun e w'=>e=.returned (.int .i64 (orZ x y))∧∃ x,w'=ext w x:=by
  by_cases hx:x=0
  · have HR : Hid (orZ x y = y) := Lib.hid (qkg hx)
    have hx1:(x == 0)=true:=by simpa using hx
    have hx2:(x != 0)=false:=by simpa using hx
    clear hx
    by_cases hy:y=0
    · have HY := Lib.hid hy
      have hy1:(y == 0)=true:=by simpa using hy
      have hy2:(y != 0)=false:=by simpa using hy
      clear hy
      go_enter Tryz.func151,Tryz.ntmps151
      go_wp2
      refine wp_loop_rounds 3 ?_
      rw [rounds_succ]
      go_wp2
      rw [rounds_succ]
      go_wp2
      rw [rounds_succ]
      go_wp2
      (go_ret;exact ⟨qjp (by rw [HR.out,HY.out]),ext_of (by (try simp only [qbh]);repeat (first | exact Bel.refl _ | assumption | refine qbq ?_ _ | refine qbr ?_ _ | refine Bel.ext ?_ _ | refine Bel.alloc ?_ _ | refine Bel.drewN ?_ _))⟩)
    · have hy1 : (y == 0) = false := by simpa using hy
      have hy2:(y != 0)=true:=by simpa using hy
      clear hy
      go_enter Tryz.func151,Tryz.ntmps151
      go_wp2
      refine wp_loop_rounds 3 ?_
      rw [rounds_succ]
      go_wp2
      rw [rounds_succ]
      go_wp2
      (go_ret;exact ⟨qjp (by exact HR.out.symm),ext_of (by (try simp only [qbh]);repeat (first | exact Bel.refl _ | assumption | refine qbq ?_ _ | refine qbr ?_ _ | refine Bel.ext ?_ _ | refine Bel.alloc ?_ _ | refine Bel.drewN ?_ _))⟩)
  · have HR : Hid (orZ x y = x) := Lib.hid (qkh hx)
    have hx1:(x == 0)=false:=by simpa using hx
    have hx2:(x != 0)=true:=by simpa using hx
    clear hx
    go_enter Tryz.func151,Tryz.ntmps151
    go_wp2
    refine wp_loop_rounds 3 ?_
    rw [rounds_succ]
    go_wp2
    (go_ret;exact ⟨qjp (by exact HR.out.symm),ext_of (by (try simp only [qbh]);repeat (first | exact Bel.refl _ | assumption | refine qbq ?_ _ | refine qbr ?_ _ | refine Bel.ext ?_ _ | refine Bel.alloc ?_ _ | refine Bel.drewN ?_ _))⟩)
structure CmpIn (p q:Pt) (n d:Int):Prop where
  pa:-1048576≤p.a∧p.a≤1048576
  pb:-1048576≤p.b∧p.b≤1048576
  qa:-1048576≤q.a∧q.a≤1048576
  qb:-1048576≤q.b∧q.b≤1048576
  n:-9223372036854775807≤n∧n≤9223372036854775807
  d:1≤d∧d≤9223372036854775807
theorem ql5 (a b A B:Int) (ha:-A≤a∧a≤A) (hb:-B≤b∧b≤B):-(A*B)≤a*b∧a*b≤A*B:=by
  have hA:0≤A:=by omega
  have hB:0≤B:=by omega
  have h1:0≤(A - a)*(B+b):=Int.mul_nonneg (by omega) (by omega)
  have h2:0≤(A+a)*(B - b):=Int.mul_nonneg (by omega) (by omega)
  have h3:0≤(A - a)*(B - b):=Int.mul_nonneg (by omega) (by omega)
  have h4:0≤(A+a)*(B+b):=Int.mul_nonneg (by omega) (by omega)
  simp only [Int.sub_mul,Int.add_mul,Int.mul_sub,Int.mul_add] at h1 h2 h3 h4
  omega
theorem ql6 {p q:Pt} {n d:Int} (h:CmpIn p q n d):(-38685626227668133590597632≤(p.a - q.a)*d∧(p.a - q.a)*d≤38685626227668133590597632)∧(-38685626227668133590597632≤(p.b - q.b)*n∧(p.b - q.b)*n≤38685626227668133590597632):=by
  obtain ⟨h1,h2,h3,h4,h5,h6⟩:=h
  have k1:=ql5 (p.a - q.a) d 2097152 9223372036854775807 (by omega) (by omega)
  have k2:=ql5 (p.b - q.b) n 2097152 9223372036854775807 (by omega) (by omega)
  omega
theorem ql7 (h l h' l':Int) (w:World):(Op.equalIn 10000 156 (.agg #[.int .i64 h,.int .u64 l]) (.agg #[.int .i64 h',.int .u64 l'])).run Tryz.prog w=.ok (decide (h=h'∧l=l')) w:=by
  simp [go_sem]
  by_cases h1:h=h'<;>by_cases h2:l=l'<;>simp [h1,h2]
attribute [local go_sem ↓] ql7
set_option maxRecDepth 10000 in
set_option maxHeartbeats 2000000 in
theorem ql8 (p q:Pt) (n d:Int) (w:World) (h:CmpIn p q n d) :
    Calls Tryz.prog 144 #[.agg #[.int .i64 p.id,.int .i64 p.a,.int .i64 p.b],.agg #[.int .i64 q.id,.int .i64 q.a,.int .i64 q.b],.agg #[.int .i64 n,.int .i64 d]] w fun e w'=>e=.returned (.int .i64 (cmpC p q n d))∧∃ x,w'=ext w x:=by
  obtain ⟨k1,k2⟩:=ql6 h
  obtain ⟨h1,h2,h3,h4,h5,h6⟩:=h
  have hs:=qkx (p.a - q.a) d (p.b - q.b) n
  have hs':=fun w=>hs w (by omega) (by omega) (by omega) (by omega) k1 k2
  obtain ⟨D,hD⟩:∃ D,farD p q n d=D:=⟨_,rfl⟩
  have hD':(p.a - q.a)*d+(p.b - q.b)*n=D:=hD
  rw [hD'] at hs'
  obtain ⟨hi,hhi⟩:∃ x,D / 18446744073709551616=x:=⟨_,rfl⟩
  obtain ⟨lo,hlo⟩:∃ x,D % 18446744073709551616=x:=⟨_,rfl⟩
  rw [hhi,hlo] at hs'
  have q1:=Lib.hid hs'
  have HD:=Lib.hid hD
  obtain ⟨a1,a2⟩:=h1;obtain ⟨a3,a4⟩:=h2;obtain ⟨a5,a6⟩:=h3;obtain ⟨a7,a8⟩:=h4
  rcases (by omega:D<0∨0<D∨D=0) with hd0 | hd0 | hd0
  · have hne : decide (hi = 0 ∧ lo = 0) = false := by rw [decide_eq_false_iff_not]; omega
    have hlt:hi<0:=by omega
    have HR:=Lib.hid (qki (p:=p) (q:=q) (n:=n) (d:=d) (by omega))
    clear hs hs' hD hD' hhi hlo k1 k2 h5 h6 hd0
    go_enter Tryz.func144,Tryz.ntmps144
    go_wp2_with ((go_at_call 105;refine (q1.out _).mono ?_;rintro e _ ⟨rfl,nx,rfl⟩))
    (go_ret;exact ⟨qjp (by exact HR.out.symm),ext_of (by (try simp only [qbh]);repeat (first | exact Bel.refl _ | assumption | refine qbq ?_ _ | refine qbr ?_ _ | refine Bel.ext ?_ _ | refine Bel.alloc ?_ _ | refine Bel.drewN ?_ _))⟩)
  · have hne : decide (hi = 0 ∧ lo = 0) = false := by rw [decide_eq_false_iff_not]; omega
    have hlt:¬ hi<0:=by omega
    have HR:=Lib.hid (qkj (p:=p) (q:=q) (n:=n) (d:=d) (by omega))
    clear hs hs' hD hD' hhi hlo k1 k2 h5 h6 hd0
    go_enter Tryz.func144,Tryz.ntmps144
    go_wp2_with ((go_at_call 105;refine (q1.out _).mono ?_;rintro e _ ⟨rfl,nx,rfl⟩))
    (go_ret;exact ⟨qjp (by exact HR.out.symm),ext_of (by (try simp only [qbh]);repeat (first | exact Bel.refl _ | assumption | refine qbq ?_ _ | refine qbr ?_ _ | refine Bel.ext ?_ _ | refine Bel.alloc ?_ _ | refine Bel.drewN ?_ _))⟩)
  · have hne : decide (hi = 0 ∧ lo = 0) = true := by rw [decide_eq_true_eq]; omega
    have HR:Hid (orZ (cmpZ p.b q.b) (cmpZ q.id p.id)=cmpC p q n d):=Lib.hid (by unfold cmpC;rw [if_neg (by omega),if_neg (by omega)];rfl)
    clear hs hs' hD hD' hhi hlo k1 k2 h5 h6 hd0
    go_enter Tryz.func144,Tryz.ntmps144
    go_wp2_with ((go_at_call 105;refine (q1.out _).mono ?_;rintro e _ ⟨rfl,y1,rfl⟩))
    go_region_held3 (fun w'=>w'.cell? ⟨w.heap.size,0,none⟩=some (.int .i64 p.id)∧w'.cell? ⟨w.heap.size,1,none⟩=some (.int .i64 p.a)∧w'.cell? ⟨w.heap.size,2,none⟩=some (.int .i64 p.b)∧w'.cell? ⟨w.heap.size+1,0,none⟩=some (.int .i64 q.id)∧w'.cell? ⟨w.heap.size+1,1,none⟩=some (.int .i64 q.a)∧w'.cell? ⟨w.heap.size+1,2,none⟩=some (.int .i64 q.b)) (simp [go_sem]) ((first | (go_at_call 140;refine (ql2 _ _ _).mono ?_;rintro e _ ⟨rfl,nx,rfl⟩) | (go_at_call 126;refine (ql3 _ _ _).mono ?_;rintro e _ ⟨rfl,nx,rfl⟩) | (go_at_call 151;refine (ql4 (cmpZ p.b q.b) (cmpZ q.id p.id) _ _ (by simp [go_sem]) (by simp [go_sem]) (by simp [go_sem])).mono ?_;rintro e _ ⟨rfl,nx,rfl⟩)))
    all_goals
      go_wp2
      (go_ret;exact ⟨qjp (by exact HR.out),ext_of (by (try simp only [qbh]);repeat (first | exact Bel.refl _ | assumption | refine qbq ?_ _ | refine qbr ?_ _ | refine Bel.ext ?_ _ | refine Bel.alloc ?_ _ | refine Bel.drewN ?_ _))⟩)
end Go.Proofs.YtpfhgnccpiildaaGreat

namespace Go.Proofs.YtpfhgnccpiildaaGreat
open Go.RowKit Go.Pel
theorem ql9 (p:Pt) (v:Int) (h:p.chk=v) (W:World):Calls Tryz.prog 98 #[.agg #[.int .i64 p.id,.int .i64 p.a,.int .i64 p.b]] W fun e w'=>e=.returned (.int .i64 v)∧∃ y,w'=ext W y:=by
  subst h;exact qjz p.id p.a p.b W
theorem qla (p:Pt) (v:Int) (h:p.chk=v) (W:World):Calls Tryz.prog 96 #[.agg #[.int .i64 p.id,.int .i64 p.a,.int .i64 p.b]] W fun e w'=>e=.returned (.int .i64 v)∧∃ y,w'=ext W y:=by
  subst h;exact qk0 p.id p.a p.b W
set_option maxRecDepth 10000 in
set_option maxHeartbeats 2000000 in
theorem qlb (A:Option Addr) (c:Nat) (l:List Pt) (w:World) (hs:Sl w 3 A l.length c (vp l)) :
    Calls Tryz.prog 97 #[.agg #[.slice A l.length c]] w fun e w'=>e=.returned (.int .i64 (qfx l))∧∃ x,w'=ext w x:=by
  by_cases hm:64<l.length
  · have E1 := Lib.hid (qfy hm)
    go_enter Tryz.func97,Tryz.ntmps97
    go_wp2
    (go_ret;exact ⟨qjp (by exact E1.out.symm),ext_of (by (try simp only [qbh]);repeat (first | exact Bel.refl _ | assumption | refine qbq ?_ _ | refine qbr ?_ _ | refine Bel.ext ?_ _ | refine Bel.alloc ?_ _ | refine Bel.drewN ?_ _))⟩)
  · have E1 := Lib.hid (fun p (hp : p ∈ l) hc => qfz (l := l) (by omega) hp hc)
    have E2:=Lib.hid (qg0 (l:=l) (by omega))
    have E3:=Lib.hid (qg1 (l:=l) (by omega))
    go_enter Tryz.func97,Tryz.ntmps97
    go_wp2
    go_loopw [15] (fun i wr=>∃ (k:Nat),k≤l.length∧i=.int .i64 k∧(∀ p∈l.take k,p.chk=0)∧∃ y,wr=ext (w.alloc (.cells #[.slice A l.length c] 24)) y) (fun i _=>l.length - (intOf i).toNat)
    case atStart=>exact ⟨0,Nat.zero_le _,rfl,by simp,ext_of (Bel.refl _)⟩
    case round =>
      obtain ⟨k,hk,rfl,hall,y,rfl⟩:=hrel
      have HA:=Lib.hid hall;clear hall
      by_cases hlt:k<l.length
      · obtain ⟨p, hp⟩ : ∃ p, l[k]? = some p := ⟨_, List.getElem?_eq_getElem hlt⟩
        obtain ⟨b,o,rfl,hb⟩:=hs.at_ (by omega)
        obtain ⟨r0,r1,r2⟩:=qfu hs hp
        have HP:=Lib.hid hp;clear hp
        rcases qg5 p with h | h
        · have e1 := Lib.hid (ql9 p 0 h)
          have HC:=Lib.hid h;clear h
          go_wp2_with ((go_at_call 98;refine (e1.out _).mono ?_;rintro e _ ⟨rfl,nx,rfl⟩))
          go_roundw
          case rel =>
            refine ⟨k+1,by omega,by go_num,?_,ext_of (by (try simp only [qbh]);repeat (first | exact Bel.refl _ | assumption | refine qbq ?_ _ | refine qbr ?_ _ | refine Bel.ext ?_ _ | refine Bel.alloc ?_ _ | refine Bel.drewN ?_ _))⟩
            intro q hq
            rw [List.take_add_one,HP.out] at hq
            rcases List.mem_append.1 hq with hq | hq
            · exact HA.out q hq
            · simp at hq;subst hq;exact HC.out
          case measure=>(first | (simp [intOf];done) | (simp [intOf];omega))
        · have e1 := Lib.hid (ql9 p 8 h)
          have HC:=Lib.hid (E1.out p (List.mem_of_getElem? HP.out) (by rw [h];decide));clear h
          go_wp2_with ((go_at_call 98;refine (e1.out _).mono ?_;rintro e _ ⟨rfl,nx,rfl⟩))
          (go_ret;exact ⟨qjp (by exact HC.out.symm),ext_of (by (try simp only [qbh]);repeat (first | exact Bel.refl _ | assumption | refine qbq ?_ _ | refine qbr ?_ _ | refine Bel.ext ?_ _ | refine Bel.alloc ?_ _ | refine Bel.drewN ?_ _))⟩)
      · obtain rfl : k = l.length := by omega
        have hc0:=HA.out
        rw [List.take_length] at hc0
        have HC:=Lib.hid hc0;clear hc0
        go_wp2
        go_loopw [28] (fun i wr=>∃ (k:Nat),k≤l.length∧i=.int .i64 k∧(∀ (i:Nat) (p q:Pt),i+1<k→l[i]?=some p→l[i+1]?=some q→p.id<q.id)∧∃ y,wr=ext (w.alloc (.cells #[.slice A l.length c] 24)) y) (fun i _=>l.length - (intOf i).toNat)
        case atStart=>exact ⟨0,Nat.zero_le _,rfl,(by intro i p q h;omega),y,rfl⟩
        case round =>
          clear hk hlt HA
          obtain ⟨k,hk,rfl,hall,y2,rfl⟩:=hrel
          have HA:=Lib.hid hall;clear hall
          by_cases hlt:k<l.length
          · obtain ⟨p, hp⟩ : ∃ p, l[k]? = some p := ⟨_, List.getElem?_eq_getElem hlt⟩
            obtain ⟨b,o,rfl,hb⟩:=hs.at_ (by omega)
            obtain ⟨r0,r1,r2⟩:=qfu hs hp
            have HP:=Lib.hid hp;clear hp
            by_cases hk0:0<k
            · obtain ⟨m, rfl⟩ : ∃ m, k = m + 1 := ⟨k - 1, by omega⟩
              have hmlt:m<l.length:=by omega
              obtain ⟨q,hq⟩:∃ q,l[m]?=some q:=⟨_,List.getElem?_eq_getElem (by omega)⟩
              obtain ⟨q0,q1,q2⟩:=qfu hs hq
              have HQ:=Lib.hid hq;clear hq
              have hi0:(0:Int)≤(m:Int):=by omega
              have hi1:(m:Int)<(l.length:Int):=by omega
              by_cases hid:q.id<p.id
              · have hd : ¬ p.id ≤ q.id := by omega
                go_wp2
                ((first | refine RegC.wp_region_ext1 (by kernel_rfl) (by kernel_rfl) ?_ | refine RegC.wp_region_ext0 (by kernel_rfl) (by kernel_rfl) ?_);(repeat (any_goals (first | go_big_quiet_step (fail) | (refine RegC.wpQuiet_split rfl rfl (fun hb=>?_) (fun hb=>?_)<;>simp only [hb]))));all_goals (refine wpQuiet_nil ?_;rintro _ ⟨nq,rfl⟩))
                go_wp2
                go_roundw
                case rel =>
                  refine ⟨m+2,by omega,by go_num,?_,ext_of (by (try simp only [qbh]);repeat (first | exact Bel.refl _ | assumption | refine qbq ?_ _ | refine qbr ?_ _ | refine Bel.ext ?_ _ | refine Bel.alloc ?_ _ | refine Bel.drewN ?_ _))⟩
                  intro i p' q' hi hp' hq'
                  rcases Nat.lt_or_ge (i+1) (m+1) with h | h
                  · exact HA.out i p' q' h hp' hq'
                  · obtain rfl : i = m := by omega
                    rw [HQ.out] at hp'
                    rw [HP.out] at hq'
                    obtain rfl:=Option.some.inj hp'
                    obtain rfl:=Option.some.inj hq'
                    exact hid
                case measure=>(first | (simp [intOf];done) | (simp [intOf];omega))
              · have hd : p.id ≤ q.id := by omega
                have hbad:incB l=false:=by
                  rw [← Bool.not_eq_true,qfv];intro h;exact hid (h m q p HQ.out HP.out)
                have HB:=Lib.hid (E2.out HC.out hbad);clear hbad
                go_wp2
                ((first | refine RegC.wp_region_ext1 (by kernel_rfl) (by kernel_rfl) ?_ | refine RegC.wp_region_ext0 (by kernel_rfl) (by kernel_rfl) ?_);(repeat (any_goals (first | go_big_quiet_step (fail) | (refine RegC.wpQuiet_split rfl rfl (fun hb=>?_) (fun hb=>?_)<;>simp only [hb]))));all_goals (refine wpQuiet_nil ?_;rintro _ ⟨nq,rfl⟩))
                go_wp2
                (go_ret;exact ⟨qjp (by exact HB.out.symm),ext_of (by (try simp only [qbh]);repeat (first | exact Bel.refl _ | assumption | refine qbq ?_ _ | refine qbr ?_ _ | refine Bel.ext ?_ _ | refine Bel.alloc ?_ _ | refine Bel.drewN ?_ _))⟩)
            · obtain rfl : k = 0 := by omega
              simp only [Nat.zero_mul,Nat.add_zero] at r0 r1 r2
              go_wp2
              ((first | refine RegC.wp_region_ext1 (by kernel_rfl) (by kernel_rfl) ?_ | refine RegC.wp_region_ext0 (by kernel_rfl) (by kernel_rfl) ?_);(repeat (any_goals (first | go_big_quiet_step (fail) | (refine RegC.wpQuiet_split rfl rfl (fun hb=>?_) (fun hb=>?_)<;>simp only [hb]))));all_goals (refine wpQuiet_nil ?_;rintro _ ⟨nq,rfl⟩))
              go_wp2
              go_roundw
              case rel=>exact ⟨1,by omega,by go_num,(by intro i p q h;omega),ext_of (by (try simp only [qbh]);repeat (first | exact Bel.refl _ | assumption | refine qbq ?_ _ | refine qbr ?_ _ | refine Bel.ext ?_ _ | refine Bel.alloc ?_ _ | refine Bel.drewN ?_ _))⟩
              case measure=>(first | (simp [intOf];done) | (simp [intOf];omega))
          · obtain rfl : k = l.length := by omega
            have hinc:incB l=true:=(qfv l).2 fun i p q hp hq=>HA.out i p q (by have:=(List.getElem?_eq_some_iff.1 hq).1;omega) hp hq
            have HB:=Lib.hid (E3.out HC.out hinc);clear hinc
            go_wp2
            (go_ret;exact ⟨qjp (by exact HB.out.symm),ext_of (by (try simp only [qbh]);repeat (first | exact Bel.refl _ | assumption | refine qbq ?_ _ | refine qbr ?_ _ | refine Bel.ext ?_ _ | refine Bel.alloc ?_ _ | refine Bel.drewN ?_ _))⟩)
end Go.Proofs.YtpfhgnccpiildaaGreat

namespace Go.Proofs.YtpfhgnccpiildaaGreat
open Go.RowKit Go.Pel
theorem qlc (n d v:Int) (h:qcv n d=v) (hn:-9223372036854775808≤n∧n≤9223372036854775807) (hd:-9223372036854775808≤d∧d≤9223372036854775807) (W:World):Calls Tryz.prog 104 #[.agg #[.int .i64 n,.int .i64 d]] W fun e w'=>e=.returned (.int .i64 v)∧∃ y,w'=ext W y:=by
  subst h;exact qjv n d W hn hd
set_option maxRecDepth 10000 in
set_option maxHeartbeats 2000000 in
theorem qld (p q:Pt) (n d:Int) (w:World) (hn:-9223372036854775808≤n∧n≤9223372036854775807) (hd:-9223372036854775808≤d∧d≤9223372036854775807) :
    Calls Tryz.prog 143 #[.agg #[.int .i64 p.id,.int .i64 p.a,.int .i64 p.b],.agg #[.int .i64 q.id,.int .i64 q.a,.int .i64 q.b],.agg #[.int .i64 n,.int .i64 d]] w fun e w'=>e=.returned (.int .i64 (qkn p q n d))∧∃ x,w'=ext w x:=by
  rcases qg5 p with h1 | h1<;>rcases qg5 q with h2 | h2<;>rcases qd1 n d with h3 | h3
  · have q1 := Lib.hid (ql9 p _ h1); have q2 := Lib.hid (ql9 q _ h2); have q3 := Lib.hid (qlc n d _ h3 hn hd)
    by_cases hi:p.id=q.id
    · have HR := Lib.hid (qkp (p := p) (q := q) ⟨h1, h2, h3⟩ hi)
      have hi':(p.id == q.id)=true:=by simpa using hi
      clear h1 h2 h3 hn hd hi
      go_enter Tryz.func143,Tryz.ntmps143
      go_wp2
      ((first | refine RegC.wp_region_ext1 (by kernel_rfl) (by kernel_rfl) ?_ | refine RegC.wp_region_ext0 (by kernel_rfl) (by kernel_rfl) ?_);(repeat (any_goals (first | go_big_quiet_step (first | (go_at_call 98;with_reducible exact Calls.ext_of (q1.out _)) | (go_at_call 98;with_reducible exact Calls.ext_of (q2.out _)) | (go_at_call 104;with_reducible exact Calls.ext_of (q3.out _))) | (refine RegC.wpQuiet_split rfl rfl (fun hb=>?_) (fun hb=>?_)<;>simp only [hb]))));all_goals (refine wpQuiet_nil ?_;rintro _ ⟨nq,rfl⟩))
      go_wp2
      (go_ret;exact ⟨qjp (by exact HR.out.symm),ext_of (by (try simp only [qbh]);repeat (first | exact Bel.refl _ | assumption | refine qbq ?_ _ | refine qbr ?_ _ | refine Bel.ext ?_ _ | refine Bel.alloc ?_ _ | refine Bel.drewN ?_ _))⟩)
    · have HR := Lib.hid (qkq (p := p) (q := q) ⟨h1, h2, h3⟩ hi)
      have hi':(p.id == q.id)=false:=by simpa using hi
      clear h1 h2 h3 hn hd hi
      go_enter Tryz.func143,Tryz.ntmps143
      go_wp2
      ((first | refine RegC.wp_region_ext1 (by kernel_rfl) (by kernel_rfl) ?_ | refine RegC.wp_region_ext0 (by kernel_rfl) (by kernel_rfl) ?_);(repeat (any_goals (first | go_big_quiet_step (first | (go_at_call 98;with_reducible exact Calls.ext_of (q1.out _)) | (go_at_call 98;with_reducible exact Calls.ext_of (q2.out _)) | (go_at_call 104;with_reducible exact Calls.ext_of (q3.out _))) | (refine RegC.wpQuiet_split rfl rfl (fun hb=>?_) (fun hb=>?_)<;>simp only [hb]))));all_goals (refine wpQuiet_nil ?_;rintro _ ⟨nq,rfl⟩))
      go_wp2
      (go_ret;exact ⟨qjp (by exact HR.out.symm),ext_of (by (try simp only [qbh]);repeat (first | exact Bel.refl _ | assumption | refine qbq ?_ _ | refine qbr ?_ _ | refine Bel.ext ?_ _ | refine Bel.alloc ?_ _ | refine Bel.drewN ?_ _))⟩)
  all_goals
    have q1:=Lib.hid (ql9 p _ h1)
    have q2:=Lib.hid (ql9 q _ h2)
    have q3:=Lib.hid (qlc n d _ h3 hn hd)
    have HR:=Lib.hid (qko (p:=p) (q:=q) (n:=n) (d:=d) (by rw [h1,h2,h3];decide))
    clear h1 h2 h3 hn hd
    go_enter Tryz.func143,Tryz.ntmps143
    go_wp2
    ((first | refine RegC.wp_region_ext1 (by kernel_rfl) (by kernel_rfl) ?_ | refine RegC.wp_region_ext0 (by kernel_rfl) (by kernel_rfl) ?_);(repeat (any_goals (first | go_big_quiet_step (first | (go_at_call 98;with_reducible exact Calls.ext_of (q1.out _)) | (go_at_call 98;with_reducible exact Calls.ext_of (q2.out _)) | (go_at_call 104;with_reducible exact Calls.ext_of (q3.out _))) | (refine RegC.wpQuiet_split rfl rfl (fun hb=>?_) (fun hb=>?_)<;>simp only [hb]))));all_goals (refine wpQuiet_nil ?_;rintro _ ⟨nq,rfl⟩))
    go_wp2
    (go_ret;exact ⟨qjp (by exact HR.out.symm),ext_of (by (try simp only [qbh]);repeat (first | exact Bel.refl _ | assumption | refine qbq ?_ _ | refine qbr ?_ _ | refine Bel.ext ?_ _ | refine Bel.alloc ?_ _ | refine Bel.drewN ?_ _))⟩)
theorem qle {p q:Pt} {n d:Int} (hp:p.chk=0) (hq:q.chk=0) (hr:qcv n d=0) (hn:-9223372036854775808≤n∧n≤9223372036854775807) (hd:-9223372036854775808≤d∧d≤9223372036854775807):CmpIn p q n d:=by
  have h1:=qg4 hp
  have h2:=qg4 hq
  have h3:=qd2 hr
  exact ⟨by omega,by omega,by omega,by omega,by omega,by omega⟩
set_option maxRecDepth 10000 in
set_option maxHeartbeats 2000000 in
theorem qlf (p q:Pt) (n d:Int) (w:World) (hn:-9223372036854775808≤n∧n≤9223372036854775807) (hd:-9223372036854775808≤d∧d≤9223372036854775807) :
    Calls Tryz.prog 103 #[.agg #[.int .i64 p.id,.int .i64 p.a,.int .i64 p.b],.agg #[.int .i64 q.id,.int .i64 q.a,.int .i64 q.b],.agg #[.int .i64 n,.int .i64 d]] w fun e w'=>e=.returned (.tuple #[.bool (qks p q n d).1,.int .i64 (qks p q n d).2])∧∃ x,w'=ext w x:=by
  have q1:=Lib.hid (fun W=>qld p q n d W hn hd)
  by_cases h:qkn p q n d=0
  · have HV : Hid (qks p q n d = (leads p q n d, 0)) := Lib.hid (by unfold qks; rw [if_pos h])
    obtain ⟨h1,h2,h3,_⟩:=qkr h
    have q2:=Lib.hid (fun W=>ql8 p q n d W (qle h1 h2 h3 hn hd))
    rw [h] at q1
    have HL:=Lib.hid (qkm p q n d)
    obtain ⟨C,hC⟩:∃ C,cmpC p q n d=C:=⟨_,rfl⟩
    rw [hC] at q2 HL
    clear h h1 h2 h3 hn hd hC
    go_enter Tryz.func103,Tryz.ntmps103
    go_wp2_with (first | (go_at_call 143;refine (q1.out _).mono ?_;rintro e _ ⟨rfl,nx,rfl⟩) | (go_at_call 144;refine (q2.out _).mono ?_;rintro e _ ⟨rfl,nx,rfl⟩))
    go_ret2
    exact ⟨by rw [HV.out,← HL.out];rfl,ext_of (by (try simp only [qbh]);repeat (first | exact Bel.refl _ | assumption | refine qbq ?_ _ | refine qbr ?_ _ | refine Bel.ext ?_ _ | refine Bel.alloc ?_ _ | refine Bel.drewN ?_ _))⟩
  · have HV : Hid (qks p q n d = (false, qkn p q n d)) := Lib.hid (by unfold qks; rw [if_neg h])
    have hz:(qkn p q n d == 0)=false:=by simpa using h
    have hz':(qkn p q n d != 0)=true:=by simpa using h
    clear h hn hd
    go_enter Tryz.func103,Tryz.ntmps103
    go_wp2_with ((go_at_call 143;refine (q1.out _).mono ?_;rintro e _ ⟨rfl,nx,rfl⟩))
    go_ret2
    exact ⟨by rw [HV.out];rfl,ext_of (by (try simp only [qbh]);repeat (first | exact Bel.refl _ | assumption | refine qbq ?_ _ | refine qbr ?_ _ | refine Bel.ext ?_ _ | refine Bel.alloc ?_ _ | refine Bel.drewN ?_ _))⟩
end Go.Proofs.YtpfhgnccpiildaaGreat

namespace Go.Proofs.YtpfhgnccpiildaaGreat
open Go.RowKit Go.Pel
theorem wu (x:Int) (y:Nat) (h:x=y) (hy:y<18446744073709551616):IntKind.u64.wrap x=(y:Int):=by rw [IntKind.wrap_u64,h];omega
set_option maxRecDepth 10000 in
set_option maxHeartbeats 2000000 in
theorem qlg (a b:Nat) (w:World) (ha:a<18446744073709551616) (hb:b<18446744073709551616) :
    Calls Tryz.prog 89 #[.int .u64 a,.int .u64 b] w fun e w'=>e=.returned (.agg #[.bool false,.int .u64 ((a*b / 18446744073709551616:Nat):Int),.int .u64 ((a*b % 18446744073709551616:Nat):Int)])∧∃ x,w'=ext w x:=by
  obtain ⟨ah,hah⟩:∃ x:Nat,a / 4294967296=x:=⟨_,rfl⟩
  obtain ⟨al,hal⟩:∃ x:Nat,a % 4294967296=x:=⟨_,rfl⟩
  obtain ⟨bh,hbh⟩:∃ x:Nat,b / 4294967296=x:=⟨_,rfl⟩
  obtain ⟨bl,hbl⟩:∃ x:Nat,b % 4294967296=x:=⟨_,rfl⟩
  obtain ⟨m0,hm0⟩:∃ x:Nat,al*bl=x:=⟨_,rfl⟩
  obtain ⟨x1,hx1⟩:∃ x:Nat,ah*bl=x:=⟨_,rfl⟩
  obtain ⟨y1,hy1⟩:∃ x:Nat,al*bh=x:=⟨_,rfl⟩
  obtain ⟨z1,hz1⟩:∃ x:Nat,ah*bh=x:=⟨_,rfl⟩
  have b0:m0≤4294967295*4294967295:=by rw [← hm0];exact Nat.mul_le_mul (by omega) (by omega)
  have b1:x1≤4294967295*4294967295:=by rw [← hx1];exact Nat.mul_le_mul (by omega) (by omega)
  have b2:y1≤4294967295*4294967295:=by rw [← hy1];exact Nat.mul_le_mul (by omega) (by omega)
  have b3:z1≤4294967295*4294967295:=by rw [← hz1];exact Nat.mul_le_mul (by omega) (by omega)
  have hab:a*b=z1*18446744073709551616+(x1+y1)*4294967296+m0:=by
    have e1:a=ah*4294967296+al:=by omega
    have e2:b=bh*4294967296+bl:=by omega
    rw [e1,e2,Nat.add_mul,Nat.mul_add,Nat.mul_add]
    have f1:ah*4294967296*(bh*4294967296)=z1*18446744073709551616:=by rw [← hz1,Nat.mul_mul_mul_comm]
    have f2:ah*4294967296*bl=x1*4294967296:=by rw [← hx1,Nat.mul_right_comm]
    have f3:al*(bh*4294967296)=y1*4294967296:=by rw [← hy1,Nat.mul_assoc]
    rw [f1,f2,f3,hm0,Nat.add_mul];omega
  obtain ⟨m0h,hm0h⟩:∃ x:Nat,m0 / 4294967296=x:=⟨_,rfl⟩
  obtain ⟨lr,hlr⟩:∃ x:Nat,m0 % 4294967296=x:=⟨_,rfl⟩
  obtain ⟨m,hm⟩:∃ x:Nat,x1+m0h=x:=⟨_,rfl⟩
  obtain ⟨mr,hmr⟩:∃ x:Nat,m % 4294967296=x:=⟨_,rfl⟩
  obtain ⟨mq,hmq⟩:∃ x:Nat,m / 4294967296=x:=⟨_,rfl⟩
  obtain ⟨n,hn⟩:∃ x:Nat,y1+mr=x:=⟨_,rfl⟩
  obtain ⟨nr,hnr⟩:∃ x:Nat,n % 4294967296=x:=⟨_,rfl⟩
  obtain ⟨nq,hnq⟩:∃ x:Nat,n / 4294967296=x:=⟨_,rfl⟩
  obtain ⟨z2,hz2⟩:∃ x:Nat,z1+mq=x:=⟨_,rfl⟩
  obtain ⟨nn,hnn⟩:∃ x:Nat,nr*4294967296=x:=⟨_,rfl⟩
  have HF:Hid (((a*b / 18446744073709551616:Nat):Int)=((z2+nq:Nat):Int)∧((a*b % 18446744073709551616:Nat):Int)=((nn+lr:Nat):Int)):=Lib.hid (by rw [hab];omega)
  obtain ⟨hi,hhi⟩:∃ x:Nat,z2+nq=x:=⟨_,rfl⟩
  obtain ⟨lo,hlo⟩:∃ x:Nat,nn+lr=x:=⟨_,rfl⟩
  rw [hhi,hlo] at HF
  have e1:IntKind.u64.wrap ((al:Int)*bl)=(m0:Int):=wu _ _ (by rw [← hm0];simp) (by omega)
  have e3:IntKind.u64.wrap ((ah:Int)*bl)=(x1:Int):=wu _ _ (by rw [← hx1];simp) (by omega)
  have e6:IntKind.u64.wrap ((al:Int)*bh)=(y1:Int):=wu _ _ (by rw [← hy1];simp) (by omega)
  have e9:IntKind.u64.wrap ((ah:Int)*bh)=(z1:Int):=wu _ _ (by rw [← hz1];simp) (by omega)
  have e4:IntKind.u64.wrap ((x1:Int)+m0h)=(m:Int):=wu _ _ (by omega) (by omega)
  have e7:IntKind.u64.wrap ((y1:Int)+mr)=(n:Int):=wu _ _ (by omega) (by omega)
  have e10:IntKind.u64.wrap ((z1:Int)+mq)=(z2:Int):=wu _ _ (by omega) (by omega)
  have e12:IntKind.u64.wrap ((z2:Int)+nq)=(hi:Int):=wu _ _ (by omega) (by omega)
  have e14:IntKind.u64.wrap ((nr:Int)*4294967296)=(nn:Int):=wu _ _ (by omega) (by omega)
  have e16:IntKind.u64.wrap ((nn:Int)+lr)=(lo:Int):=wu _ _ (by omega) (by omega)
  have d1:(a:Int) / 4294967296=(ah:Int):=by omega
  have d2:(a:Int) % 4294967296=(al:Int):=by omega
  have d3:(b:Int) / 4294967296=(bh:Int):=by omega
  have d4:(b:Int) % 4294967296=(bl:Int):=by omega
  have d5:(m0:Int) / 4294967296=(m0h:Int):=by omega
  have d6:(m0:Int) % 4294967296=(lr:Int):=by omega
  have d7:(m:Int) / 4294967296=(mq:Int):=by omega
  have d8:(m:Int) % 4294967296=(mr:Int):=by omega
  have d9:(n:Int) / 4294967296=(nq:Int):=by omega
  have d10:(n:Int) % 4294967296=(nr:Int):=by omega
  have g0:m0<18446744073709551616:=by omega
  have g1:m<18446744073709551616:=by omega
  have g2:n<18446744073709551616:=by omega
  clear hah hal hbh hbl hm0 hx1 hy1 hz1 b0 b1 b2 b3 hab hm0h hlr hm hmr hmq hn hnr hnq hz2 hnn hhi hlo
  go_enter Tryz.func89,Tryz.ntmps89
  go_wp2
  exact bodyPost_ret (v:=.agg #[.bool false,.int .u64 (hi:Int),.int .u64 (lo:Int)]) (by simp [results,Tryz.results89,go_sem]) rfl ⟨by rw [HF.out.1,HF.out.2],ext_of (by (try simp only [qbh]);repeat (first | exact Bel.refl _ | assumption | refine qbq ?_ _ | refine qbr ?_ _ | refine Bel.ext ?_ _ | refine Bel.alloc ?_ _ | refine Bel.drewN ?_ _))⟩
set_option maxRecDepth 10000 in
set_option maxHeartbeats 2000000 in
theorem qlh (a b:Int) (w:World) (ha:-9223372036854775808≤a∧a≤9223372036854775807) (hb:-9223372036854775808≤b∧b≤9223372036854775807) :
    Calls Tryz.prog 86 #[.int .i64 a,.int .i64 b] w fun e w'=>e=.returned (.agg #[.bool (decide (a*b<0)),.int .u64 (((a*b).natAbs / 18446744073709551616:Nat):Int),.int .u64 (((a*b).natAbs % 18446744073709551616:Nat):Int)])∧∃ x,w'=ext w x:=by
  have q1:=Lib.hid (fun W=>qjs a W ha)
  have q2:=Lib.hid (fun W=>qjs b W hb)
  have q3:=Lib.hid (fun W=>qlg a.natAbs b.natAbs W (by omega) (by omega))
  rw [← Int.natAbs_mul] at q3
  obtain ⟨H,hH⟩:∃ H:Nat,(a*b).natAbs / 18446744073709551616=H:=⟨_,rfl⟩
  obtain ⟨L,hL⟩:∃ H:Nat,(a*b).natAbs % 18446744073709551616=H:=⟨_,rfl⟩
  rw [hH,hL] at q3 ⊢
  have hneg:decide (a*b<0)=(!(decide (a<0) == decide (b<0))&&(!(a == 0) && !(b == 0))):=by
    rcases Int.lt_trichotomy a 0 with h1 | h1 | h1<;>rcases Int.lt_trichotomy b 0 with h2 | h2 | h2
    · have:=Int.mul_pos_of_neg_of_neg h1 h2;simp [h1,h2,show ¬ a*b<0 by omega]
    · subst h2;simp
    · have:=Int.mul_neg_of_neg_of_pos h1 h2;simp [h1,this,show ¬ b<0 by omega,show ¬ a=0 by omega,show ¬ b=0 by omega]
    · subst h1;simp
    · subst h1;simp
    · subst h1;simp
    · have:=Int.mul_neg_of_pos_of_neg h1 h2;simp [h2,this,show ¬ a<0 by omega,show ¬ a=0 by omega,show ¬ b=0 by omega]
    · subst h2;simp
    · have:=Int.mul_pos h1 h2;simp [show ¬ a*b<0 by omega,show ¬ a<0 by omega,show ¬ b<0 by omega]
  cases hk:(decide (a<0) == decide (b<0)) with
  | true =>
    have HN:Hid (decide (a*b<0)=false):=Lib.hid (by rw [hneg,hk];rfl)
    clear hneg hH hL ha hb
    go_enter Tryz.func86,Tryz.ntmps86
    go_wp2_with (first | (go_at_call 58;(with_reducible refine (q1.out _).mono ?_);rintro e _ ⟨rfl,nx,rfl⟩) | (go_at_call 58;(with_reducible refine (q2.out _).mono ?_);rintro e _ ⟨rfl,nx,rfl⟩) | (go_at_call 89;(with_reducible refine (q3.out _).mono ?_);rintro e _ ⟨rfl,nx,rfl⟩))
    exact bodyPost_ret (v:=.agg #[.bool false,.int .u64 (H:Int),.int .u64 (L:Int)]) (by simp [results,Tryz.results86,go_sem]) rfl ⟨by rw [HN.out],ext_of (by (try simp only [qbh]);repeat (first | exact Bel.refl _ | assumption | refine qbq ?_ _ | refine qbr ?_ _ | refine Bel.ext ?_ _ | refine Bel.alloc ?_ _ | refine Bel.drewN ?_ _))⟩
  | false =>
    cases h1:(a == 0) with
    | true =>
      have HN:Hid (decide (a*b<0)=false):=Lib.hid (by rw [hneg,hk,h1];rfl)
      have h1':(a != 0)=false:=by rw [bne,h1];rfl
      clear hneg hH hL ha hb
      go_enter Tryz.func86,Tryz.ntmps86
      go_wp2_with (first | (go_at_call 58;(with_reducible refine (q1.out _).mono ?_);rintro e _ ⟨rfl,nx,rfl⟩) | (go_at_call 58;(with_reducible refine (q2.out _).mono ?_);rintro e _ ⟨rfl,nx,rfl⟩) | (go_at_call 89;(with_reducible refine (q3.out _).mono ?_);rintro e _ ⟨rfl,nx,rfl⟩))
      exact bodyPost_ret (v:=.agg #[.bool false,.int .u64 (H:Int),.int .u64 (L:Int)]) (by simp [results,Tryz.results86,go_sem]) rfl ⟨by rw [HN.out],ext_of (by (try simp only [qbh]);repeat (first | exact Bel.refl _ | assumption | refine qbq ?_ _ | refine qbr ?_ _ | refine Bel.ext ?_ _ | refine Bel.alloc ?_ _ | refine Bel.drewN ?_ _))⟩
    | false =>
      have h1':(a != 0)=true:=by rw [bne,h1];rfl
      cases h2:(b == 0) with
      | true =>
        have HN:Hid (decide (a*b<0)=false):=Lib.hid (by rw [hneg,hk,h1,h2];rfl)
        have h2':(b != 0)=false:=by rw [bne,h2];rfl
        clear hneg hH hL ha hb
        go_enter Tryz.func86,Tryz.ntmps86
        go_wp2_with (first | (go_at_call 58;(with_reducible refine (q1.out _).mono ?_);rintro e _ ⟨rfl,nx,rfl⟩) | (go_at_call 58;(with_reducible refine (q2.out _).mono ?_);rintro e _ ⟨rfl,nx,rfl⟩) | (go_at_call 89;(with_reducible refine (q3.out _).mono ?_);rintro e _ ⟨rfl,nx,rfl⟩))
        exact bodyPost_ret (v:=.agg #[.bool false,.int .u64 (H:Int),.int .u64 (L:Int)]) (by simp [results,Tryz.results86,go_sem]) rfl ⟨by rw [HN.out],ext_of (by (try simp only [qbh]);repeat (first | exact Bel.refl _ | assumption | refine qbq ?_ _ | refine qbr ?_ _ | refine Bel.ext ?_ _ | refine Bel.alloc ?_ _ | refine Bel.drewN ?_ _))⟩
      | false =>
        have HN:Hid (decide (a*b<0)=true):=Lib.hid (by rw [hneg,hk,h1,h2];rfl)
        have h2':(b != 0)=true:=by rw [bne,h2];rfl
        clear hneg hH hL ha hb
        go_enter Tryz.func86,Tryz.ntmps86
        go_wp2_with (first | (go_at_call 58;(with_reducible refine (q1.out _).mono ?_);rintro e _ ⟨rfl,nx,rfl⟩) | (go_at_call 58;(with_reducible refine (q2.out _).mono ?_);rintro e _ ⟨rfl,nx,rfl⟩) | (go_at_call 89;(with_reducible refine (q3.out _).mono ?_);rintro e _ ⟨rfl,nx,rfl⟩))
        exact bodyPost_ret (v:=.agg #[.bool true,.int .u64 (H:Int),.int .u64 (L:Int)]) (by simp [results,Tryz.results86,go_sem]) rfl ⟨by rw [HN.out],ext_of (by (try simp only [qbh]);repeat (first | exact Bel.refl _ | assumption | refine qbq ?_ _ | refine qbr ?_ _ | refine Bel.ext ?_ _ | refine Bel.alloc ?_ _ | refine Bel.drewN ?_ _))⟩

end Go.Proofs.YtpfhgnccpiildaaGreat

namespace Go.Proofs.YtpfhgnccpiildaaGreat
open Go.RowKit Go.Pel
end Go.Proofs.YtpfhgnccpiildaaGreat

namespace Go.Proofs.YtpfhgnccpiildaaGreat
open Go.RowKit Go.Pel
end Go.Proofs.YtpfhgnccpiildaaGreat

namespace Go.Proofs.YtpfhgnccpiildaaGreat
open Go.RowKit Go.Pel
theorem qlo:SlT Tryz.prog 22 79 (.agg #[.int .i64 0,.int .i64 0,.int .i64 0]) 3 24:=⟨by kernel_rfl,by kernel_rfl,by kernel_rfl,by decide,by decide⟩
def eqP (i a b i' a' b':Int):Bool:=decide (i=i'∧a=a'∧b=b')
theorem qlr (i a b i' a' b':Int) (w:World):(Op.equalIn 10000 79 (.agg #[.int .i64 i,.int .i64 a,.int .i64 b]) (.agg #[.int .i64 i',.int .i64 a',.int .i64 b'])).run Tryz.prog w=.ok (eqP i a b i' a' b') w:=by
  simp [go_sem]
  unfold eqP
  by_cases h1:i=i'<;>by_cases h2:a=a'<;>by_cases h3:b=b'<;>simp [h1,h2,h3]
attribute [local go_sem ↓] qlr
set_option maxRecDepth 10000 in
set_option maxHeartbeats 2000000 in
theorem qls (A:Option Addr) (c:Nat) (l:List Pt) (w:World) (hs:Sl w 3 A l.length c (vp l)) :
    Calls Tryz.prog 47 #[.agg #[.slice A l.length c]] w fun e w'=>e=.returned (.int .i64 (qfx l))∧∃ x,w'=ext w x:=by
  by_cases hm:64<l.length
  · have E1 := Lib.hid (qfy hm)
    go_enter Tryz.func47,Tryz.ntmps47
    go_wp2
    (go_ret;exact ⟨qjp (by exact E1.out.symm),ext_of (by (try simp only [qbh]);repeat (first | exact Bel.refl _ | assumption | refine qbq ?_ _ | refine qbr ?_ _ | refine Bel.ext ?_ _ | refine Bel.alloc ?_ _ | refine Bel.drewN ?_ _))⟩)
  · have E1 := Lib.hid (fun p (hp : p ∈ l) hc => qfz (l := l) (by omega) hp hc)
    have E2:=Lib.hid (qg0 (l:=l) (by omega))
    have E3:=Lib.hid (qg1 (l:=l) (by omega))
    go_enter Tryz.func47,Tryz.ntmps47
    go_wp2
    go_loopw [3] (fun i wr=>∃ (k:Nat),k≤l.length∧i=.int .i64 k∧(∀ p∈l.take k,p.chk=0)∧∃ y,wr=ext (w.alloc (.cells #[.slice A l.length c] 24)) y) (fun i _=>l.length - (intOf i).toNat)
    case atStart=>exact ⟨0,Nat.zero_le _,rfl,by simp,ext_of (Bel.refl _)⟩
    case round =>
      obtain ⟨k,hk,rfl,hall,y,rfl⟩:=hrel
      have HA:=Lib.hid hall;clear hall
      by_cases hlt:k<l.length
      · obtain ⟨p, hp⟩ : ∃ p, l[k]? = some p := ⟨_, List.getElem?_eq_getElem hlt⟩
        obtain ⟨b,o,rfl,hb⟩:=hs.at_ (by omega)
        obtain ⟨r0,r1,r2⟩:=qfu hs hp
        have HP:=Lib.hid hp;clear hp
        rcases qg5 p with h | h
        · have e1 := Lib.hid (qla p 0 h)
          have HC:=Lib.hid h;clear h
          go_wp2_with ((go_at_call 96;refine (e1.out _).mono ?_;rintro e _ ⟨rfl,nx,rfl⟩))
          go_roundw
          case rel =>
            refine ⟨k+1,by omega,by go_num,?_,ext_of (by (try simp only [qbh]);repeat (first | exact Bel.refl _ | assumption | refine qbq ?_ _ | refine qbr ?_ _ | refine Bel.ext ?_ _ | refine Bel.alloc ?_ _ | refine Bel.drewN ?_ _))⟩
            intro q hq
            rw [List.take_add_one,HP.out] at hq
            rcases List.mem_append.1 hq with hq | hq
            · exact HA.out q hq
            · simp at hq;subst hq;exact HC.out
          case measure=>(first | (simp [intOf];done) | (simp [intOf];omega))
        · have e1 := Lib.hid (qla p 8 h)
          have HC:=Lib.hid (E1.out p (List.mem_of_getElem? HP.out) (by rw [h];decide));clear h
          go_wp2_with ((go_at_call 96;refine (e1.out _).mono ?_;rintro e _ ⟨rfl,nx,rfl⟩))
          (go_ret;exact ⟨qjp (by exact HC.out.symm),ext_of (by (try simp only [qbh]);repeat (first | exact Bel.refl _ | assumption | refine qbq ?_ _ | refine qbr ?_ _ | refine Bel.ext ?_ _ | refine Bel.alloc ?_ _ | refine Bel.drewN ?_ _))⟩)
      · obtain rfl : k = l.length := by omega
        have hc0:=HA.out
        rw [List.take_length] at hc0
        have HC:=Lib.hid hc0;clear hc0
        go_wp2
        go_loopw [4] (fun i wr=>∃ (k:Nat),k≤l.length+1∧i=.int .i64 (k+1)∧(∀ (i:Nat) (p q:Pt),i+1<k+1→l[i]?=some p→l[i+1]?=some q→p.id<q.id)∧∃ y,wr=ext (w.alloc (.cells #[.slice A l.length c] 24)) y) (fun i _=>l.length+2 - (intOf i).toNat)
        case atStart=>exact ⟨0,by omega,rfl,(by intro i p q h;omega),y,rfl⟩
        case round =>
          clear hk hlt HA
          obtain ⟨m,hk,rfl,hall,y2,rfl⟩:=hrel
          have HA:=Lib.hid hall;clear hall
          by_cases hlt:m+1<l.length
          · obtain ⟨p, hp⟩ : ∃ p, l[m + 1]? = some p := ⟨_, List.getElem?_eq_getElem hlt⟩
            obtain ⟨b,o,rfl,hb⟩:=hs.at_ (by omega)
            obtain ⟨r0,r1,r2⟩:=qfu hs hp
            have HP:=Lib.hid hp;clear hp
            obtain ⟨q,hq⟩:∃ q,l[m]?=some q:=⟨_,List.getElem?_eq_getElem (by omega)⟩
            obtain ⟨q0,q1,q2⟩:=qfu hs hq
            have HQ:=Lib.hid hq;clear hq
            have hi0:(0:Int)≤(m:Int):=by omega
            have hi1:(m:Int)<(l.length:Int):=by omega
            have hi2:(m:Int)+1<(l.length:Int):=by omega
            by_cases hid:q.id<p.id
            · have hd : ¬ p.id ≤ q.id := by omega
              go_wp2
              ((first | refine RegC.wp_region_ext1 (by kernel_rfl) (by kernel_rfl) ?_ | refine RegC.wp_region_ext0 (by kernel_rfl) (by kernel_rfl) ?_);(repeat (any_goals (first | go_big_quiet_step (fail) | (refine RegC.wpQuiet_split rfl rfl (fun hb=>?_) (fun hb=>?_)<;>simp only [hb]))));all_goals (refine wpQuiet_nil ?_;rintro _ ⟨nq,rfl⟩))
              go_wp2
              go_roundw
              case rel =>
                refine ⟨m+1,by omega,by go_num,?_,ext_of (by (try simp only [qbh]);repeat (first | exact Bel.refl _ | assumption | refine qbq ?_ _ | refine qbr ?_ _ | refine Bel.ext ?_ _ | refine Bel.alloc ?_ _ | refine Bel.drewN ?_ _))⟩
                intro i p' q' hi hp' hq'
                rcases Nat.lt_or_ge (i+1) (m+1) with h | h
                · exact HA.out i p' q' h hp' hq'
                · obtain rfl : i = m := by omega
                  rw [HQ.out] at hp'
                  rw [HP.out] at hq'
                  obtain rfl:=Option.some.inj hp'
                  obtain rfl:=Option.some.inj hq'
                  exact hid
              case measure=>(first | (simp [intOf];done) | (simp [intOf];omega))
            · have hd : p.id ≤ q.id := by omega
              have hbad:incB l=false:=by
                rw [← Bool.not_eq_true,qfv];intro h;exact hid (h m q p HQ.out HP.out)
              have HB:=Lib.hid (E2.out HC.out hbad);clear hbad
              go_wp2
              ((first | refine RegC.wp_region_ext1 (by kernel_rfl) (by kernel_rfl) ?_ | refine RegC.wp_region_ext0 (by kernel_rfl) (by kernel_rfl) ?_);(repeat (any_goals (first | go_big_quiet_step (fail) | (refine RegC.wpQuiet_split rfl rfl (fun hb=>?_) (fun hb=>?_)<;>simp only [hb]))));all_goals (refine wpQuiet_nil ?_;rintro _ ⟨nq,rfl⟩))
              go_wp2
              (go_ret;exact ⟨qjp (by exact HB.out.symm),ext_of (by (try simp only [qbh]);repeat (first | exact Bel.refl _ | assumption | refine qbq ?_ _ | refine qbr ?_ _ | refine Bel.ext ?_ _ | refine Bel.alloc ?_ _ | refine Bel.drewN ?_ _))⟩)
          · have hlt2 : ¬ (m : Int) + 1 < (l.length : Int) := by omega
            have hinc:incB l=true:=(qfv l).2 fun i p q hp hq=>HA.out i p q (by have:=(List.getElem?_eq_some_iff.1 hq).1;omega) hp hq
            have HB:=Lib.hid (E3.out HC.out hinc);clear hinc
            go_wp2
            (go_ret;exact ⟨qjp (by exact HB.out.symm),ext_of (by (try simp only [qbh]);repeat (first | exact Bel.refl _ | assumption | refine qbq ?_ _ | refine qbr ?_ _ | refine Bel.ext ?_ _ | refine Bel.alloc ?_ _ | refine Bel.drewN ?_ _))⟩)
def great (n:Nat):Bool:=(decide (16<n)&&decide (n<64)) || decide (70<n)
set_option maxHeartbeats 400000 in
theorem qlu (A:Option Addr) (n c:Nat) (w:World):Calls Tryz.prog 10 #[.agg #[.slice A n c]] w fun e w'=>e=.returned (.bool (great n))∧∃ x,w'=ext w x:=by
  by_cases h1:16<n
  · by_cases h2 : n < 64
    · have H := Lib.hid (show great n = true by unfold great; simp [h1, h2])
      go_enter Tryz.func10,Tryz.ntmps10
      go_wp2
      (go_ret;exact ⟨qjq (by first | exact H.out.symm | (rw [H.out];simp;omega)),ext_of (by (try simp only [qbh]);repeat (first | exact Bel.refl _ | assumption | refine qbq ?_ _ | refine qbr ?_ _ | refine Bel.ext ?_ _ | refine Bel.alloc ?_ _ | refine Bel.drewN ?_ _))⟩)
    · by_cases h3 : 70 < n
      · have H := Lib.hid (show great n = true by unfold great; simp [h3])
        go_enter Tryz.func10,Tryz.ntmps10
        go_wp2
        (go_ret;exact ⟨qjq (by first | exact H.out.symm | (rw [H.out];simp;omega)),ext_of (by (try simp only [qbh]);repeat (first | exact Bel.refl _ | assumption | refine qbq ?_ _ | refine qbr ?_ _ | refine Bel.ext ?_ _ | refine Bel.alloc ?_ _ | refine Bel.drewN ?_ _))⟩)
      · have H := Lib.hid (show great n = false by unfold great; simp [h2, h3])
        go_enter Tryz.func10,Tryz.ntmps10
        go_wp2
        (go_ret;exact ⟨qjq (by first | exact H.out.symm | (rw [H.out];simp;omega)),ext_of (by (try simp only [qbh]);repeat (first | exact Bel.refl _ | assumption | refine qbq ?_ _ | refine qbr ?_ _ | refine Bel.ext ?_ _ | refine Bel.alloc ?_ _ | refine Bel.drewN ?_ _))⟩)
  · have h3 : ¬ 70 < n := by omega
    have H:=Lib.hid (show great n=false by unfold great;simp [h1,h3])
    go_enter Tryz.func10,Tryz.ntmps10
    go_wp2
    (go_ret;exact ⟨qjq (by first | exact H.out.symm | (rw [H.out];simp;omega)),ext_of (by (try simp only [qbh]);repeat (first | exact Bel.refl _ | assumption | refine qbq ?_ _ | refine qbr ?_ _ | refine Bel.ext ?_ _ | refine Bel.alloc ?_ _ | refine Bel.drewN ?_ _))⟩)
end Go.Proofs.YtpfhgnccpiildaaGreat

namespace Go.Pel
def cmpQ (n1 d1 n2 d2:Int):Int:=cmpZ (n1*d2) (n2*d1)
end Go.Pel
namespace Go.Proofs.YtpfhgnccpiildaaGreat
open Go Go.Tx Go.RowKit Go.Pel
def u64B (x:Int):Bool:=decide (0≤x∧x≤18446744073709551615)
theorem qlx {x:Int} (h:u64B x=true):0≤x∧x≤18446744073709551615:=of_decide_eq_true h
theorem qly {η:Emb} {a:Int} {v:Value} (hv:VR η (.int .u64 a) v):v=.int .u64 a:=by cases hv;rfl
theorem qlz (a b:Int) (w:World) (ha:0≤a∧a≤18446744073709551615) (hb:0≤b∧b≤18446744073709551615) :
    Calls Tryz.prog 123 #[.int .u64 a,.int .u64 b] w fun e w'=>e=.returned (.tuple #[.int .u64 ((a*b) / 18446744073709551616),.int .u64 ((a*b) % 18446744073709551616)])∧∃ x,w'=ext w x:=by
  obtain ⟨x,rfl⟩:∃ x:Nat,a=x:=⟨a.toNat,by omega⟩
  obtain ⟨y,rfl⟩:∃ y:Nat,b=y:=⟨b.toNat,by omega⟩
  have h:=Tryz.bits_Mul64 x y (by omega) (by omega) w
  refine h.mono fun e w' ⟨he,hw⟩=>⟨he.trans ?_,ext_of (hw ▸ Bel.refl _)⟩
  simp
theorem qm0 {P Q:Int} (h:cmpZ P 0≠cmpZ Q 0):cmpZ P Q=if cmpZ P 0<cmpZ Q 0 then -1 else 1:=by
  unfold cmpZ at *
  repeat' split at h
  all_goals repeat' split
  all_goals omega
theorem qm1 {P Q:Int} (h:cmpZ P 0=cmpZ Q 0) (hn:cmpZ P 0<0):cmpZ P Q=cmpZ (Q.natAbs:Int) (P.natAbs:Int):=by
  unfold cmpZ at *
  repeat' split at h
  all_goals repeat' split
  all_goals omega
theorem qm2 {P Q:Int} (h:cmpZ P 0=cmpZ Q 0) (hn:¬ cmpZ P 0<0):cmpZ P Q=cmpZ (P.natAbs:Int) (Q.natAbs:Int):=by
  unfold cmpZ at *
  repeat' split at h
  all_goals repeat' split
  all_goals omega
end Go.Proofs.YtpfhgnccpiildaaGreat

namespace Go.Proofs.YtpfhgnccpiildaaGreat
open Go Go.Tx Go.Pel Go.Proofs.Tryz
set_option maxRecDepth 100000
set_option maxHeartbeats 0
def qm4 (p q:Pt) (n d:Int):Bool:=decide (-1048576≤p.a∧p.a≤1048576)&&decide (-1048576≤p.b∧p.b≤1048576)&&decide (-1048576≤q.a∧q.a≤1048576)&&decide (-1048576≤q.b∧q.b≤1048576)&&decide (-9223372036854775807≤n∧n≤9223372036854775807)&&decide (1≤d∧d≤9223372036854775807)
theorem qm5 {p q:Pt} {n d:Int} (h:qm4 p q n d=true):CmpIn p q n d:=by
 unfold qm4 at h
 simp only [Bool.and_eq_true,decide_eq_true_eq] at h
 exact ⟨h.1.1.1.1.1,h.1.1.1.1.2,h.1.1.1.2,h.1.1.2,h.1.2,h.2⟩
theorem qm6 {p q:Pt} {n d:Int} (h:CmpIn p q n d):qm4 p q n d=true:=by
 unfold qm4
 simp only [Bool.and_eq_true,decide_eq_true_eq]
 exact ⟨⟨⟨⟨⟨h.pa,h.pb⟩,h.qa⟩,h.qb⟩,h.n⟩,h.d⟩
abbrev qm7:List Pk:=[.row Ru false,.row Ru false]
abbrev qm8:Type:=Du×Du×Unit
abbrev qm9:Type:=Int×Int
def qma (r:qm9):LV×List Ob:=(.tup [.int .u64 r.1,.int .u64 r.2],[])
def qmb (F:qm8→Option qm9):Go.Tx.Spec:=⟨123,qm7,qm9,F,qma⟩
def qmc (x:qm8):Bool:=u64B x.1.1&&u64B x.2.1.1
def qmd (d:Nat) (x:qm8):Option qm9:=bif qmc x then some ((x.1.1*x.2.1.1) / 18446744073709551616,(x.1.1*x.2.1.1) % 18446744073709551616) else none
theorem qme (d:Nat) (x:qm8) (h:qmc x=true):qmd d x=some ((x.1.1*x.2.1.1) / 18446744073709551616,(x.1.1*x.2.1.1) % 18446744073709551616):=by unfold qmd;rw [h];rfl
theorem qmf (d:Nat):COK prog (qmb (qmd d)):=by
 refine qhd (qhe (fn:=f123) (by kernel_rfl) (by kernel_rfl) (by kernel_rfl)) fun x r hx w φ vs hφ hv=>?_
 have hx:qmd d x=some r:=hx
 unfold qmd at hx
 obtain ⟨hc,rfl⟩:=qit hx
 have hv:VRs (Emb.fro φ) [.int .u64 x.1.1,.int .u64 x.2.1.1] vs:=hv
 obtain ⟨v0,vs,rfl,q0,hv⟩:=VRs.uncons hv
 obtain ⟨v1,rfl,q1⟩:=vrs1 hv
 have r0:=qly q0;subst r0
 have r1:=qly q1;subst r1
 unfold qmc at hc
 simp only [Bool.and_eq_true] at hc
 obtain ⟨h1,h2⟩:=hc
 refine (qlz x.1.1 x.2.1.1 w (qlx h1) (qlx h2)).mono ?_
 rintro e w' ⟨rfl,y,rfl⟩
 exact qhb hφ (VR.tupL (VRs.cons (.int _ _) (VRs.cons (.int _ _) VRs.nil))) y
abbrev qmg:List Pk:=[.row Ri false,.row Ri false]
abbrev qmh:Type:=Di×Di×Unit
abbrev qmi:Type:=Bool×Int×Int
def qmj (r:qmi):LV×List Ob:=(.agg [.bool r.1,.int .u64 r.2.1,.int .u64 r.2.2],[])
def qmk (F:qmh→Option qmi):Go.Tx.Spec:=⟨86,qmg,qmi,F,qmj⟩
def qml (x:qmh):Bool:=i64B x.1.1&&i64B x.2.1.1
def qmm (d:Nat) (x:qmh):Option qmi:=bif qml x then some (decide (x.1.1*x.2.1.1<0),(((x.1.1*x.2.1.1).natAbs / 18446744073709551616:Nat):Int),(((x.1.1*x.2.1.1).natAbs % 18446744073709551616:Nat):Int)) else none
theorem qmn (d:Nat) (x:qmh) (h:qml x=true):qmm d x=some (decide (x.1.1*x.2.1.1<0),(((x.1.1*x.2.1.1).natAbs / 18446744073709551616:Nat):Int),(((x.1.1*x.2.1.1).natAbs % 18446744073709551616:Nat):Int)):=by unfold qmm;rw [h];rfl
theorem qmo (d:Nat):COK prog (qmk (qmm d)):=by
 refine qhd (qhe (fn:=f86) (by kernel_rfl) (by kernel_rfl) (by kernel_rfl)) fun x r hx w φ vs hφ hv=>?_
 have hx:qmm d x=some r:=hx
 unfold qmm at hx
 obtain ⟨hc,rfl⟩:=qit hx
 have hv:VRs (Emb.fro φ) [.int .i64 x.1.1,.int .i64 x.2.1.1] vs:=hv
 obtain ⟨v0,vs,rfl,q0,hv⟩:=VRs.uncons hv
 obtain ⟨v1,rfl,q1⟩:=vrs1 hv
 have r0:=qh8 q0;subst r0
 have r1:=qh8 q1;subst r1
 unfold qml at hc
 simp only [Bool.and_eq_true] at hc
 obtain ⟨h1,h2⟩:=hc
 refine (qlh x.1.1 x.2.1.1 w (qiq h1) (qiq h2)).mono ?_
 rintro e w' ⟨rfl,y,rfl⟩
 exact qhb hφ (VR.aggL (VRs.cons (.bool _) (VRs.cons (.int _ _) (VRs.cons (.int _ _) VRs.nil)))) y
abbrev qmp:List Pk:=[.row Rii true]
abbrev qmq:Type:=Dii×Unit
abbrev qmr:Type:=Int
def qms (r:qmr):LV×List Ob:=(.int .i64 r,[])
def qmt (F:qmq→Option qmr):Go.Tx.Spec:=⟨104,qmp,qmr,F,qms⟩
def qmu (x:qmq):Bool:=i64B x.1.1&&i64B x.1.2.1
def qmv (d:Nat) (x:qmq):Option qmr:=bif qmu x then some (qcv x.1.1 x.1.2.1) else none
theorem qmw (d:Nat) (x:qmq) (h:qmu x=true):qmv d x=some (qcv x.1.1 x.1.2.1):=by unfold qmv;rw [h];rfl
theorem qmx (d:Nat):COK prog (qmt (qmv d)):=by
 refine qhd (qhe (fn:=f104) (by kernel_rfl) (by kernel_rfl) (by kernel_rfl)) fun x r hx w φ vs hφ hv=>?_
 have hx:qmv d x=some r:=hx
 unfold qmv at hx
 obtain ⟨hc,rfl⟩:=qit hx
 have hv:VRs (Emb.fro φ) [.agg [.int .i64 x.1.1,.int .i64 x.1.2.1]] vs:=hv
 obtain ⟨v0,rfl,q0⟩:=vrs1 hv
 have r0:=qh7 q0;subst r0
 unfold qmu at hc
 simp only [Bool.and_eq_true] at hc
 obtain ⟨h1,h2⟩:=hc
 refine (qjv x.1.1 x.1.2.1 w (qiq h1) (qiq h2)).mono ?_
 rintro e w' ⟨rfl,y,rfl⟩
 exact qhb hφ (.int _ _) y
abbrev qmy:List Pk:=[.row Rii true]
abbrev qmz:Type:=Dii×Unit
abbrev qn0:Type:=Int
def qn1 (r:qn0):LV×List Ob:=(.int .i64 r,[])
def qn2 (F:qmz→Option qn0):Go.Tx.Spec:=⟨15,qmy,qn0,F,qn1⟩
def qn3 (x:qmz):Bool:=i64B x.1.1&&i64B x.1.2.1
def qn4 (d:Nat) (x:qmz):Option qn0:=bif qn3 x then some (qcv x.1.1 x.1.2.1) else none
theorem qn5 (d:Nat) (x:qmz) (h:qn3 x=true):qn4 d x=some (qcv x.1.1 x.1.2.1):=by unfold qn4;rw [h];rfl
theorem qn6 (d:Nat):COK prog (qn2 (qn4 d)):=by
 refine qhd (qhe (fn:=f15) (by kernel_rfl) (by kernel_rfl) (by kernel_rfl)) fun x r hx w φ vs hφ hv=>?_
 have hx:qn4 d x=some r:=hx
 unfold qn4 at hx
 obtain ⟨hc,rfl⟩:=qit hx
 have hv:VRs (Emb.fro φ) [.agg [.int .i64 x.1.1,.int .i64 x.1.2.1]] vs:=hv
 obtain ⟨v0,rfl,q0⟩:=vrs1 hv
 have r0:=qh7 q0;subst r0
 unfold qn3 at hc
 simp only [Bool.and_eq_true] at hc
 obtain ⟨h1,h2⟩:=hc
 refine (qjw x.1.1 x.1.2.1 w (qiq h1) (qiq h2)).mono ?_
 rintro e w' ⟨rfl,y,rfl⟩
 exact qhb hφ (.int _ _) y
abbrev qn7:List Pk:=[.row Ri false,.row Ri false]
abbrev qn8:Type:=Di×Di×Unit
abbrev qn9:Type:=Int×Int×Int
def qna (r:qn9):LV×List Ob:=(.tup [.agg [.int .i64 r.1,.int .i64 r.2.1],.int .i64 r.2.2],[])
def qnb (F:qn8→Option qn9):Go.Tx.Spec:=⟨148,qn7,qn9,F,qna⟩
def qnc (x:qn8):Bool:=i64B x.1.1&&i64B x.2.1.1
def qnd (d:Nat) (x:qn8):Option qn9:=bif qnc x then some ((mk x.1.1 x.2.1.1).1,(mk x.1.1 x.2.1.1).2.1,(mk x.1.1 x.2.1.1).2.2) else none
theorem qne (d:Nat) (x:qn8) (h:qnc x=true):qnd d x=some ((mk x.1.1 x.2.1.1).1,(mk x.1.1 x.2.1.1).2.1,(mk x.1.1 x.2.1.1).2.2):=by unfold qnd;rw [h];rfl
theorem qnf (d:Nat):COK prog (qnb (qnd d)):=by
 refine qhd (qhe (fn:=f148) (by kernel_rfl) (by kernel_rfl) (by kernel_rfl)) fun x r hx w φ vs hφ hv=>?_
 have hx:qnd d x=some r:=hx
 unfold qnd at hx
 obtain ⟨hc,rfl⟩:=qit hx
 have hv:VRs (Emb.fro φ) [.int .i64 x.1.1,.int .i64 x.2.1.1] vs:=hv
 obtain ⟨v0,vs,rfl,q0,hv⟩:=VRs.uncons hv
 obtain ⟨v1,rfl,q1⟩:=vrs1 hv
 have r0:=qh8 q0;subst r0
 have r1:=qh8 q1;subst r1
 unfold qnc at hc
 simp only [Bool.and_eq_true] at hc
 obtain ⟨h1,h2⟩:=hc
 refine (qk4 x.1.1 x.2.1.1 w (qiq h1) (qiq h2)).mono ?_
 rintro e w' ⟨rfl,y,rfl⟩
 exact qhb hφ (VR.tupL (VRs.cons (VR.aggL (VRs.cons (.int _ _) (VRs.cons (.int _ _) VRs.nil))) (VRs.cons (.int _ _) VRs.nil))) y
abbrev qnp:List Pk:=[.row Riii true]
abbrev qnq:Type:=Diii×Unit
abbrev qnr:Type:=Int
def qns (r:qnr):LV×List Ob:=(.int .i64 r,[])
def qnt (F:qnq→Option qnr):Go.Tx.Spec:=⟨98,qnp,qnr,F,qns⟩
def qnu (x:qnq):Bool:=true
def qnv (d:Nat) (x:qnq):Option qnr:=bif qnu x then some (qd9 (ofP x.1).id (ofP x.1).a (ofP x.1).b) else none
theorem qnw (d:Nat) (x:qnq) (h:qnu x=true):qnv d x=some (qd9 (ofP x.1).id (ofP x.1).a (ofP x.1).b):=by unfold qnv;rw [h];rfl
theorem qnx (d:Nat):COK prog (qnt (qnv d)):=by
 refine qhd (qhe (fn:=f98) (by kernel_rfl) (by kernel_rfl) (by kernel_rfl)) fun x r hx w φ vs hφ hv=>?_
 have hx:qnv d x=some r:=hx
 unfold qnv at hx
 obtain ⟨hc,rfl⟩:=qit hx
 have hv:VRs (Emb.fro φ) [.agg [.int .i64 x.1.1,.int .i64 x.1.2.1,.int .i64 x.1.2.2.1]] vs:=hv
 obtain ⟨v0,rfl,q0⟩:=vrs1 hv
 have r0:=qh6 (p:=x.1) q0;subst r0
 refine (qjz (ofP x.1).id (ofP x.1).a (ofP x.1).b w).mono ?_
 rintro e w' ⟨rfl,y,rfl⟩
 exact qhb hφ (.int _ _) y
abbrev qog:List Pk:=[.row Riii true,.row Riii true,.row Rii true]
abbrev qoh:Type:=Diii×Diii×Dii×Unit
abbrev qoi:Type:=Int
def qoj (r:qoi):LV×List Ob:=(.int .i64 r,[])
def qok (F:qoh→Option qoi):Go.Tx.Spec:=⟨143,qog,qoi,F,qoj⟩
def qol (x:qoh):Bool:=i64B x.2.2.1.1&&i64B x.2.2.1.2.1
def qom (d:Nat) (x:qoh):Option qoi:=bif qol x then some (qkn (ofP x.1) (ofP x.2.1) x.2.2.1.1 x.2.2.1.2.1) else none
theorem qon (d:Nat) (x:qoh) (h:qol x=true):qom d x=some (qkn (ofP x.1) (ofP x.2.1) x.2.2.1.1 x.2.2.1.2.1):=by unfold qom;rw [h];rfl
theorem qoo (d:Nat):COK prog (qok (qom d)):=by
 refine qhd (qhe (fn:=f143) (by kernel_rfl) (by kernel_rfl) (by kernel_rfl)) fun x r hx w φ vs hφ hv=>?_
 have hx:qom d x=some r:=hx
 unfold qom at hx
 obtain ⟨hc,rfl⟩:=qit hx
 have hv:VRs (Emb.fro φ) [.agg [.int .i64 x.1.1,.int .i64 x.1.2.1,.int .i64 x.1.2.2.1],.agg [.int .i64 x.2.1.1,.int .i64 x.2.1.2.1,.int .i64 x.2.1.2.2.1],.agg [.int .i64 x.2.2.1.1,.int .i64 x.2.2.1.2.1]] vs:=hv
 obtain ⟨v0,vs,rfl,q0,hv⟩:=VRs.uncons hv
 obtain ⟨v1,vs,rfl,q1,hv⟩:=VRs.uncons hv
 obtain ⟨v2,rfl,q2⟩:=vrs1 hv
 have r0:=qh6 (p:=x.1) q0;subst r0
 have r1:=qh6 (p:=x.2.1) q1;subst r1
 have r2:=qh7 q2;subst r2
 unfold qol at hc
 simp only [Bool.and_eq_true] at hc
 obtain ⟨h1,h2⟩:=hc
 refine (qld (ofP x.1) (ofP x.2.1) x.2.2.1.1 x.2.2.1.2.1 w (qiq h1) (qiq h2)).mono ?_
 rintro e w' ⟨rfl,y,rfl⟩
 exact qhb hφ (.int _ _) y
abbrev qop:List Pk:=[.row Riii true,.row Riii true,.row Rii true]
abbrev qoq:Type:=Diii×Diii×Dii×Unit
abbrev qor:Type:=Bool×Int
def qos (r:qor):LV×List Ob:=(.tup [.bool r.1,.int .i64 r.2],[])
def qot (F:qoq→Option qor):Go.Tx.Spec:=⟨103,qop,qor,F,qos⟩
def qou (x:qoq):Bool:=i64B x.2.2.1.1&&i64B x.2.2.1.2.1
def qov (d:Nat) (x:qoq):Option qor:=bif qou x then some ((qks (ofP x.1) (ofP x.2.1) x.2.2.1.1 x.2.2.1.2.1).1,(qks (ofP x.1) (ofP x.2.1) x.2.2.1.1 x.2.2.1.2.1).2) else none
theorem qow (d:Nat) (x:qoq) (h:qou x=true):qov d x=some ((qks (ofP x.1) (ofP x.2.1) x.2.2.1.1 x.2.2.1.2.1).1,(qks (ofP x.1) (ofP x.2.1) x.2.2.1.1 x.2.2.1.2.1).2):=by unfold qov;rw [h];rfl
theorem qox (d:Nat):COK prog (qot (qov d)):=by
 refine qhd (qhe (fn:=f103) (by kernel_rfl) (by kernel_rfl) (by kernel_rfl)) fun x r hx w φ vs hφ hv=>?_
 have hx:qov d x=some r:=hx
 unfold qov at hx
 obtain ⟨hc,rfl⟩:=qit hx
 have hv:VRs (Emb.fro φ) [.agg [.int .i64 x.1.1,.int .i64 x.1.2.1,.int .i64 x.1.2.2.1],.agg [.int .i64 x.2.1.1,.int .i64 x.2.1.2.1,.int .i64 x.2.1.2.2.1],.agg [.int .i64 x.2.2.1.1,.int .i64 x.2.2.1.2.1]] vs:=hv
 obtain ⟨v0,vs,rfl,q0,hv⟩:=VRs.uncons hv
 obtain ⟨v1,vs,rfl,q1,hv⟩:=VRs.uncons hv
 obtain ⟨v2,rfl,q2⟩:=vrs1 hv
 have r0:=qh6 (p:=x.1) q0;subst r0
 have r1:=qh6 (p:=x.2.1) q1;subst r1
 have r2:=qh7 q2;subst r2
 unfold qou at hc
 simp only [Bool.and_eq_true] at hc
 obtain ⟨h1,h2⟩:=hc
 refine (qlf (ofP x.1) (ofP x.2.1) x.2.2.1.1 x.2.2.1.2.1 w (qiq h1) (qiq h2)).mono ?_
 rintro e w' ⟨rfl,y,rfl⟩
 exact qhb hφ (VR.tupL (VRs.cons (.bool _) (VRs.cons (.int _ _) VRs.nil))) y
abbrev qoy:List Pk:=[.row qj5 true]
abbrev qoz:Type:=qj6×Unit
abbrev qp0:Type:=Bool
def qp1 (r:qp0):LV×List Ob:=(.bool r,[])
def qp2 (F:qoz→Option qp0):Go.Tx.Spec:=⟨10,qoy,qp0,F,qp1⟩
def qp3 (x:qoz):Bool:=true
def qp4 (d:Nat) (x:qoz):Option qp0:=bif qp3 x then some (great (ptsL x.1.1).length) else none
theorem qp5 (d:Nat) (x:qoz) (h:qp3 x=true):qp4 d x=some (great (ptsL x.1.1).length):=by unfold qp4;rw [h];rfl
theorem qp6 (d:Nat):COK prog (qp2 (qp4 d)):=by
 refine qhd (qhe (fn:=f10) (by kernel_rfl) (by kernel_rfl) (by kernel_rfl)) fun x r hx w φ vs hφ hv=>?_
 have hx:qp4 d x=some r:=hx
 unfold qp4 at hx
 obtain ⟨hc,rfl⟩:=qit hx
 have hv:VRs (Emb.fro φ) [.agg [.fz RP x.1.1]] vs:=hv
 obtain ⟨v0,rfl,q0⟩:=vrs1 hv
 obtain ⟨A0,c0,rfl,s0,z0⟩:=qio hφ q0
 refine (qlu A0 (ptsL x.1.1).length c0 w).mono ?_
 rintro e w' ⟨rfl,y,rfl⟩
 exact qhb hφ (.bool _) y
abbrev qp7:List Pk:=[.row qj5 true]
abbrev qp8:Type:=qj6×Unit
abbrev qp9:Type:=Int
def qpa (r:qp9):LV×List Ob:=(.int .i64 r,[])
def qpb (F:qp8→Option qp9):Go.Tx.Spec:=⟨97,qp7,qp9,F,qpa⟩
def qpc (x:qp8):Bool:=true
def qpd (d:Nat) (x:qp8):Option qp9:=bif qpc x then some (qfx (ptsL x.1.1)) else none
theorem qpe (d:Nat) (x:qp8) (h:qpc x=true):qpd d x=some (qfx (ptsL x.1.1)):=by unfold qpd;rw [h];rfl
theorem qpf (d:Nat):COK prog (qpb (qpd d)):=by
 refine qhd (qhe (fn:=f97) (by kernel_rfl) (by kernel_rfl) (by kernel_rfl)) fun x r hx w φ vs hφ hv=>?_
 have hx:qpd d x=some r:=hx
 unfold qpd at hx
 obtain ⟨hc,rfl⟩:=qit hx
 have hv:VRs (Emb.fro φ) [.agg [.fz RP x.1.1]] vs:=hv
 obtain ⟨v0,rfl,q0⟩:=vrs1 hv
 obtain ⟨A0,c0,rfl,s0,z0⟩:=qio hφ q0
 refine (qlb A0 c0 (ptsL x.1.1) w s0).mono ?_
 rintro e w' ⟨rfl,y,rfl⟩
 exact qhb hφ (.int _ _) y
abbrev qpg:List Pk:=[.row qj5 true]
abbrev qph:Type:=qj6×Unit
abbrev qpi:Type:=Int
def qpj (r:qpi):LV×List Ob:=(.int .i64 r,[])
def qpk (F:qph→Option qpi):Go.Tx.Spec:=⟨47,qpg,qpi,F,qpj⟩
def qpl (x:qph):Bool:=true
def qpm (d:Nat) (x:qph):Option qpi:=bif qpl x then some (qfx (ptsL x.1.1)) else none
theorem qpn (d:Nat) (x:qph) (h:qpl x=true):qpm d x=some (qfx (ptsL x.1.1)):=by unfold qpm;rw [h];rfl
theorem qpo (d:Nat):COK prog (qpk (qpm d)):=by
 refine qhd (qhe (fn:=f47) (by kernel_rfl) (by kernel_rfl) (by kernel_rfl)) fun x r hx w φ vs hφ hv=>?_
 have hx:qpm d x=some r:=hx
 unfold qpm at hx
 obtain ⟨hc,rfl⟩:=qit hx
 have hv:VRs (Emb.fro φ) [.agg [.fz RP x.1.1]] vs:=hv
 obtain ⟨v0,rfl,q0⟩:=vrs1 hv
 obtain ⟨A0,c0,rfl,s0,z0⟩:=qio hφ q0
 refine (qls A0 c0 (ptsL x.1.1) w s0).mono ?_
 rintro e w' ⟨rfl,y,rfl⟩
 exact qhb hφ (.int _ _) y
end Go.Proofs.YtpfhgnccpiildaaGreat

namespace Go.Proofs.YtpfhgnccpiildaaGreat
open Go.RowKit Go.Pel
set_option maxHeartbeats 400000 in
theorem qqg (p:Pt) (id:Int) (w:World):Calls Tryz.prog 139 #[.agg #[.int .i64 p.id,.int .i64 p.a,.int .i64 p.b],.int .i64 id] w fun e w'=>e=.returned (.int .i64 (cmpI p.id id))∧∃ x,w'=ext w x:=by
  go_enter Tryz.func139,Tryz.ntmps139
  go_wp2_with ((go_at_call 140;refine (ql1 _ _ _).mono ?_;rintro e _ ⟨rfl,nx,rfl⟩))
  (go_ret;exact ⟨qjp (by rfl),ext_of (by (try simp only [qbh]);repeat (first | exact Bel.refl _ | assumption | refine qbq ?_ _ | refine qbr ?_ _ | refine Bel.ext ?_ _ | refine Bel.alloc ?_ _ | refine Bel.drewN ?_ _))⟩)
theorem qqh (p:Pt) (id v:Int) (h:cmpI p.id id=v) (w:World):Calls Tryz.prog 139 #[.agg #[.int .i64 p.id,.int .i64 p.a,.int .i64 p.b],.int .i64 id] w fun e w'=>e=.returned (.int .i64 v)∧∃ x,w'=ext w x:=h ▸ qqg p id w
set_option maxRecDepth 10000 in
set_option maxHeartbeats 2000000 in
theorem qqi (A:Option Addr) (c:Nat) (l:List Pt) (id:Int) (w:World) (hs:Sl w 3 A l.length c (vp l)) (hl:l.length≤1000000) (hinc:incB l=true) :
    Calls Tryz.prog 138 #[.slice A l.length c,.int .i64 id,.func (.func 139) #[] #[]] w fun e w'=>e=.returned (.tuple #[.int .i64 (lowB l id),.bool (hasB l id)])∧∃ x,w'=ext w x:=by
  have HI:=Lib.hid hinc;clear hinc
  go_enter Tryz.func138,Tryz.ntmps138
  go_wp2
  go_loopw [9,10] (fun i j wr=>∃ (a b:Nat),a≤b∧b≤l.length∧i=.int .i64 a∧j=.int .i64 b∧(∀ (k:Nat) (p:Pt),k<a→l[k]?=some p→p.id<id)∧(∀ (k:Nat) (p:Pt),b≤k→l[k]?=some p→id≤p.id)∧∃ y,wr=ext w y) (fun i j _=>(intOf j - intOf i).toNat)
  case atStart=>exact ⟨0,l.length,Nat.zero_le _,Nat.le_refl _,rfl,rfl,(by intro k p h;omega),(by intro k p h hp;have:=(List.getElem?_eq_some_iff.1 hp).1;omega),ext_of (Bel.refl _)⟩
  case round =>
    obtain ⟨a,b,hab,hbl,rfl,rfl,h1,h2,y,rfl⟩:=hrel
    have H1:=Lib.hid h1
    have H2:=Lib.hid h2
    clear h1 h2
    by_cases hlt:a<b
    · obtain ⟨m, hm1, hm2⟩ : ∃ m : Nat, 2 * m ≤ a + b ∧ a + b ≤ 2 * m + 1 := ⟨(a + b) / 2, by omega, by omega⟩
      have hmd:((a:Int)+(b:Int)) / 2=(m:Int):=by omega
      obtain ⟨p,hp⟩:∃ p,l[m]?=some p:=⟨_,List.getElem?_eq_getElem (by omega)⟩
      obtain ⟨b0,o,rfl,hb0⟩:=hs.at_ (by omega)
      obtain ⟨r0,r1,r2⟩:=qfu hs hp
      have HP:=Lib.hid hp;clear hp
      have hml:(m:Int)<(l.length:Int):=by omega
      by_cases hpi:p.id<id
      · have e1 := Lib.hid (qqh p id (-1) (qky hpi))
        go_wp2_with ((go_at_call 139;refine (e1.out _).mono ?_;rintro e _ ⟨rfl,nx,rfl⟩))
        go_roundw
        case rel =>
          refine ⟨m+1,b,by omega,hbl,by go_num,rfl,?_,H2.out,ext_of (by (try simp only [qbh]);repeat (first | exact Bel.refl _ | assumption | refine qbq ?_ _ | refine qbr ?_ _ | refine Bel.ext ?_ _ | refine Bel.alloc ?_ _ | refine Bel.drewN ?_ _))⟩
          intro k q hk hq
          rcases Nat.lt_or_ge k m with h | h
          · have:=qfw HI.out h hq HP.out;omega
          · obtain rfl : k = m := by omega
            rw [HP.out] at hq;obtain rfl:=Option.some.inj hq;exact hpi
        case measure=>(first | (simp [intOf];done) | (simp [intOf];omega))
      · have e1:Hid (∃ v:Int,¬ v<0∧cmpI p.id id=v):=Lib.hid (by
          by_cases h:id<p.id
          · exact ⟨1,by omega,qkz h⟩
          · exact ⟨0,by omega,ql0 (by omega)⟩)
        obtain ⟨v,hv,e2⟩:=e1.out
        have e1:=Lib.hid (qqh p id v e2)
        clear e2
        go_wp2_with ((go_at_call 139;refine (e1.out _).mono ?_;rintro e _ ⟨rfl,nx,rfl⟩))
        go_roundw
        case rel =>
          refine ⟨a,m,by omega,by omega,rfl,rfl,H1.out,?_,ext_of (by (try simp only [qbh]);repeat (first | exact Bel.refl _ | assumption | refine qbq ?_ _ | refine qbr ?_ _ | refine Bel.ext ?_ _ | refine Bel.alloc ?_ _ | refine Bel.drewN ?_ _))⟩
          intro k q hk hq
          rcases Nat.lt_or_ge m k with h | h
          · have:=qfw HI.out h HP.out hq;omega
          · obtain rfl : k = m := by omega
            rw [HP.out] at hq;obtain rfl:=Option.some.inj hq;omega
        case measure=>(first | (simp [intOf];done) | (simp [intOf];omega))
    · obtain rfl : a = b := by omega
      have HL:=Lib.hid (qg7 hbl H1.out (fun p hp=>H2.out a p (Nat.le_refl _) hp))
      have HH:=Lib.hid (qga HI.out id)
      by_cases hal:a<l.length
      · obtain ⟨p, hp⟩ : ∃ p, l[a]? = some p := ⟨_, List.getElem?_eq_getElem hal⟩
        obtain ⟨b0,o,rfl,hb0⟩:=hs.at_ (by omega)
        obtain ⟨r0,r1,r2⟩:=qfu hs hp
        have HP:=Lib.hid hp;clear hp
        have hge:=H2.out a p (Nat.le_refl _) HP.out
        have hal2:(a:Int)<(l.length:Int):=by omega
        by_cases hpi:p.id=id
        · have e1 := Lib.hid (qqh p id 0 (ql0 hpi))
          have HB:Hid (hasB l id=true):=Lib.hid (by rw [HH.out,HL.out,HP.out];simpa using hpi)
          clear hpi
          go_wp2_with ((go_at_call 139;refine (e1.out _).mono ?_;rintro e _ ⟨rfl,nx,rfl⟩))
          go_ret2
          exact ⟨by rw [HL.out,HB.out];rfl,ext_of (by (try simp only [qbh]);repeat (first | exact Bel.refl _ | assumption | refine qbq ?_ _ | refine qbr ?_ _ | refine Bel.ext ?_ _ | refine Bel.alloc ?_ _ | refine Bel.drewN ?_ _))⟩
        · have e1 := Lib.hid (qqh p id 1 (qkz (by omega)))
          have HB:Hid (hasB l id=false):=Lib.hid (by rw [HH.out,HL.out,HP.out];simpa using hpi)
          clear hpi
          go_wp2_with ((go_at_call 139;refine (e1.out _).mono ?_;rintro e _ ⟨rfl,nx,rfl⟩))
          go_ret2
          exact ⟨by rw [HL.out,HB.out];rfl,ext_of (by (try simp only [qbh]);repeat (first | exact Bel.refl _ | assumption | refine qbq ?_ _ | refine qbr ?_ _ | refine Bel.ext ?_ _ | refine Bel.alloc ?_ _ | refine Bel.drewN ?_ _))⟩
      · have HB : Hid (hasB l id = false) := Lib.hid (by rw [HH.out, HL.out, List.getElem?_eq_none (by omega)])
        go_wp2
        go_ret2
        exact ⟨by rw [HL.out,HB.out];rfl,ext_of (by (try simp only [qbh]);repeat (first | exact Bel.refl _ | assumption | refine qbq ?_ _ | refine qbr ?_ _ | refine Bel.ext ?_ _ | refine Bel.alloc ?_ _ | refine Bel.drewN ?_ _))⟩
set_option maxHeartbeats 400000 in
theorem qqj (A:Option Addr) (c:Nat) (l:List Pt) (id:Int) (w:World) (hs:Sl w 3 A l.length c (vp l)) (hl:l.length≤1000000) (hinc:incB l=true) :
    Calls Tryz.prog 99 #[.agg #[.slice A l.length c],.int .i64 id] w fun e w'=>e=.returned (.tuple #[.int .i64 (lowB l id),.bool (hasB l id)])∧∃ x,w'=ext w x:=by
  have q:=Lib.hid (fun W hb=>qqi A c l id W (hs.bel (w':=W) hb) hl hinc)
  clear hinc
  go_enter Tryz.func99,Tryz.ntmps99
  go_wp2_with ((go_at_call 138;refine (q.out _ (by (try simp only [qbh]);repeat (first | exact Bel.refl _ | assumption | refine qbq ?_ _ | refine qbr ?_ _ | refine Bel.ext ?_ _ | refine Bel.alloc ?_ _ | refine Bel.drewN ?_ _))).mono ?_;rintro e _ ⟨rfl,nx,rfl⟩))
  go_ret2
  exact ⟨rfl,ext_of (by (try simp only [qbh]);repeat (first | exact Bel.refl _ | assumption | refine qbq ?_ _ | refine qbr ?_ _ | refine Bel.ext ?_ _ | refine Bel.alloc ?_ _ | refine Bel.drewN ?_ _))⟩
def fieldPlace (l:List Pt) (id:Int):Int×Int:=if qfx l≠0 then (0,qfx l) else if hasB l id then ((lowB l id:Int),0) else (0,6)
set_option maxHeartbeats 1000000 in
theorem qqk (A:Option Addr) (c:Nat) (l:List Pt) (id:Int) (w:World) (hs:Sl w 3 A l.length c (vp l)) :
    Calls Tryz.prog 93 #[.agg #[.slice A l.length c],.int .i64 id] w fun e w'=>e=.returned (.tuple #[.int .i64 (fieldPlace l id).1,.int .i64 (fieldPlace l id).2])∧∃ x,w'=ext w x:=by
  have q1:=Lib.hid (fun W hb=>qlb A c l W (hs.bel (w':=W) hb))
  by_cases h0:qfx l=0
  · obtain ⟨h1, h2, h3⟩ := qg2 h0
    have q2:=Lib.hid (fun W hb=>qqj A c l id W (hs.bel (w':=W) hb) (by omega) h3)
    cases hb:hasB l id with
    | true =>
      have H:Hid (fieldPlace l id=((lowB l id:Int),0)):=Lib.hid (by simp [fieldPlace,h0,hb])
      rw [h0] at q1
      rw [hb] at q2
      clear h0 h2 h3 hb
      go_enter Tryz.func93,Tryz.ntmps93
      go_wp2_with (first | (go_at_call 97;refine (q1.out _ (by (try simp only [qbh]);repeat (first | exact Bel.refl _ | assumption | refine qbq ?_ _ | refine qbr ?_ _ | refine Bel.ext ?_ _ | refine Bel.alloc ?_ _ | refine Bel.drewN ?_ _))).mono ?_;rintro e _ ⟨rfl,nx,rfl⟩) | (go_at_call 99;refine (q2.out _ (by (try simp only [qbh]);repeat (first | exact Bel.refl _ | assumption | refine qbq ?_ _ | refine qbr ?_ _ | refine Bel.ext ?_ _ | refine Bel.alloc ?_ _ | refine Bel.drewN ?_ _))).mono ?_;rintro e _ ⟨rfl,nx,rfl⟩))
      go_ret2
      exact ⟨by rw [H.out];rfl,ext_of (by (try simp only [qbh]);repeat (first | exact Bel.refl _ | assumption | refine qbq ?_ _ | refine qbr ?_ _ | refine Bel.ext ?_ _ | refine Bel.alloc ?_ _ | refine Bel.drewN ?_ _))⟩
    | false =>
      have H:Hid (fieldPlace l id=(0,6)):=Lib.hid (by simp [fieldPlace,h0,hb])
      rw [h0] at q1
      rw [hb] at q2
      clear h0 h2 h3 hb
      go_enter Tryz.func93,Tryz.ntmps93
      go_wp2_with (first | (go_at_call 97;refine (q1.out _ (by (try simp only [qbh]);repeat (first | exact Bel.refl _ | assumption | refine qbq ?_ _ | refine qbr ?_ _ | refine Bel.ext ?_ _ | refine Bel.alloc ?_ _ | refine Bel.drewN ?_ _))).mono ?_;rintro e _ ⟨rfl,nx,rfl⟩) | (go_at_call 99;refine (q2.out _ (by (try simp only [qbh]);repeat (first | exact Bel.refl _ | assumption | refine qbq ?_ _ | refine qbr ?_ _ | refine Bel.ext ?_ _ | refine Bel.alloc ?_ _ | refine Bel.drewN ?_ _))).mono ?_;rintro e _ ⟨rfl,nx,rfl⟩))
      go_ret2
      exact ⟨by rw [H.out];rfl,ext_of (by (try simp only [qbh]);repeat (first | exact Bel.refl _ | assumption | refine qbq ?_ _ | refine qbr ?_ _ | refine Bel.ext ?_ _ | refine Bel.alloc ?_ _ | refine Bel.drewN ?_ _))⟩
  · have H : Hid (fieldPlace l id = (0, qfx l)) := Lib.hid (by simp [fieldPlace, h0])
    have hz:(qfx l == 0)=false:=by simpa using h0
    have hz':(qfx l != 0)=true:=by simpa using h0
    clear h0
    go_enter Tryz.func93,Tryz.ntmps93
    go_wp2_with ((go_at_call 97;refine (q1.out _ (by (try simp only [qbh]);repeat (first | exact Bel.refl _ | assumption | refine qbq ?_ _ | refine qbr ?_ _ | refine Bel.ext ?_ _ | refine Bel.alloc ?_ _ | refine Bel.drewN ?_ _))).mono ?_;rintro e _ ⟨rfl,nx,rfl⟩))
    go_ret2
    exact ⟨by rw [H.out];rfl,ext_of (by (try simp only [qbh]);repeat (first | exact Bel.refl _ | assumption | refine qbq ?_ _ | refine qbr ?_ _ | refine Bel.ext ?_ _ | refine Bel.alloc ?_ _ | refine Bel.drewN ?_ _))⟩
end Go.Proofs.YtpfhgnccpiildaaGreat

namespace Go.Proofs.YtpfhgnccpiildaaGreat
open Go.RowKit Go.Pel Go.IntWalk
set_option maxRecDepth 10000 in
set_option maxHeartbeats 1000000 in
theorem qql (A:Option Addr) (c:Nat) (l:List Pt) (w:World) (hs:Sl w 3 A l.length c (vp l)) (hn:A=none→c=0) (hl:l.length≤1000000) :
    Calls Tryz.prog 95 #[.slice A l.length c] w fun e w'=>∃ A' c',e=.returned (.slice A' l.length c')∧∃ x,w'=ext w x∧Own (ext w x) w.heap.size 79 3 A' l.length c' (vp l):=by
  have hnil:=fun W n c n' c'=>Lib.run_eql_slice_nil (P:=Tryz.prog) W 22 79 A n c n' c' Tryz.underlying22
  cases A with
  | none =>
    obtain rfl:=hn rfl
    obtain rfl:l=[]:=by
      cases l with
      | nil=>rfl
      | cons p l=>obtain ⟨b,o,h,_⟩:=hs.at_ (by simp);cases h
    go_enter Tryz.func95,Tryz.ntmps95
    go_wp2
    go_ret
    exact ⟨none,0,rfl,qfn _ _ _ _⟩
  | some a =>
    go_enter Tryz.func95,Tryz.ntmps95
    go_wp2_with ((at_builtin;(try refine qfa rfl (by first | rfl | simp [yielded]) ?_);refine qfc qlo (by (try simp only [qbh]);repeat (first | exact Bel.refl _ | assumption | refine qbq ?_ _ | refine qbr ?_ _ | refine Bel.ext ?_ _ | refine Bel.alloc ?_ _ | refine Bel.drewN ?_ _)) (hs) (by (try simp only [qbh]);repeat (first | exact Bel.refl _ | assumption | refine qbq ?_ _ | refine qbr ?_ _ | refine Bel.ext ?_ _ | refine Bel.alloc ?_ _ | refine Bel.drewN ?_ _)) (qfq _) (hn) (by omega) rfl _ _ rfl rfl rfl (by simp [go_sem]) ?_;rintro A1 c1 y1 hown1))
    go_ret
    exact ⟨_,_,rfl,qer (by (try simp only [qbh]);repeat (first | exact Bel.refl _ | assumption | refine qbq ?_ _ | refine qbr ?_ _ | refine Bel.ext ?_ _ | refine Bel.alloc ?_ _ | refine Bel.drewN ?_ _)) (qf9 (by simp [go_sem]) hown1 (by simp [go_sem])) (Bel.refl _) (by simp [go_sem])⟩
set_option maxRecDepth 10000 in
set_option maxHeartbeats 2000000 in
theorem qqm (A:Option Addr) (c:Nat) (l:List Pt) (p:Pt) (g cg:Nat) (wB w:World) (hb:Bel wB w) (hown:Own w wB.heap.size 79 3 A l.length c (vp l)) (hv:Sl w 3 (some ⟨g,0,none⟩) 1 cg p.cells) (hl:l.length≤1000000) :
    Calls Tryz.prog 100 #[.slice A l.length c,.int .i64 l.length,.slice (some ⟨g,0,none⟩) 1 cg] w fun e w'=>∃ A' c',e=.returned (.slice A' (l.length+1) c')∧∃ y,w'=ext wB y∧Own (ext wB y) wB.heap.size 79 3 A' (l.length+1) c' (vp (l ++ [p])):=by
  have hc:=hown.cap
  rw [qfs]
  cases A with
  | none =>
    go_enter Tryz.func100,Tryz.ntmps100
    go_wp2_with ((at_builtin;(try refine qfa rfl (by first | rfl | simp [yielded]) ?_);refine qf2 qlo (by (try simp only [qbh]);repeat (first | exact Bel.refl _ | assumption | refine qbq ?_ _ | refine qbr ?_ _ | refine Bel.ext ?_ _ | refine Bel.alloc ?_ _ | refine Bel.drewN ?_ _)) hown (by (try simp only [qbh]);repeat (first | exact Bel.refl _ | assumption | refine qbq ?_ _ | refine qbr ?_ _ | refine Bel.ext ?_ _ | refine Bel.alloc ?_ _ | refine Bel.drewN ?_ _)) (hv) (by (try simp only [qbh]);repeat (first | exact Bel.refl _ | assumption | refine qbq ?_ _ | refine qbr ?_ _ | refine Bel.ext ?_ _ | refine Bel.alloc ?_ _ | refine Bel.drewN ?_ _)) (qfp _) ((fun h=>by cases h)) (by omega) rfl _ _ rfl rfl rfl ?_;rintro A1 c1 y1 hown1))
    go_ret
    exact ⟨_,_,rfl,_,rfl,hown1⟩
  | some a =>
    obtain ⟨b0,o,h,_⟩:∃ b o,some a=some ⟨b,o,none⟩∧True:=by
      rcases hown.row with ⟨h,_⟩ | ⟨g,cur,h,_⟩
      · cases h
      · exact ⟨g,0,h,trivial⟩
    obtain rfl:=Option.some.inj h
    by_cases hcn:l.length<c
    · have h1 : (l.length : Int) < (c : Int) := by omega
      go_enter Tryz.func100,Tryz.ntmps100
      go_wp2_with ((at_builtin;(try refine qfa rfl (by first | rfl | simp [yielded]) ?_);refine qf2 qlo (by (try simp only [qbh]);repeat (first | exact Bel.refl _ | assumption | refine qbq ?_ _ | refine qbr ?_ _ | refine Bel.ext ?_ _ | refine Bel.alloc ?_ _ | refine Bel.drewN ?_ _)) hown (by (try simp only [qbh]);repeat (first | exact Bel.refl _ | assumption | refine qbq ?_ _ | refine qbr ?_ _ | refine Bel.ext ?_ _ | refine Bel.alloc ?_ _ | refine Bel.drewN ?_ _)) (hv) (by (try simp only [qbh]);repeat (first | exact Bel.refl _ | assumption | refine qbq ?_ _ | refine qbr ?_ _ | refine Bel.ext ?_ _ | refine Bel.alloc ?_ _ | refine Bel.drewN ?_ _)) (qfp _) ((fun h=>by cases h)) (by omega) rfl _ _ rfl rfl rfl ?_;rintro A1 c1 y1 hown1))
      go_ret
      exact ⟨_,_,rfl,_,rfl,hown1⟩
    · obtain rfl : c = l.length := by omega
      go_enter Tryz.func100,Tryz.ntmps100
      go_wp2_with ((at_builtin;(try refine qfa rfl (by first | rfl | simp [yielded]) ?_);refine qf2 qlo (by (try simp only [qbh]);repeat (first | exact Bel.refl _ | assumption | refine qbq ?_ _ | refine qbr ?_ _ | refine Bel.ext ?_ _ | refine Bel.alloc ?_ _ | refine Bel.drewN ?_ _)) hown (by (try simp only [qbh]);repeat (first | exact Bel.refl _ | assumption | refine qbq ?_ _ | refine qbr ?_ _ | refine Bel.ext ?_ _ | refine Bel.alloc ?_ _ | refine Bel.drewN ?_ _)) (hv) (by (try simp only [qbh]);repeat (first | exact Bel.refl _ | assumption | refine qbq ?_ _ | refine qbr ?_ _ | refine Bel.ext ?_ _ | refine Bel.alloc ?_ _ | refine Bel.drewN ?_ _)) (qfp _) ((fun h=>by cases h)) (by omega) rfl _ _ rfl rfl rfl ?_;rintro A1 c1 y1 hown1))
      go_ret
      exact ⟨_,_,rfl,_,rfl,hown1⟩
theorem qqn (cur A p M:List Value) (i n:Nat) (hA:cur.take (i*3)=A) (hc:i*3≤cur.length) (hp:p.length=3) (hM:M.length=(n - i)*3) (hi:i≤n) :
    ((cur.take (i*3)++p++cur.drop (i*3+p.length)).take ((i+1)*3)++(M++(cur.take (i*3)++p++cur.drop (i*3+p.length)).drop ((i+1)*3+M.length))).take ((n+1)*3)=A++(p++M):=by
  have hAl:A.length=i*3:=by rw [← hA,List.length_take];omega
  have e1:(i+1)*3=(A++p).length:=by rw [List.length_append,hAl,hp];omega
  rw [hA,e1,List.take_left]
  have e2:(n+1)*3=(A++p++M).length:=by rw [List.length_append,← e1,hM];omega
  rw [e2,← List.append_assoc,List.take_left,List.append_assoc]
set_option maxRecDepth 10000 in
set_option maxHeartbeats 2000000 in
theorem qqo (a c:Nat) (l:List Pt) (i:Nat) (p:Pt) (g cg:Nat) (wB w:World) (hb:Bel wB w) (hown:Own w wB.heap.size 79 3 (some ⟨a,0,none⟩) l.length c (vp l)) (hv:Sl w 3 (some ⟨g,0,none⟩) 1 cg p.cells) (hl:l.length≤1000000) (hi:i<l.length) (hcn:c<l.length+1) :
    Calls Tryz.prog 100 #[.slice (some ⟨a,0,none⟩) l.length c,.int .i64 i,.slice (some ⟨g,0,none⟩) 1 cg] w fun e w'=>∃ A' c',e=.returned (.slice A' (l.length+1) c')∧∃ y,w'=ext wB y∧Own (ext wB y) wB.heap.size 79 3 A' (l.length+1) c' (vp (l.take i++p :: l.drop i)):=by
  have hc:=hown.cap
  obtain rfl:c=l.length:=by omega
  obtain ⟨k,hk⟩:∃ k,l.length+1=i+k:=⟨l.length+1 - i,by omega⟩
  have h1:(i:Int)<(l.length:Int):=by omega
  have h2:((i:Int) == (l.length:Int))=false:=by rw [beq_eq_false_iff_ne];omega
  have h3:(l.length:Int)+1 - (i:Int)=(k:Int):=by omega
  have HK:=Lib.hid hk;clear hk
  have hsl:Sl w 3 (some ⟨a,0,none⟩) i l.length (vp (l.take i)):=qfk qfo hown.sl (by omega)
  go_enter Tryz.func100,Tryz.ntmps100
  go_wp2_with (first
    | (at_builtin;refine qgn (z:=.agg #[.int .i64 0,.int .i64 0,.int .i64 0]) qlo (by kernel_rfl) hb hsl (by have:=HK.out;omega) (by have:=HK.out;omega) (by have:=HK.out;omega) (by omega) rfl _ _ rfl rfl rfl ?_;rintro G W1 cur hbB hbw hrow hGn htk;have h4:(i:Int)≤((i+k:Nat):Int):=by omega)
    | (refine qgk qlo hrow (i*3) _ _ (b:=g) (so:=0) (sLen:=1) (sCap:=cg) p.cells (by have:=HK.out;rw [qfo,show Nat.min 1 k=1 from Nat.min_eq_left (by omega)]) (fun j v hj=>by have:=(hv.bel hbw).cell hj;exact this) (by have:=HK.out;rw [qfo,hrow.len];omega) (qfp p) rfl _ _ rfl rfl rfl ?_))
  have hk2:2≤k:=by have:=HK.out;omega
  have hlc:=hrow.len
  have hr1:=hrow.set (cur':=cur.take (i*3)++p.cells++cur.drop (i*3+p.cells.length)) (by
    have:=HK.out
    simp only [List.length_append,List.length_take,List.length_drop,qfo,hlc];omega)
  have hb1:=hrow.bel_set hbw (Nat.le_refl _) (cur.take (i*3)++p.cells++cur.drop (i*3+p.cells.length)).toArray
  have h5:(i:Int)+1≤((i+k:Nat):Int):=by omega
  have h6:(i:Int)+1≤(G:Int):=by omega
  have hsd:Sl w 3 (some ⟨a,0+i*3,none⟩) (l.length - i) (l.length - i) (vp (l.drop i)):=qfl qfo hown.sl (by omega)
  have hins:=Lib.hid (qqn cur (vp (l.take i)) p.cells (vp (l.drop i)) i l.length htk (by have:=HK.out;omega) (qfo p) (by rw [qfr,List.length_drop]) (by omega))
  generalize hC1:cur.take (i*3)++p.cells++cur.drop (i*3+p.cells.length)=C1 at hr1 hb1 hins ⊢
  generalize hW2:W1.setRow w.heap.size C1.toArray=W2 at hr1 hb1 ⊢
  have hbB2:Bel wB W2:=hb.trans hb1
  clear hC1 hW2 hrow htk hbw hbB
  have h7:IntKind.i64.wrap ((i:Int)+1)=(i:Int)+1:=i64_in _ (by omega)
  have h8:((i:Int)+1).toNat=i+1:=by omega
  have h9:(0:Int)≤(i:Int)+1:=by omega
  go_frame
  ((first | refine RegC.wp_region_tail1 8 (by kernel_rfl) (by kernel_rfl) ?_ | refine RegC.wp_region_tail0 8 (by kernel_rfl) (by kernel_rfl) ?_);simp only [List.take_succ_cons,List.take_zero,List.drop_succ_cons,List.drop_zero];(repeat (any_goals (first | go_big_quiet_step (fail) | (refine RegC.wpQuiet_split rfl rfl (fun hb=>?_) (fun hb=>?_)<;>simp only [hb]))));all_goals (refine wpQuiet_nil ?_;rintro _ ⟨nq,rfl⟩))
  clear h7
  go_wp2_with (refine qgk qlo (hr1.bel (q8h W2 nq)) ((i+1)*3) _ _ (b:=a) (so:=i*3) (sLen:=l.length - i) (sCap:=l.length - i) (vp (l.drop i)) (by have:=HK.out;rw [qfr,List.length_drop,show Nat.min (l.length - i) (i+k - (i+1))=l.length - i from Nat.min_eq_left (by omega)]) (fun j v hj=>by have:=((hsd.bel hb1).bel (q8h W2 nq)).cell hj;rw [Nat.zero_add] at this;exact this) (by have:=HK.out;rw [qfr,List.length_drop,hr1.len];omega) (qfq _) rfl _ _ rfl rfl rfl ?_)
  have hrF:=hr1.bel (q8h W2 nq)
  obtain ⟨C2,hC2⟩:∃ C2,C1.take ((i+1)*3)++(vp (l.drop i)++C1.drop ((i+1)*3+(vp (l.drop i)).length))=C2:=⟨_,rfl⟩
  rw [hC2]
  rw [hC2] at hins
  have hC2l:C2.length=C1.length:=by
    have:=HK.out
    rw [← hC2]
    simp only [List.length_append,List.length_take,List.length_drop,qfr,hr1.len];omega
  have hbF:=hrF.bel_set (hbB2.ext nq) hb.le C2.toArray
  have hown2:=(hrF.set hC2l).own (n:=l.length+1) (by have:=HK.out;omega)
  rw [hins.out] at hown2
  go_ret
  obtain ⟨y,hy⟩:=ext_of hbF
  refine ⟨some ⟨w.heap.size,0,none⟩,G,by rw [HK.out];rfl,y,hy,?_⟩
  rw [← hy,qft]
  exact hown2
theorem qqp (cur A p M:List Value) (i n:Nat) (hi:i≤n) (hA:(cur.take (n*3)).take (i*3)=A) (hc:(n+1)*3≤cur.length) (hp:p.length=3) (hM:M.length=(n - i)*3) :
    ((cur.take ((i+1)*3)++(M++cur.drop ((i+1)*3+M.length))).take (i*3)++(p++(cur.take ((i+1)*3)++(M++cur.drop ((i+1)*3+M.length))).drop (i*3+p.length))).take ((n+1)*3)=A++(p++M):=by
  rw [List.take_take,Nat.min_eq_left (by omega)] at hA
  have hAl:A.length=i*3:=by rw [← hA,List.length_take];omega
  have hB:(cur.take ((i+1)*3)).length=(i+1)*3:=by rw [List.length_take];omega
  have e0:(cur.take ((i+1)*3)++(M++cur.drop ((i+1)*3+M.length))).take (i*3)=A:=by
    rw [List.take_append_of_le_length (by omega),List.take_take,Nat.min_eq_left (by omega),hA]
  have e1:(cur.take ((i+1)*3)++(M++cur.drop ((i+1)*3+M.length))).drop (i*3+p.length)=M++cur.drop ((i+1)*3+M.length):=by
    rw [show i*3+p.length=(cur.take ((i+1)*3)).length by omega,List.drop_left]
  rw [e0,e1]
  have e2:(n+1)*3=(A++(p++M)).length:=by simp only [List.length_append,hAl,hp,hM];omega
  rw [e2,show A++(p++(M++cur.drop ((i+1)*3+M.length)))=(A++(p++M))++cur.drop ((i+1)*3+M.length) by simp only [List.append_assoc],List.take_left]
set_option maxRecDepth 10000 in
set_option maxHeartbeats 2000000 in
theorem qqq (a c:Nat) (l:List Pt) (i:Nat) (p:Pt) (g cg:Nat) (wB w:World) (hb:Bel wB w) (hown:Own w wB.heap.size 79 3 (some ⟨a,0,none⟩) l.length c (vp l)) (hv:Sl w 3 (some ⟨g,0,none⟩) 1 cg p.cells) (hl:l.length≤1000000) (hi:i<l.length) (hcn:l.length+1≤c) (hga:g≠a) (hvs:w.shape? g=some (79,3)) (hvf:∀ j,w.frozen? ⟨g,j,none⟩=false) :
    Calls Tryz.prog 100 #[.slice (some ⟨a,0,none⟩) l.length c,.int .i64 i,.slice (some ⟨g,0,none⟩) 1 cg] w fun e w'=>∃ A' c',e=.returned (.slice A' (l.length+1) c')∧∃ y,w'=ext wB y∧Own (ext wB y) wB.heap.size 79 3 A' (l.length+1) c' (vp (l.take i++p :: l.drop i)):=by
  have h1:(i:Int)<(l.length:Int):=by omega
  have h2:((i:Int) == (l.length:Int))=false:=by rw [beq_eq_false_iff_ne];omega
  have h3:¬ (c:Int)<(l.length:Int)+1:=by omega
  have h4:(l.length:Int)+1≤(c:Int):=by omega
  go_enter Tryz.func100,Tryz.ntmps100
  have hra:=hown.row
  obtain ⟨cur,hrow,htk⟩:∃ cur,Row w wB.heap.size 79 3 a c cur∧cur.take (l.length*3)=vp l:=by
    rcases hown.row with ⟨h,_⟩ | ⟨g',cur,h,hr,_,ht⟩
    · cases h
    · obtain rfl : a = g' := by injection h with h; injection h
      exact ⟨cur,hr,ht⟩
  have hov:(callFunc 141 #[.slice (some ⟨g,0,none⟩) 1 cg,.slice (some ⟨a,(i+1)*3,none⟩) (l.length - i) (c - (i+1))]).run Tryz.prog w=.ok (.value (.bool false)) w:=by
    rw [run_callFunc_extern Tryz.func141 (by kernel_rfl) (by kernel_rfl) (by kernel_rfl) (e:=Extern.SlicesOverlaps.overlaps #[22,22] #[4]) (by kernel_rfl),
      Lib.run_overlaps_apart w 22 4 79 Tryz.underlying22 3 (fun _=>by kernel_rfl) ⟨g,0,none⟩ ⟨a,(i+1)*3,none⟩ 1 cg _ _ hga 79 79 3 (c*3) hvs (by simp [World.shape?,hrow.2.1,hrow.len]) (by omega) (hvf 0) (hvf 3)]
    rfl
  have hp0:p.cells.length=3:=rfl
  have hsd:Sl w 3 (some ⟨a,0+i*3,none⟩) (l.length - i) (c - i) (vp (l.drop i)):=qfl qfo hown.sl (by omega)
  go_wp2
  have h7:IntKind.i64.wrap ((i:Int)+1)=(i:Int)+1:=i64_in _ (by omega)
  have h8:((i:Int)+1).toNat=i+1:=by omega
  have h9:(0:Int)≤(i:Int)+1:=by omega
  (try go_frame)
  ((first | refine RegC.wp_region_tail1 8 (by kernel_rfl) (by kernel_rfl) ?_ | refine RegC.wp_region_tail0 8 (by kernel_rfl) (by kernel_rfl) ?_);simp only [List.take_succ_cons,List.take_zero,List.drop_succ_cons,List.drop_zero];(repeat (any_goals (first | go_big_quiet_step (fail) | (refine RegC.wpQuiet_split rfl rfl (fun hb=>?_) (fun hb=>?_)<;>simp only [hb]))));all_goals (refine wpQuiet_nil ?_;rintro _ ⟨nq,rfl⟩))
  clear h7
  have hbw:=q8h w nq
  go_wp2_with (first
    | (refine qgl qlo (hb.ext nq) (hrow.bel (q8h w nq)) ((i+1)*3) _ _ (b:=a) (so:=i*3) (sLen:=l.length+1 - i) (sCap:=c - i) (vp (l.drop i)) (by rw [qfr,List.length_drop,show Nat.min (l.length+1 - i) (l.length - i)=l.length - i from Nat.min_eq_right (by omega)]) (fun j v hj=>by have:=(hsd.bel (q8h w nq)).cell hj;rw [Nat.zero_add] at this;exact this) (by rw [qfr,List.length_drop,hrow.len];omega) (qfq _) rfl _ _ rfl rfl rfl ?_;rintro W2 C1 hC1 hr1 hb1 hoth1)
    | (refine qgl qlo hb1 hr1 (i*3) _ _ (b:=g) (so:=0) (sLen:=1) (sCap:=cg) p.cells (by rw [qfo,show Nat.min 1 (l.length+1 - i)=1 from Nat.min_eq_left (by omega)]) (fun j v hj=>by have:=(hoth1 _ _ _ _ _ _ hga (hv.bel (q8h w nq))).cell hj;exact this) (by rw [qfo,hr1.len];omega) (qfp p) rfl _ _ rfl rfl rfl ?_;rintro W3 C2 hC2 hr2 hb2 hoth2))
  have hown2:=hr2.own (n:=l.length+1) (by omega)
  rw [hC2.out,hC1.out,qqp cur (vp (l.take i)) p.cells (vp (l.drop i)) i l.length (by omega) (by rw [htk];exact qff qfo l i) (by rw [hrow.len];omega) (qfo p) (by rw [qfr,List.length_drop])] at hown2
  obtain ⟨y,hy⟩:=ext_of hb2
  go_ret
  refine ⟨some ⟨a,0,none⟩,c,rfl,y,hy,?_⟩
  rw [← hy,qft]
  exact hown2
end Go.Proofs.YtpfhgnccpiildaaGreat

namespace Go.Proofs.YtpfhgnccpiildaaGreat
open Go.RowKit Go.Pel Go.IntWalk
theorem qqr (A:Option Addr) (c:Nat) (l:List Pt) (i:Nat) (p:Pt) (g cg:Nat) (wB w:World) (hb:Bel wB w) (hown:Own w wB.heap.size 79 3 A l.length c (vp l)) (hv:Sl w 3 (some ⟨g,0,none⟩) 1 cg p.cells) (hl:l.length≤1000000) (hi:i≤l.length) (hga:some (⟨g,0,none⟩:Addr)≠A) (hvs:w.shape? g=some (79,3)) (hvf:∀ j,w.frozen? ⟨g,j,none⟩=false) :
    Calls Tryz.prog 100 #[.slice A l.length c,.int .i64 i,.slice (some ⟨g,0,none⟩) 1 cg] w fun e w'=>∃ A' c',e=.returned (.slice A' (l.length+1) c')∧∃ y,w'=ext wB y∧Own (ext wB y) wB.heap.size 79 3 A' (l.length+1) c' (vp (l.take i++p :: l.drop i)):=by
  rcases Nat.lt_or_ge i l.length with h | h
  · obtain ⟨a,rfl⟩:∃ a,A=some ⟨a,0,none⟩:=by
      rcases hown.row with ⟨_,h0,_⟩ | ⟨a,cur,h0,_⟩
      · omega
      · exact ⟨a,h0⟩
    rcases Nat.lt_or_ge c (l.length+1) with h1 | h1
    · exact qqo a c l i p g cg wB w hb hown hv hl h h1
    · exact qqq a c l i p g cg wB w hb hown hv hl h h1 (fun h=>hga (by rw [h])) hvs hvf
  · obtain rfl : i = l.length := by omega
    rw [List.take_length,List.drop_length]
    exact qqm A c l p g cg wB w hb hown hv hl
end Go.Proofs.YtpfhgnccpiildaaGreat

namespace Go.Proofs.YtpfhgnccpiildaaGreat
open Go.RowKit Go.Pel Go.IntWalk
theorem qqv {l:List Pt} {id:Int} (h:(fieldPlace l id).2=0):qfx l=0∧hasB l id=true∧(fieldPlace l id).1=lowB l id:=by
  unfold fieldPlace at h ⊢
  by_cases h0:qfx l=0
  · cases hb : hasB l id
    · simp [h0,hb] at h
    · simp [h0]
  · rw [if_pos h0] at h;exact absurd h h0
theorem qqw (l:List Pt) (id:Int):qgf l id=if (fieldPlace l id).2=0 then (l.getD (lowB l id) Pt.zero,0) else (Pt.zero,(fieldPlace l id).2):=by
  unfold qgf fieldPlace
  by_cases h0:qfx l=0
  · cases hb:hasB l id<;>simp [h0]
  · simp [h0]
set_option maxRecDepth 10000 in
set_option maxHeartbeats 2000000 in
theorem qqy (A:Option Addr) (c:Nat) (l:List Pt) (id:Int) (w:World) (hs:Sl w 3 A l.length c (vp l)) :
    Calls Tryz.prog 60 #[.agg #[.slice A l.length c],.int .i64 id] w fun e w'=>e=.returned (.tuple #[.agg #[.int .i64 (qgf l id).1.id,.int .i64 (qgf l id).1.a,.int .i64 (qgf l id).1.b],.int .i64 (qgf l id).2])∧∃ x,w'=ext w x:=by
  have q:=Lib.hid (fun W hb=>qqk A c l id W (hs.bel (w':=W) hb))
  by_cases h:(fieldPlace l id).2=0
  · obtain ⟨h1, h2, h3⟩ := qqv h
    obtain ⟨h64,hchk,hinc⟩:=qg2 h1
    obtain ⟨h4,p,hp,h5⟩:=qge hinc h2
    have HF:Hid (qgf l id=(p,0)):=Lib.hid (by rw [qqw,if_pos h,List.getD_eq_getElem?_getD,hp];rfl)
    have hlt:lowB l id<l.length:=(List.getElem?_eq_some_iff.1 hp).1
    rw [h3,h] at q
    obtain ⟨k,hk⟩:∃ k,lowB l id=k:=⟨_,rfl⟩
    rw [hk] at q hp hlt
    obtain ⟨b,o,rfl,hb⟩:=hs.at_ (by omega)
    obtain ⟨r0,r1,r2⟩:=qfu hs hp
    have hlt':(k:Int)<(l.length:Int):=by omega
    clear h h1 h2 h3 hk h4 h5 hchk hinc hp
    go_enter Tryz.func60,Tryz.ntmps60
    go_wp2_with ((go_at_call 93;refine (q.out _ (by (try simp only [qbh]);repeat (first | exact Bel.refl _ | assumption | refine qbq ?_ _ | refine qbr ?_ _ | refine Bel.ext ?_ _ | refine Bel.alloc ?_ _ | refine Bel.drewN ?_ _))).mono ?_;rintro e _ ⟨rfl,nx,rfl⟩))
    exact bodyPost_ret (v:=.tuple #[.agg #[.int .i64 p.id,.int .i64 p.a,.int .i64 p.b],.int .i64 0]) (by simp [results,Tryz.results60,go_sem]) rfl ⟨by rw [HF.out],ext_of (by (try simp only [qbh]);repeat (first | exact Bel.refl _ | assumption | refine qbq ?_ _ | refine qbr ?_ _ | refine Bel.ext ?_ _ | refine Bel.alloc ?_ _ | refine Bel.drewN ?_ _))⟩
  · have HF : Hid (qgf l id = (Pt.zero, (fieldPlace l id).2)) := Lib.hid (by rw [qqw, if_neg h])
    have hz:((fieldPlace l id).2 == 0)=false:=by simpa using h
    have hz':((fieldPlace l id).2 != 0)=true:=by simpa using h
    clear h
    go_enter Tryz.func60,Tryz.ntmps60
    go_wp2_with ((go_at_call 93;refine (q.out _ (by (try simp only [qbh]);repeat (first | exact Bel.refl _ | assumption | refine qbq ?_ _ | refine qbr ?_ _ | refine Bel.ext ?_ _ | refine Bel.alloc ?_ _ | refine Bel.drewN ?_ _))).mono ?_;rintro e _ ⟨rfl,nx,rfl⟩))
    exact bodyPost_ret (v:=.tuple #[.agg #[.int .i64 0,.int .i64 0,.int .i64 0],.int .i64 (fieldPlace l id).2]) (by simp [results,Tryz.results60,go_sem]) rfl ⟨by (rw [HF.out];rfl),ext_of (by (try simp only [qbh]);repeat (first | exact Bel.refl _ | assumption | refine qbq ?_ _ | refine qbr ?_ _ | refine Bel.ext ?_ _ | refine Bel.alloc ?_ _ | refine Bel.drewN ?_ _))⟩
end Go.Proofs.YtpfhgnccpiildaaGreat

namespace Go.Proofs
open Go.Shelf
def Tryz.laysSort_ren:Go.Shelf.Ren:=⟨fun | 6=>116 | 15=>150 | 14=>152 | 28=>171 | 29=>162 | 20=>172 | 21=>173 | 22=>174 | 23=>175 | 24=>176 | 25=>177 | 26=>178 | 27=>179 | 46=>190 | 47=>186 | 48=>187 | 49=>191 | 50=>192 | 57=>195 | n=>n,fun | 22=>22 | 24=>79 | 25=>172 | 3=>3 | 39=>202 | 0=>0 | 53=>224 | 55=>98 | 4=>4 | 46=>218 | 45=>217 | 50=>147 | 5=>5 | 9=>9 | 66=>235 | 70=>239 | 76=>243 | 77=>244 | n=>n,fun | n=>n⟩
theorem Tryz.laysSort:Go.Proofs.SlLaysF0.n6 Tryz.prog Tryz.laysSort_ren:={
  mixed:=by kernel_rfl
  f6:=⟨Tryz.f116.name,by decide,Tryz.func116.trans (congrArg some (by kernel_rfl))⟩
  f14:=⟨Tryz.f152.name,by decide,Tryz.func152.trans (congrArg some (by kernel_rfl))⟩
  f15:=Tryz.func150.trans (congrArg some (by kernel_rfl))
  f20:=⟨Tryz.f172.name,by decide,Tryz.func172.trans (congrArg some (by kernel_rfl))⟩
  f21:=⟨Tryz.f173.name,by decide,Tryz.func173.trans (congrArg some (by kernel_rfl))⟩
  f22:=⟨Tryz.f174.name,by decide,Tryz.func174.trans (congrArg some (by kernel_rfl))⟩
  f23:=⟨Tryz.f175.name,by decide,Tryz.func175.trans (congrArg some (by kernel_rfl))⟩
  f24:=⟨Tryz.f176.name,by decide,Tryz.func176.trans (congrArg some (by kernel_rfl))⟩
  f25:=⟨Tryz.f177.name,by decide,Tryz.func177.trans (congrArg some (by kernel_rfl))⟩
  f26:=⟨Tryz.f178.name,by decide,Tryz.func178.trans (congrArg some (by kernel_rfl))⟩
  f27:=⟨Tryz.f179.name,by decide,Tryz.func179.trans (congrArg some (by kernel_rfl))⟩
  f28:=Tryz.func171.trans (congrArg some (by kernel_rfl))
  f29:=Tryz.func162.trans (congrArg some (by kernel_rfl))
  f46:=⟨Tryz.f190.name,by decide,Tryz.func190.trans (congrArg some (by kernel_rfl))⟩
  f47:=Tryz.func186.trans (congrArg some (by kernel_rfl))
  f48:=Tryz.func187.trans (congrArg some (by kernel_rfl))
  f49:=⟨Tryz.f191.name,by decide,Tryz.func191.trans (congrArg some (by kernel_rfl))⟩
  f50:=⟨Tryz.f192.name,by decide,Tryz.func192.trans (congrArg some (by kernel_rfl))⟩
  f57:=⟨Tryz.f195.name,by decide,Tryz.func195.trans (congrArg some (by kernel_rfl))⟩
  t0:=Tryz.underlying0
  a0:=Tryz.isAgg0
  z0:=Tryz.sizeOf0
  v0:=Tryz.zeroValue0
  t3:=Tryz.underlying3
  a3:=Tryz.isAgg3
  z3:=Tryz.sizeOf3
  v3:=Tryz.zeroValue3
  t4:=Tryz.underlying4
  a4:=Tryz.isAgg4
  z4:=Tryz.sizeOf4
  v4:=Tryz.zeroValue4
  t5:=Tryz.underlying5
  a5:=Tryz.isAgg5
  z5:=Tryz.sizeOf5
  v5:=Tryz.zeroValue5
  t9:=Tryz.underlying9
  a9:=Tryz.isAgg9
  z9:=Tryz.sizeOf9
  v9:=Tryz.zeroValue9
  t22:=Tryz.underlying22
  a22:=Tryz.isAgg22
  z22:=Tryz.sizeOf22
  v22:=Tryz.zeroValue22
  t25:=Tryz.underlying172
  a25:=Tryz.isAgg172
  z25:=Tryz.sizeOf172
  v25:=Tryz.zeroValue172
  t39:=Tryz.underlying202
  a39:=Tryz.isAgg202
  z39:=Tryz.sizeOf202
  v39:=Tryz.zeroValue202
  t45:=Tryz.underlying217
  a45:=Tryz.isAgg217
  z45:=Tryz.sizeOf217
  v45:=Tryz.zeroValue217
  t46:=Tryz.underlying218
  a46:=Tryz.isAgg218
  z46:=Tryz.sizeOf218
  v46:=Tryz.zeroValue218
  t50:=Tryz.underlying147
  a50:=Tryz.isAgg147
  z50:=Tryz.sizeOf147
  v50:=Tryz.zeroValue147
  t53:=Tryz.underlying224
  a53:=Tryz.isAgg224
  z53:=Tryz.sizeOf224
  v53:=Tryz.zeroValue224
  t55:=Tryz.underlying98
  a55:=Tryz.isAgg98
  z55:=Tryz.sizeOf98
  v55:=Tryz.zeroValue98
  t66:=Tryz.underlying235
  a66:=Tryz.isAgg235
  z66:=Tryz.sizeOf235
  v66:=Tryz.zeroValue235
  t70:=Tryz.underlying239
  a70:=Tryz.isAgg239
  z70:=Tryz.sizeOf239
  v70:=Tryz.zeroValue239
  t76:=Tryz.underlying243
  a76:=Tryz.isAgg243
  z76:=Tryz.sizeOf243
  v76:=Tryz.zeroValue243
  t77:=Tryz.underlying244
  a77:=Tryz.isAgg244
  z77:=Tryz.sizeOf244
  v77:=Tryz.zeroValue244 }
end Go.Proofs

namespace Go.Pel
open Go.Sort Go.Proofs
def qr0 (p:Pt) (n d:Int):Int:=p.a*d+p.b*n
theorem qr1 (p q:Pt) (n d:Int):farD p q n d=qr0 p n d - qr0 q n d:=by
  unfold farD qr0;rw [Int.sub_mul,Int.sub_mul];omega
theorem qr2 (p q:Pt) (n d:Int):leads p q n d=true↔qr0 q n d<qr0 p n d∨(qr0 q n d=qr0 p n d∧(q.b<p.b∨(q.b=p.b∧p.id<q.id))):=by
  unfold leads
  rw [qr1]
  by_cases h:qr0 p n d - qr0 q n d≠0
  · rw [if_pos h];simp;omega
  · rw [if_neg h]
    by_cases h2:p.b≠q.b
    · rw [if_pos h2];simp;omega
    · rw [if_neg h2];simp;omega
def cfP (n d:Int) (p q:Pt):Int:=if p.id=q.id then 0 else if leads p q n d then -1 else 1
theorem qr3 (n d:Int) (p q:Pt):ltOf (cfP n d) p q=true↔p.id≠q.id∧leads p q n d=true:=by
  unfold ltOf cfP
  by_cases h:p.id=q.id
  · rw [if_pos h];simp [h]
  · rw [if_neg h]
    by_cases h2:leads p q n d=true
    · rw [if_pos h2];simp [h,h2]
    · rw [if_neg h2];simp [h2]
def cfL (n d:Int) (l:List Pt) (x y:{p:Pt // p∈l}):Int:=cfP n d x.1 y.1
theorem qr4 (n d:Int) (l:List Pt) (x y:{p:Pt // p∈l}):ltOf (cfL n d l) x y=true↔x.1.id≠y.1.id∧leads x.1 y.1 n d=true:=qr3 n d x.1 y.1
def qr5 (l:List Pt):Prop:=∀ p∈l,∀ q∈l,p.id=q.id→p=q
theorem nlt {n d:Int} {p q:Pt} (h:leads p q n d=false):¬ (qr0 q n d<qr0 p n d∨(qr0 q n d=qr0 p n d∧(q.b<p.b∨(q.b=p.b∧p.id<q.id)))):=by
  rw [← qr2,h];decide
theorem qr6 {n d:Int} {l:List Pt} (hi:qr5 l):SWO (ltOf (cfL n d l)):=by
  have F:∀ x y,ltOf (cfL n d l) x y=false↔(x=y∨(x.1.id≠y.1.id∧leads x.1 y.1 n d=false)):=by
    intro x y
    rw [← Bool.not_eq_true,qr4]
    constructor
    · intro h
      by_cases he:x.1.id=y.1.id
      · exact .inl (Subtype.ext (hi _ x.2 _ y.2 he))
      · exact .inr ⟨he,by simpa [he] using h⟩
    · rintro (rfl | ⟨h1, h2⟩)
      · simp
      · simp [h2]
  constructor
  · intro x;exact (F x x).2 (.inl rfl)
  · intro x y z h1 h2
    rw [qr4,qr2] at h1 h2 ⊢
    refine ⟨?_,by omega⟩
    intro h
    obtain rfl:x=z:=Subtype.ext (hi _ x.2 _ z.2 h)
    omega
  · intro x y z h1 h2
    rw [F] at h1 h2 ⊢
    rcases h1 with rfl | ⟨h1,k1⟩
    · exact h2
    rcases h2 with rfl | ⟨h2,k2⟩
    · exact .inr ⟨h1,k1⟩
    have k1:=nlt k1
    have k2:=nlt k2
    by_cases hne:x.1.id=z.1.id
    · exact .inl (Subtype.ext (hi _ x.2 _ z.2 hne))
    refine .inr ⟨hne,?_⟩
    rw [← Bool.not_eq_true,qr2]
    omega
theorem qr7 {n d:Int} {l:List Pt} (hi:qr5 l) (x y:{p:Pt // p∈l}) (h1:ltOf (cfL n d l) x y=false) (h2:ltOf (cfL n d l) y x=false):x=y:=by
  rw [← Bool.not_eq_true,qr4] at h1 h2
  by_cases he:x.1.id=y.1.id
  · exact Subtype.ext (hi _ x.2 _ y.2 he)
  · exfalso
    have h1':leads x.1 y.1 n d=false:=by simpa [he] using h1
    have h2':leads y.1 x.1 n d=false:=by simpa [Ne.symm he] using h2
    have:=nlt h1'
    have:=nlt h2'
    omega
def qr8 (n d:Int) (l:List Pt):List Pt:=((l.attach.mergeSort fun x y=>!(ltOf (cfL n d l)) y x)).map Subtype.val
theorem qr9 (n d:Int) (l:List Pt):(qr8 n d l).Perm l:=by
  unfold qr8
  have:=(List.mergeSort_perm l.attach (fun x y=>!(ltOf (cfL n d l)) y x)).map Subtype.val
  simpa [List.attach_map_subtype_val] using this
theorem qra (n d:Int) (l:List Pt):(qr8 n d l).length=l.length:=(qr9 n d l).length_eq
theorem qrb {n d:Int} {l:List Pt} (hi:qr5 l) (hn:(l.map Pt.id).Nodup):(qr8 n d l).Pairwise fun p q=>leads p q n d=true:=by
  have hO:=qr6 (n:=n) (d:=d) hi
  have h1:(l.attach.mergeSort fun x y=>!(ltOf (cfL n d l)) y x).Pairwise fun x y=>(!(ltOf (cfL n d l)) y x)=true:=by
    apply List.pairwise_mergeSort
    · intro a b c h1 h2
      simp only [Bool.not_eq_true',] at h1 h2 ⊢
      exact hO.ntrans _ _ _ h2 h1
    · intro a b
      simp only [Bool.or_eq_true,Bool.not_eq_true']
      by_cases h:ltOf (cfL n d l) b a=true
      · right
        rcases hq:ltOf (cfL n d l) a b with _ | _
        · rfl
        · have:=hO.trans _ _ _ h hq;rw [hO.irrefl] at this;exact absurd this (by decide)
      · left;simpa using h
  have h2:(qr8 n d l).Pairwise fun p q=>p.id≠q.id:=by
    have:=((qr9 n d l).map Pt.id).nodup_iff.2 hn
    exact List.pairwise_map.1 this
  have h3:(qr8 n d l).Pairwise fun p q=>¬ (q.id≠p.id∧leads q p n d=true):=by
    unfold qr8
    rw [List.pairwise_map]
    refine h1.imp ?_
    intro a b h
    rw [← qr4]
    simpa using h
  refine (h2.and h3).imp ?_
  rintro p q ⟨h,h'⟩
  have h4:leads q p n d=false:=by simpa [Ne.symm h] using h'
  have:=nlt h4
  rw [qr2]
  omega
end Go.Pel

namespace Go.Proofs.YtpfhgnccpiildaaGreat
open Go.RowKit Go.Pel
set_option maxRecDepth 10000 in
set_option maxHeartbeats 2000000 in
theorem qrc (p q:Pt) (n d:Int) (rb:Nat) (w:World) (hn:-9223372036854775808≤n∧n≤9223372036854775807) (hd:-9223372036854775808≤d∧d≤9223372036854775807) (r0:Held w rb 0 (.int .i64 n)) (r1:Held w rb 1 (.int .i64 d)) (ht:p.id≠q.id→qkn p q n d=0) :
    Calls Tryz.prog 117 #[.agg #[.int .i64 p.id,.int .i64 p.a,.int .i64 p.b],.agg #[.int .i64 q.id,.int .i64 q.a,.int .i64 q.b],.pointer (some ⟨rb,0,none⟩)] w fun e w'=>e=.returned (.int .i64 (cfP n d p q))∧∃ x,w'=ext w x:=by
  have hb:=r0.lt
  have c0:=r0.eq
  have c1:=r1.eq
  have q1:=Lib.hid (fun W=>qlf p q n d W hn hd)
  clear hn hd r0 r1
  by_cases h:p.id=q.id
  · have HV := Lib.hid (show (0 : Int) = cfP n d p q from (if_pos h).symm)
    clear ht q1
    go_enter Tryz.func117,Tryz.ntmps117
    go_wp2
    (go_ret;exact ⟨qjp (by exact HV.out),ext_of (by (try simp only [qbh]);repeat (first | exact Bel.refl _ | assumption | refine qbq ?_ _ | refine qbr ?_ _ | refine Bel.ext ?_ _ | refine Bel.alloc ?_ _ | refine Bel.drewN ?_ _))⟩)
  · have HA : qks p q n d = (leads p q n d, 0) := if_pos (ht h)
    rw [HA] at q1
    clear ht HA
    rcases hL:leads p q n d with _ | _
    · have HV := Lib.hid (show (1 : Int) = cfP n d p q by unfold cfP; rw [if_neg h, hL]; rfl)
      rw [hL] at q1
      clear hL
      go_enter Tryz.func117,Tryz.ntmps117
      go_wp2_with ((go_at_call 103;(with_reducible refine (q1.out _).mono ?_);rintro e _ ⟨rfl,nx,rfl⟩))
      (go_ret;exact ⟨qjp (by exact HV.out),ext_of (by (try simp only [qbh]);repeat (first | exact Bel.refl _ | assumption | refine qbq ?_ _ | refine qbr ?_ _ | refine Bel.ext ?_ _ | refine Bel.alloc ?_ _ | refine Bel.drewN ?_ _))⟩)
    · have HV := Lib.hid (show (-1 : Int) = cfP n d p q by unfold cfP; rw [if_neg h, hL]; rfl)
      rw [hL] at q1
      clear hL
      go_enter Tryz.func117,Tryz.ntmps117
      go_wp2_with ((go_at_call 103;(with_reducible refine (q1.out _).mono ?_);rintro e _ ⟨rfl,nx,rfl⟩))
      (go_ret;exact ⟨qjp (by exact HV.out),ext_of (by (try simp only [qbh]);repeat (first | exact Bel.refl _ | assumption | refine qbq ?_ _ | refine qbr ?_ _ | refine Bel.ext ?_ _ | refine Bel.alloc ?_ _ | refine Bel.drewN ?_ _))⟩)
end Go.Proofs.YtpfhgnccpiildaaGreat

namespace Go
open RowKit Go.Sort Go.Proofs Go.Shelf
theorem qrd {α:Type} [Inhabited α] (enc:α→List Value) (k:Nat) (hk:∀ x,(enc x).length=k):∀ (l:List α),(flatK enc k l.toArray).toList=l.flatMap enc:=by
  intro l
  have key:∀ (l:List α) (t:Nat),t<l.length*k→(l.flatMap enc)[t]?=some ((enc l[t / k]!)[t % k]!):=by
    intro l
    induction l with
    | nil=>intro t ht;simp at ht
    | cons a r ih =>
      intro t ht
      have k0:0<k:=by
        rcases Nat.eq_zero_or_pos k with h | h
        · subst h;simp at ht
        · exact h
      rw [List.flatMap_cons]
      by_cases hlt:t<k
      · rw [List.getElem?_append_left (by rw [hk]; exact hlt), Nat.div_eq_of_lt hlt, Nat.mod_eq_of_lt hlt]
        have:t<(enc a).length:=by rw [hk];exact hlt
        simp [this]
      · rw [List.getElem?_append_right (by rw [hk]; omega), hk]
        have h2:t - k<r.length*k:=by
          rw [List.length_cons,Nat.add_mul,Nat.one_mul] at ht;omega
        rw [ih (t - k) h2]
        have e1:t / k=(t - k) / k+1:=by
          have:=Nat.div_eq_sub_div k0 (by omega:k≤t)
          omega
        have e2:t % k=(t - k) % k:=Nat.mod_eq_sub_mod (by omega)
        rw [e1,e2]
        simp
  have hlen:(l.flatMap enc).length=l.length*k:=by
    induction l with
    | nil=>simp
    | cons a r ih=>rw [List.flatMap_cons,List.length_append,ih,hk,List.length_cons,Nat.add_mul,Nat.one_mul];omega
  apply List.ext_getElem?
  intro t
  by_cases ht:t<l.length*k
  · rw [key l t ht]
    simp [flatK,ht]
  · rw [List.getElem?_eq_none (by simp [flatK];omega),List.getElem?_eq_none (by rw [hlen];omega)]
theorem qre {w:World} {base g cap size:Nat} {e:TypeId} {cur:List Value} (h:Row w base e size g cap cur) (q:Nat) (F:Array Value) (hF:F.size≤cur.length):Row (putRow id (Sort.ahead w q) g 0 F) base e size g cap (F.toList++cur.drop F.size):=by
  refine ⟨h.1,?_,h.2.2.1,?_⟩
  · have:putCells id 0 F cur.toArray=(F.toList++cur.drop F.size).toArray:=by
      apply Array.ext_getElem?
      intro k
      simp only [putCells,Array.getElem?_mapIdx,List.getElem?_toArray]
      by_cases hk:k<F.size
      · rw [List.getElem?_append_left (by simpa using hk)]
        have:k<cur.length:=by omega
        simp [this,hk]
      · rw [List.getElem?_append_right (by simpa using hk)]
        simp [hk,show F.size+(k - F.size)=k by omega]
    unfold putRow mapBlock Sort.ahead
    simp [Array.getElem?_modify,h.2.1,onCells,this]
  · rw [List.length_append,List.length_drop,← h.len];simp;omega
theorem qrf (g:Nat) (w:World) (q off:Nat) (F:Array Value):Apart g w (putRow id (Sort.ahead w q) g off F) :=
  ⟨rfl,rfl,rfl,by simp [putRow,mapBlock,Sort.ahead],by simp [putRow,mapBlock,Sort.ahead],fun b hb=>by simp [putRow,mapBlock,Sort.ahead,Array.getElem?_modify,Ne.symm hb]⟩
theorem qrg (w:World) (os:Array Obj):Bel w (grow w os) :=
  ⟨⟨rfl,rfl,rfl,by simp [grow],fun k hk=>by simp only [grow];rw [Array.getElem?_append_left hk]⟩,Nat.le_refl _⟩
theorem qrh (w:World) (x:Beyond):ext w x=grow (w.drewN x.drawn) x.objs:=by
  unfold ext grow World.drewN;rfl
end Go
namespace Go.Proofs.YtpfhgnccpiildaaGreat
open Go.RowKit Go.Pel Go.Sort Go.Shelf
def encL (l:List Pt) (x:{p:Pt // p∈l}):List Value:=x.1.cells
theorem qri (l:List Pt) (m:List {p:Pt // p∈l}):m.flatMap (encL l)=vp (m.map Subtype.val):=by
  unfold vp encL;rw [List.flatMap_map]
set_option maxRecDepth 10000 in
set_option maxHeartbeats 1000000 in
theorem qrj (A:Option Addr) (c:Nat) (l:List Pt) (n d:Int) (rb B:Nat) (wB w:World) (hs:Own w B 79 3 A l.length c (vp l)) (hb:Bel wB w) (hB:wB.heap.size≤B) (hrb:rb<B)
    (r0:Held w rb 0 (.int .i64 n)) (r1:Held w rb 1 (.int .i64 d)) (hn:-9223372036854775808≤n∧n≤9223372036854775807) (hd:-9223372036854775808≤d∧d≤9223372036854775807) (hl:l.length≤1000000) (hi:qr5 l) (ht:∀ p∈l,∀ q∈l,p.id≠q.id→qkn p q n d=0) :
    Calls Tryz.prog 116 #[.slice A l.length c,.func (.func 117) #[] #[.pointer (some ⟨rb,0,none⟩)]] w fun e w'=>e=.returned (.tuple #[])∧∃ y,w'=ext wB y∧Own (ext wB y) B 79 3 A l.length c (vp (qr8 n d l)):=by
  by_cases h0:l=[]
  · subst h0
    have hcon:=AnyF.slices_SortFunc_none Tryz.laysSort A c (.func (.func 117) #[] #[.pointer (some ⟨rb,0,none⟩)]) w
    refine Calls.mono hcon ?_
    rintro e w' ⟨rfl,rfl⟩
    refine ⟨rfl,qf3 hb ?_ (Bel.refl _)⟩
    have e0:qr8 n d []=[]:=List.eq_nil_of_length_eq_zero (qra n d [])
    rw [e0];exact hs
  · rcases hs.row with ⟨rfl, hn, _⟩ | ⟨g, cur, rfl, hr, hnc, hcur⟩
    · exact absurd (List.eq_nil_of_length_eq_zero hn) h0
    have hg:=hr.1
    haveI:Inhabited {p:Pt // p∈l}:=⟨⟨l.head h0,List.head_mem h0⟩⟩
    have hcl:(vp l).length≤cur.length:=by rw [← hcur,List.length_take];omega
    have eg:∀ args w,(callFunc 117 args).run Tryz.prog w=.ok (.enter 117 args) w:=enters_of Tryz.func117 (by kernel_rfl) rfl
    have hk:∀ x,(encL l x).length=3:=fun _=>rfl
    have hflat:∀ m:List {p:Pt // p∈l},(flatK (encL l) 3 m.toArray).toList=vp (m.map Subtype.val):=fun m=>by rw [qrd _ _ hk,qri]
    have hcmp:CmpLays Tryz.prog 117 #[.pointer (some ⟨rb,0,none⟩)] (encL l) 3 (cfL n d l) g 0 l.attach.toArray.size w:=by
      intro m os dk _ x y
      have hap:Apart g w (putRowK (encL l) 3 (Sort.ahead w m) g 0 dk):=qrf g w m 0 _
      have hbg:Bel (putRowK (encL l) 3 (Sort.ahead w m) g 0 dk) (sortWorldK (encL l) 3 w g 0 m dk os):=qrg _ os
      have h:=qrc x.1 y.1 n d rb (sortWorldK (encL l) 3 w g 0 m dk os) hn hd ((r0.apart hap (by omega)).bel hbg) ((r1.apart hap (by omega)).bel hbg) (ht _ x.2 _ y.2)
      refine Calls.mono h ?_
      rintro e w' ⟨rfl,z,rfl⟩
      exact ⟨rfl,z.drawn,z.objs,qrh _ z⟩
    have hfl:(flatK (encL l) 3 l.attach.toArray)=(vp l).toArray:=by
      apply Array.toList_inj.1
      rw [hflat,List.attach_map_subtype_val]
    have hH:HoldsK (encL l) 3 w g 0 l.attach.toArray:=by
      unfold HoldsK
      rw [hfl]
      intro j hj
      have hj':j<(vp l).length:=by simpa using hj
      refine ⟨?_,hr.frozen _⟩
      rw [Nat.zero_add]
      refine hr.cell ?_
      have:cur[j]?=(vp l)[j]?:=by
        rw [← hcur,List.getElem?_take,if_pos]
        rw [qfr] at hj';exact hj'
      rw [this]
      simp [hj']
    have hcon:=AnyQ.slices_SortFunc_total Tryz.laysSort 3 Tryz.isAgg79 Tryz.sizeOf79 (encL l) hk (fun x v hv=>qfp x.1 v hv) (cfL n d l) (qr6 hi) 117 #[.pointer (some ⟨rb,0,none⟩)] g 0 c l.attach.toArray w eg hcmp hH hr.lt (by simp;omega) (fun x y h1 h2=>qr7 hi x y h1 h2)
    have hsz:l.attach.toArray.size=l.length:=by simp
    rw [hsz] at hcon
    refine Calls.mono hcon ?_
    rintro e w' ⟨rfl,m,os,rfl⟩
    refine ⟨rfl,?_⟩
    have hF:flatK (encL l) 3 (l.attach.mergeSort fun x y=>!(ltOf (cfL n d l)) y x).toArray=(vp (qr8 n d l)).toArray:=by
      apply Array.toList_inj.1
      rw [hflat];rfl
    have hlen:(vp (qr8 n d l)).length=l.length*3:=by rw [qfr,qra]
    have hrow:=qre hr m (vp (qr8 n d l)).toArray (by rw [qfr] at hcl;simp;omega)
    have hap:Apart g w (putRow id (Sort.ahead w m) g 0 (vp (qr8 n d l)).toArray):=qrf g w m 0 _
    have hown:=hrow.own hnc
    have htk:List.take (l.length*3) ((vp (qr8 n d l)).toArray.toList++List.drop (vp (qr8 n d l)).toArray.size cur)=vp (qr8 n d l):=by
      simp only [List.size_toArray]
      rw [List.take_append_of_le_length (by omega),← hlen,List.take_length]
    rw [htk] at hown
    unfold sortWorldK putRowK
    show ∃ y,grow (putRow id (Sort.ahead w m) g 0 (flatK (encL l) 3 (l.attach.mergeSort fun x y=>!(ltOf (cfL n d l)) y x).toArray)) os=ext wB y∧_
    rw [hF]
    exact qf3 ((hap.bel hb (by omega)).trans (qrg _ os)) hown (qrg _ os)
end Go.Proofs.YtpfhgnccpiildaaGreat

namespace Go.Pel
def qrk (l:List Pt) (n d:Int):List Pt×Int:=if qfx l≠0 then ([],qfx l) else if qcv n d≠0 then ([],qcv n d) else (qr8 n d l,0)
theorem qrl {l:List Pt} (h:incB l=true):qr5 l:=by
  intro p hp q hq he
  obtain ⟨i,hi⟩:=List.mem_iff_getElem?.1 hp
  obtain ⟨j,hj⟩:=List.mem_iff_getElem?.1 hq
  rcases (by omega:i<j∨j<i∨i=j) with k | k | k
  · have:=qfw h k hi hj;omega
  · have:=qfw h k hj hi;omega
  · subst k;rw [hi] at hj;exact Option.some.inj hj
end Go.Pel
namespace Go.Proofs.YtpfhgnccpiildaaGreat
open Go.RowKit Go.Pel
set_option maxRecDepth 10000 in
set_option maxHeartbeats 2000000 in
theorem qrm (A:Option Addr) (c:Nat) (l:List Pt) (n d:Int) (w:World) (hn:-9223372036854775808≤n∧n≤9223372036854775807) (hd:-9223372036854775808≤d∧d≤9223372036854775807) (hs:Sl w 3 A l.length c (vp l)) (hn0:A=none→c=0) :
    Calls Tryz.prog 56 #[.agg #[.slice A l.length c],.agg #[.int .i64 n,.int .i64 d]] w fun e w'=>∃ A' c',e=.returned (.tuple #[.slice A' (qrk l n d).1.length c',.int .i64 (qrk l n d).2])∧∃ x,w'=ext w x∧Own (ext w x) w.heap.size 79 3 A' (qrk l n d).1.length c' (vp (qrk l n d).1):=by
  have q:=Lib.hid (fun W hb=>qlb A c l W (hs.bel (w':=W) hb))
  have q2:=Lib.hid (fun W=>qjv n d W hn hd)
  by_cases h:qfx l=0
  · rw [h] at q
    obtain ⟨h64,hchk,hinc⟩:=qg2 h
    by_cases h2:qcv n d=0
    · rw [h2] at q2
      have HF:Hid (qrk l n d=(qr8 n d l,0)):=Lib.hid (by unfold qrk;rw [if_neg (by simpa using h),if_neg (by simpa using h2)])
      have q3:=Lib.hid (fun W hb=>qql A c l W (hs.bel (w':=W) hb) hn0 (by omega))
      have hia:=qrl hinc
      have hap:∀ p∈l,∀ q∈l,p.id≠q.id→qkn p q n d=0:=fun p hp q hq hne=>qkq ⟨hchk p hp,hchk q hq,h2⟩ hne
      have q4:=Lib.hid (fun (A2:Option Addr) (c2 rb B:Nat) (W:World) (hs2:Own W B 79 3 A2 l.length c2 (vp l)) (hb:Bel w W) (hB:w.heap.size≤B) (hrb:rb<B) (r0:Held W rb 0 (.int .i64 n)) (r1:Held W rb 1 (.int .i64 d))=>qrj A2 c2 l n d rb B w W hs2 hb hB hrb r0 r1 hn hd (by omega) hia hap)
      rw [HF.out]
      clear h h2 h64 hchk hinc hia hap hn hd HF
      have HL:=Lib.hid (qra n d l)
      go_enter Tryz.func56,Tryz.ntmps56
      go_wp2_with (first | (go_at_call 97;refine (q.out _ (by (try simp only [qbh]);repeat (first | exact Bel.refl _ | assumption | refine qbq ?_ _ | refine qbr ?_ _ | refine Bel.ext ?_ _ | refine Bel.alloc ?_ _ | refine Bel.drewN ?_ _))).mono ?_;rintro e _ ⟨rfl,nx,rfl⟩) | (go_at_call 104;refine (q2.out _).mono ?_;rintro e _ ⟨rfl,nx,rfl⟩))
      refine (q3.out _ (by (try simp only [qbh]);repeat (first | exact Bel.refl _ | assumption | refine qbq ?_ _ | refine qbr ?_ _ | refine Bel.ext ?_ _ | refine Bel.alloc ?_ _ | refine Bel.drewN ?_ _))).mono ?_
      rintro e _ ⟨A2,c2,rfl,x2,rfl,own2⟩
      simp only [qbh] at own2 ⊢
      have own3:=own2.base_le (base':=w.heap.size+2) (by simp [go_sem])
      clear own2
      generalize hZ:((_:Beyond).and _).and x2=Z at own3 ⊢
      obtain ⟨W2,hW2⟩:∃ W2,ext ((w.alloc (.cells #[.slice A l.length c] 24)).alloc (.cells #[.int .i64 n,.int .i64 d] 26)) Z=W2:=⟨_,rfl⟩
      rw [hW2] at own3 ⊢
      have hb2:Bel w W2:=by rw [← hW2];exact (by (try simp only [qbh]);repeat (first | exact Bel.refl _ | assumption | refine qbq ?_ _ | refine qbr ?_ _ | refine Bel.ext ?_ _ | refine Bel.alloc ?_ _ | refine Bel.drewN ?_ _))
      have hb3:Bel ((w.alloc (.cells #[.slice A l.length c] 24)).alloc (.cells #[.int .i64 n,.int .i64 d] 26)) W2:=by rw [← hW2];exact q8h _ _
      have e1:(w.alloc (.cells #[.slice A l.length c] 24)).heap.size=w.heap.size+1:=by simp [go_sem]
      have r0:=Held.new (j:=0) hb3 rfl
      have r1:=Held.new (j:=1) hb3 rfl
      rw [e1] at r0 r1
      have q5:=q4.out A2 c2 (w.heap.size+1) (w.heap.size+2) W2 own3 hb2 (by omega) (by omega) r0 r1
      clear hW2 hZ q4 q3 q2 q r0 r1 hb3 own3
      go_wp2_with (go_at_call 116;refine q5.mono ?_;rintro e _ ⟨rfl,y,rfl,own4⟩)
      go_ret2
      refine ⟨A2,c2,?_,y,rfl,?_⟩
      · rw [HL.out];rfl
      · rw [HL.out];exact own4.base_le (by omega)
    · rw [show qrk l n d = ([], qcv n d) by unfold qrk; rw [if_neg (by simpa using h), if_pos h2]]
      have h2':(qcv n d != 0)=true:=by simpa using h2
      clear h h64 hchk hinc h2 hn hd
      go_enter Tryz.func56,Tryz.ntmps56
      go_wp2_with (first | (go_at_call 97;refine (q.out _ (by (try simp only [qbh]);repeat (first | exact Bel.refl _ | assumption | refine qbq ?_ _ | refine qbr ?_ _ | refine Bel.ext ?_ _ | refine Bel.alloc ?_ _ | refine Bel.drewN ?_ _))).mono ?_;rintro e _ ⟨rfl,nx,rfl⟩) | (go_at_call 104;refine (q2.out _).mono ?_;rintro e _ ⟨rfl,nx,rfl⟩))
      go_ret2
      exact ⟨none,0,rfl,qf3 (by (try simp only [qbh]);repeat (first | exact Bel.refl _ | assumption | refine qbq ?_ _ | refine qbr ?_ _ | refine Bel.ext ?_ _ | refine Bel.alloc ?_ _ | refine Bel.drewN ?_ _)) (Own.nil_ _ _ _ _) (Bel.refl _)⟩
  · rw [show qrk l n d = ([], qfx l) by unfold qrk; rw [if_pos h]]
    have h':(qfx l != 0)=true:=by simpa using h
    clear h hn hd
    go_enter Tryz.func56,Tryz.ntmps56
    go_wp2_with (first | (go_at_call 97;refine (q.out _ (by (try simp only [qbh]);repeat (first | exact Bel.refl _ | assumption | refine qbq ?_ _ | refine qbr ?_ _ | refine Bel.ext ?_ _ | refine Bel.alloc ?_ _ | refine Bel.drewN ?_ _))).mono ?_;rintro e _ ⟨rfl,nx,rfl⟩))
    go_ret2
    exact ⟨none,0,rfl,qf3 (by (try simp only [qbh]);repeat (first | exact Bel.refl _ | assumption | refine qbq ?_ _ | refine qbr ?_ _ | refine Bel.ext ?_ _ | refine Bel.alloc ?_ _ | refine Bel.drewN ?_ _)) (Own.nil_ _ _ _ _) (Bel.refl _)⟩
end Go.Proofs.YtpfhgnccpiildaaGreat

namespace Go.Pel
def qrn (l:List Pt) (n d:Int):Int×Int:=if (qrk l n d).2≠0 then (0,(qrk l n d).2) else match (qrk l n d).1 with | []=>(0,42) | p :: _=>(p.id,0)
end Go.Pel
namespace Go.Proofs.YtpfhgnccpiildaaGreat
open Go.RowKit Go.Pel
set_option maxRecDepth 10000 in
set_option maxHeartbeats 2000000 in
theorem qro (A:Option Addr) (c:Nat) (l:List Pt) (n d:Int) (w:World) (hn:-9223372036854775808≤n∧n≤9223372036854775807) (hd:-9223372036854775808≤d∧d≤9223372036854775807) (hs:Sl w 3 A l.length c (vp l)) (hn0:A=none→c=0) :
    Calls Tryz.prog 67 #[.agg #[.slice A l.length c],.agg #[.int .i64 n,.int .i64 d]] w fun e w'=>e=.returned (.tuple #[.int .i64 (qrn l n d).1,.int .i64 (qrn l n d).2])∧∃ x,w'=ext w x:=by
  have q:=Lib.hid (fun W hb=>qrm A c l n d W hn hd (hs.bel (w':=W) hb) hn0)
  unfold qrn
  generalize qrk l n d=F at q ⊢
  obtain ⟨m,v⟩:=F
  simp only at q ⊢
  by_cases h:v=0
  · subst h
    rw [if_neg (by decide)]
    cases m with
    | nil =>
      clear hn hd
      go_enter Tryz.func67,Tryz.ntmps67
      go_wp2_with (go_at_call 56;refine (q.out _ (by (try simp only [qbh]);repeat (first | exact Bel.refl _ | assumption | refine qbq ?_ _ | refine qbr ?_ _ | refine Bel.ext ?_ _ | refine Bel.alloc ?_ _ | refine Bel.drewN ?_ _))).mono ?_;rintro e _ ⟨A2,c2,rfl,x2,rfl,own2⟩)
      go_ret2
      exact ⟨rfl,ext_of (by (try simp only [qbh]);repeat (first | exact Bel.refl _ | assumption | refine qbq ?_ _ | refine qbr ?_ _ | refine Bel.ext ?_ _ | refine Bel.alloc ?_ _ | refine Bel.drewN ?_ _))⟩
    | cons p r =>
      clear hn hd
      go_enter Tryz.func67,Tryz.ntmps67
      go_wp2_with (go_at_call 56;refine (q.out _ (by (try simp only [qbh]);repeat (first | exact Bel.refl _ | assumption | refine qbq ?_ _ | refine qbr ?_ _ | refine Bel.ext ?_ _ | refine Bel.alloc ?_ _ | refine Bel.drewN ?_ _))).mono ?_;rintro e _ ⟨A2,c2,rfl,x2,rfl,own2⟩;have s2:=own2.sl;have hlen:(0:Int)<((p :: r).length:Int):=(Int.ofNat_lt.2 (Nat.succ_pos _));have hz:(((p :: r).length:Int) == 0)=false:=(by rw [beq_eq_false_iff_ne];omega);obtain ⟨b,o,rfl,hb2⟩:=s2.at_ (by simp);obtain ⟨r0,_,_⟩:=qfu s2 (i:=0) (p:=p) rfl;rw [Nat.zero_mul,Nat.add_zero] at r0;clear own2 s2)
      go_ret2
      exact ⟨rfl,ext_of (by (try simp only [qbh]);repeat (first | exact Bel.refl _ | assumption | refine qbq ?_ _ | refine qbr ?_ _ | refine Bel.ext ?_ _ | refine Bel.alloc ?_ _ | refine Bel.drewN ?_ _))⟩
  · rw [if_pos h]
    have h':(v != 0)=true:=by simpa using h
    clear h hn hd
    go_enter Tryz.func67,Tryz.ntmps67
    go_wp2_with (go_at_call 56;refine (q.out _ (by (try simp only [qbh]);repeat (first | exact Bel.refl _ | assumption | refine qbq ?_ _ | refine qbr ?_ _ | refine Bel.ext ?_ _ | refine Bel.alloc ?_ _ | refine Bel.drewN ?_ _))).mono ?_;rintro e _ ⟨A2,c2,rfl,x2,rfl,own2⟩)
    go_ret2
    exact ⟨rfl,ext_of (by (try simp only [qbh]);repeat (first | exact Bel.refl _ | assumption | refine qbq ?_ _ | refine qbr ?_ _ | refine Bel.ext ?_ _ | refine Bel.alloc ?_ _ | refine Bel.drewN ?_ _))⟩
end Go.Proofs.YtpfhgnccpiildaaGreat

namespace Go.Pel
open Go
def qrp (l:List Pt) (n d:Int):List Int×Int:=if (qrk l n d).2≠0 then ([],(qrk l n d).2) else ((qrk l n d).1.map Pt.id,0)
def qrq (m:List Pt) (k:Nat):List Value:=vi ((m.take k).map Pt.id)++List.replicate (m.length - k) (.int .i64 0)
theorem qrr {m:List Pt} {k:Nat} {p:Pt} (h:m[k]?=some p):(qrq m k).set k (.int .i64 p.id)=qrq m (k+1):=by
  have hk:=(List.getElem?_eq_some_iff.1 h).1
  unfold qrq
  have hl:(vi ((m.take k).map Pt.id)).length=k:=by simp [vi];omega
  rw [List.set_append_right _ _ (by omega),hl,Nat.sub_self]
  obtain ⟨r,hr⟩:∃ r,m.length - k=r+1:=⟨m.length - k - 1,by omega⟩
  rw [hr,List.replicate_succ,List.set_cons_zero,List.take_add_one,h]
  simp [vi,show m.length - (k+1)=r by omega]
theorem qrs {m:List Pt} {k:Nat} (hk:k<m.length):(qrq m k)[k]?=some (.int .i64 0):=by
  unfold qrq
  have hl:(vi ((m.take k).map Pt.id)).length=k:=by simp [vi];omega
  rw [List.getElem?_append_right (by omega),hl,Nat.sub_self,List.getElem?_replicate,if_pos (by omega)]
theorem qrt (m:List Pt):qrq m m.length=vi (m.map Pt.id):=by simp [qrq]
end Go.Pel
namespace Go.Proofs.YtpfhgnccpiildaaGreat
open Go.RowKit Go.Pel
theorem qru:SlT Tryz.prog 34 3 (.int .i64 0) 1 8:=⟨by kernel_rfl,by kernel_rfl,by kernel_rfl,by decide,by decide⟩
theorem qrv (n:Nat):(madeCells (Value.int .i64 0).cells (n*1)).toList=List.replicate n (.int .i64 0):=by
  apply List.ext_getElem?
  intro k
  by_cases hk:k<n<;>simp [madeCells,Value.cells,Nat.mod_one,List.getElem?_replicate,hk]
set_option maxRecDepth 10000 in
set_option maxHeartbeats 2000000 in
theorem qrw (A:Option Addr) (c:Nat) (l:List Pt) (n d:Int) (w:World) (hn:-9223372036854775808≤n∧n≤9223372036854775807) (hd:-9223372036854775808≤d∧d≤9223372036854775807) (hs:Sl w 3 A l.length c (vp l)) (hn0:A=none→c=0) (hl:l.length≤1000000) :
    Calls Tryz.prog 14 #[.agg #[.slice A l.length c],.agg #[.int .i64 n,.int .i64 d]] w fun e w'=>∃ A' c',e=.returned (.tuple #[.slice A' (qrp l n d).1.length c',.int .i64 (qrp l n d).2])∧∃ x,w'=ext w x∧Own (ext w x) w.heap.size 3 1 A' (qrp l n d).1.length c' (vi (qrp l n d).1):=by
  have q:=Lib.hid (fun W hb=>qrm A c l n d W hn hd (hs.bel (w':=W) hb) hn0)
  have hlm:(qrk l n d).1.length≤1000000:=by
    unfold qrk;split
    · simp
    · split
      · simp
      · rw [qra];exact hl
  unfold qrp
  generalize qrk l n d=F at q hlm ⊢
  obtain ⟨m,v⟩:=F
  simp only at q hlm ⊢
  by_cases h:v=0
  · subst h
    rw [if_neg (by decide)]
    simp only [List.length_map]
    clear hn hd
    go_enter Tryz.func14,Tryz.ntmps14
    go_wp2_with (first | (refine qec qru (Bel.refl _) (n:=m.length) (by omega) rfl _ _ rfl rfl rfl ?_;rintro g y hg hown;rw [qrv] at hown;have hL2:=own2.sl) | (go_at_call 56;refine (q.out _ (by (try simp only [qbh]);repeat (first | exact Bel.refl _ | assumption | refine qbq ?_ _ | refine qbr ?_ _ | refine Bel.ext ?_ _ | refine Bel.alloc ?_ _ | refine Bel.drewN ?_ _))).mono ?_;rintro e W1 ⟨A2,c2,rfl,hx2⟩;have own2:=qhq hx2;have hb0:=q8i (qhp hx2);have hb1:Bel w W1:=(by refine Bel.trans ?_ hb0;exact (by (try simp only [qbh]);repeat (first | exact Bel.refl _ | assumption | refine qbq ?_ _ | refine qbr ?_ _ | refine Bel.ext ?_ _ | refine Bel.alloc ?_ _ | refine Bel.drewN ?_ _)));clear hx2 hb0))
    clear own2
    go_loopw [25] (fun i wr=>∃ (k:Nat) (y:Beyond),k≤m.length∧i=.int .i64 k∧wr=ext W1 y∧Own (ext W1 y) W1.heap.size 3 1 (some ⟨g,0,none⟩) m.length m.length (qrq m k)) (fun i _=>m.length - (intOf i).toNat)
    case atStart=>exact ⟨0,y,Nat.zero_le _,rfl,rfl,by simpa [qrq,vi] using hown⟩
    case round =>
      obtain ⟨k,y3,hk,rfl,rfl,own3⟩:=hrel
      by_cases hlt:k<m.length
      · obtain ⟨p, hp⟩ : ∃ p, m[k]? = some p := ⟨_, List.getElem?_eq_getElem hlt⟩
        have HS:=Lib.hid (qrr hp)
        have b0:=qee own3 (qrs hlt)
        have z0:=qef own3 k
        obtain ⟨b,o,rfl,hb2⟩:=hL2.at_ (by omega)
        obtain ⟨r0,r1,r2⟩:=qfu (hL2.bel (w':=ext W1 y3) (q8h _ _)) hp
        have hlt':(k:Int)<(m.length:Int):=by omega
        have hgs:=own3.ats.2
        have hb3:b<(ext W1 y3).heap.size:=by simp [go_sem];omega
        have hb4:Bel W1 (ext W1 y3):=q8h _ _
        clear hp hown
        generalize ext W1 y3=V at *
        have hgne:¬ g=V.heap.size:=by omega
        have hgne':¬ V.heap.size=g:=by omega
        go_wp2
        go_roundw
        case rel =>
          obtain ⟨y5,hy5,own5⟩:=qf3 (w:=W1) ((hb4.setCell (p:=⟨g,k,none⟩) hg (.int .i64 p.id)).alloc (.cells #[.int .i64 p.id,.int .i64 p.a,.int .i64 p.b] 79)) (World.ownsRow.stored own3 k (.int .i64 p.id)).1 ((Bel.refl _).alloc _)
          rw [HS.out] at own5
          exact ⟨k+1,y5,by omega,by go_num,hy5,own5⟩
        case measure=>(first | (simp [intOf];done) | (simp [intOf];omega))
      · obtain rfl : k = m.length := by omega
        rw [qrt] at own3
        go_wp2
        go_ret2
        exact ⟨some ⟨g,0,none⟩,m.length,rfl,qf3 (by (try simp only [qbh]);repeat (first | exact Bel.refl _ | assumption | refine qbq ?_ _ | refine qbr ?_ _ | refine Bel.ext ?_ _ | refine Bel.alloc ?_ _ | refine Bel.drewN ?_ _)) (own3.base_le hb1.size) (Bel.refl _)⟩
  · rw [if_pos h]
    have h':(v != 0)=true:=by simpa using h
    clear h hn hd
    go_enter Tryz.func14,Tryz.ntmps14
    go_wp2_with (go_at_call 56;refine (q.out _ (by (try simp only [qbh]);repeat (first | exact Bel.refl _ | assumption | refine qbq ?_ _ | refine qbr ?_ _ | refine Bel.ext ?_ _ | refine Bel.alloc ?_ _ | refine Bel.drewN ?_ _))).mono ?_;rintro e _ ⟨A2,c2,rfl,x2,rfl,own2⟩)
    go_ret2
    exact ⟨none,0,rfl,qf3 (by (try simp only [qbh]);repeat (first | exact Bel.refl _ | assumption | refine qbq ?_ _ | refine qbr ?_ _ | refine Bel.ext ?_ _ | refine Bel.alloc ?_ _ | refine Bel.drewN ?_ _)) (Own.nil_ _ _ _ _) (Bel.refl _)⟩
end Go.Proofs.YtpfhgnccpiildaaGreat

namespace Go.Pel
open Go Go.RowKit
theorem qs0 {w:World} {b o n c:Nat} {l:List Int} (h:Sl w 1 (some ⟨b,o,none⟩) n c (vi l)) {k:Nat} {x:Int} (hx:l[k]?=some x):w.cell? ⟨b,o+k,none⟩=some (.int .i64 x):=by
  have hl:=h.2.1
  have hk:=(List.getElem?_eq_some_iff.1 hx).1
  obtain ⟨b',o',hA,_,hc⟩:=h.2.2 (by simp [vi] at hl;omega)
  injection hA with hA;injection hA with h1 h2
  subst h1 h2
  exact hc k _ (by simp [vi,hx])
end Go.Pel
namespace Go.Proofs.YtpfhgnccpiildaaGreat
open Go.RowKit Go.Pel
end Go.Proofs.YtpfhgnccpiildaaGreat

namespace Go.Pel
open Go Go.RowKit
end Go.Pel
namespace Go.Proofs.YtpfhgnccpiildaaGreat
open Go.RowKit Go.Pel
set_option maxRecDepth 10000 in
set_option maxHeartbeats 2000000 in
theorem qs6 (A B:Option Addr) (c d:Nat) (l m:List Int) (w:World) (hs:Sl w 1 A l.length c (vi l)) (ht:Sl w 1 B m.length d (vi m)) (hl:l.length≤1000000) (hm:m.length≤1000000) :
    Calls Tryz.prog 18 #[.slice A l.length c,.slice B m.length d] w fun e w'=>e=.returned (.bool (decide (l=m)))∧∃ x,w'=ext w x:=by
  by_cases hn:l.length=m.length
  · have z0 : ((l.length : Int) != (m.length : Int)) = false := by rw [bne_eq_false_iff_eq]; omega
    have HN:=Lib.hid hn
    have hle1:l.length≤m.length:=by omega
    have hle2:m.length≤l.length:=by omega
    clear hn
    go_enter Tryz.func18,Tryz.ntmps18
    go_wp2
    go_loopw [5] (fun i wr=>∃ (k:Nat),k≤l.length∧i=.int .i64 k∧l.take k=m.take k∧∃ y,wr=ext w y) (fun i _=>l.length - (intOf i).toNat)
    case atStart=>exact ⟨0,Nat.zero_le _,rfl,rfl,ext_of (Bel.refl _)⟩
    case round =>
      obtain ⟨k,hk,rfl,hgo,y,rfl⟩:=hrel
      have HG:=Lib.hid hgo;clear hgo
      by_cases hlt:k<l.length
      · obtain ⟨x, hx⟩ : ∃ x, l[k]? = some x := ⟨_, List.getElem?_eq_getElem hlt⟩
        obtain ⟨x',hx'⟩:∃ x,m[k]?=some x:=⟨_,List.getElem?_eq_getElem (by omega)⟩
        obtain ⟨b,o,rfl,hb⟩:=hs.at_ (by omega)
        obtain ⟨b2,o2,rfl,hb2⟩:=ht.at_ (by omega)
        have r0:=qs0 hs hx
        have q0:=qs0 ht hx'
        have HX:=Lib.hid hx
        have HX':=Lib.hid hx'
        have hlt1:(k:Int)<(l.length:Int):=by omega
        have hlt2:(k:Int)<(m.length:Int):=by omega
        clear hx hx'
        have HE:=Lib.hid (show l.take (k+1)=l.take k ++ [x] by rw [List.take_add_one,HX.out];rfl)
        have HE':=Lib.hid (show m.take (k+1)=m.take k ++ [x'] by rw [List.take_add_one,HX'.out];rfl)
        by_cases hxy:x=x'
        · subst hxy
          have heq:(x != x)=false:=by simp
          go_wp2
          ((first | refine RegC.wp_region_ext1 (by kernel_rfl) (by kernel_rfl) ?_ | refine RegC.wp_region_ext0 (by kernel_rfl) (by kernel_rfl) ?_);(repeat (any_goals (first | go_big_quiet_step (fail) | (refine RegC.wpQuiet_split rfl rfl (fun hb=>?_) (fun hb=>?_)<;>simp only [hb]))));all_goals (refine wpQuiet_nil ?_;rintro _ ⟨nq,rfl⟩))
          go_wp2
          go_roundw
          case rel =>
            refine ⟨k+1,by omega,by go_num,?_,ext_of (by (try simp only [qbh]);repeat (first | exact Bel.refl _ | assumption | refine qbq ?_ _ | refine qbr ?_ _ | refine Bel.ext ?_ _ | refine Bel.alloc ?_ _ | refine Bel.drewN ?_ _))⟩
            rw [HE.out,HE'.out,HG.out]
          case measure=>(first | (simp [intOf];done) | (simp [intOf];omega))
        · have heq : (x != x') = true := by simpa using hxy
          have z1:decide (l=m)=false:=by rw [decide_eq_false_iff_not];intro h;apply hxy;have h1:=HX.out;rw [h,HX'.out] at h1;exact (Option.some.inj h1).symm
          have Z1:=Lib.hid z1
          clear z1 hxy
          go_wp2
          ((first | refine RegC.wp_region_ext1 (by kernel_rfl) (by kernel_rfl) ?_ | refine RegC.wp_region_ext0 (by kernel_rfl) (by kernel_rfl) ?_);(repeat (any_goals (first | go_big_quiet_step (fail) | (refine RegC.wpQuiet_split rfl rfl (fun hb=>?_) (fun hb=>?_)<;>simp only [hb]))));all_goals (refine wpQuiet_nil ?_;rintro _ ⟨nq,rfl⟩))
          go_wp2
          (go_ret;exact ⟨qjq (by exact Z1.out.symm),ext_of (by (try simp only [qbh]);repeat (first | exact Bel.refl _ | assumption | refine qbq ?_ _ | refine qbr ?_ _ | refine Bel.ext ?_ _ | refine Bel.alloc ?_ _ | refine Bel.drewN ?_ _))⟩)
      · have z1:decide (l=m)=true:=by
          rw [decide_eq_true_eq]
          have h:=HG.out
          obtain rfl:k=l.length:=by omega
          rw [List.take_length] at h
          rw [h,HN.out,List.take_length]
        have Z1:=Lib.hid z1
        clear z1
        go_wp2
        (go_ret;exact ⟨qjq (by exact Z1.out.symm),ext_of (by (try simp only [qbh]);repeat (first | exact Bel.refl _ | assumption | refine qbq ?_ _ | refine qbr ?_ _ | refine Bel.ext ?_ _ | refine Bel.alloc ?_ _ | refine Bel.drewN ?_ _))⟩)
  · have z0 : ((l.length : Int) != (m.length : Int)) = true := by rw [bne_iff_ne]; omega
    have Z1:=Lib.hid (show decide (l=m)=false by rw [decide_eq_false_iff_not];intro h;exact hn (by rw [h]))
    clear hn
    go_enter Tryz.func18,Tryz.ntmps18
    go_wp2
    (go_ret;exact ⟨qjq (by exact Z1.out.symm),ext_of (by (try simp only [qbh]);repeat (first | exact Bel.refl _ | assumption | refine qbq ?_ _ | refine qbr ?_ _ | refine Bel.ext ?_ _ | refine Bel.alloc ?_ _ | refine Bel.drewN ?_ _))⟩)
end Go.Proofs.YtpfhgnccpiildaaGreat

namespace Go.Proofs.YtpfhgnccpiildaaGreat
open Go.RowKit Go.Pel
end Go.Proofs.YtpfhgnccpiildaaGreat
