/-
  Facts on the types of this seat, by program (tyfacts.py).
-/
import Derived.Test.YtoofpcploeanpaaAwCall
import Derived.Test.YtoofpcploeanpaaProg
import Derived.KernelRfl
namespace Go.Aw
set_option linter.unusedVariables false
open Go Go.Proofs

@[go_sem] theorem ty1 : ty Go.Proofs.Try.prog 1 = ⟨.func, 1, 8⟩ := by kernel_rfl
@[go_sem] theorem zk1 : zeroOk Go.Proofs.Try.prog 1 = true := by kernel_rfl
@[go_sem] theorem zc1 : zcells Go.Proofs.Try.prog 12 1 = [.nilfn] := by kernel_rfl
@[go_sem] theorem ty2 : ty Go.Proofs.Try.prog 2 = ⟨.int .i64, 1, 8⟩ := by kernel_rfl
@[go_sem] theorem zk2 : zeroOk Go.Proofs.Try.prog 2 = true := by kernel_rfl
@[go_sem] theorem zc2 : zcells Go.Proofs.Try.prog 12 2 = [.d (.int .i64 0)] := by kernel_rfl
@[go_sem] theorem ty3 : ty Go.Proofs.Try.prog 3 = ⟨.int .i64, 1, 8⟩ := by kernel_rfl
@[go_sem] theorem zk3 : zeroOk Go.Proofs.Try.prog 3 = true := by kernel_rfl
@[go_sem] theorem zc3 : zcells Go.Proofs.Try.prog 12 3 = [.d (.int .i64 0)] := by kernel_rfl
@[go_sem] theorem ty4 : ty Go.Proofs.Try.prog 4 = ⟨.bool, 1, 1⟩ := by kernel_rfl
@[go_sem] theorem zk4 : zeroOk Go.Proofs.Try.prog 4 = true := by kernel_rfl
@[go_sem] theorem zc4 : zcells Go.Proofs.Try.prog 12 4 = [.d (.bool false)] := by kernel_rfl
@[go_sem] theorem ty5 : ty Go.Proofs.Try.prog 5 = ⟨.int .u8, 1, 1⟩ := by kernel_rfl
@[go_sem] theorem zk5 : zeroOk Go.Proofs.Try.prog 5 = true := by kernel_rfl
@[go_sem] theorem zc5 : zcells Go.Proofs.Try.prog 12 5 = [.d (.int .u8 0)] := by kernel_rfl
@[go_sem] theorem ty6 : ty Go.Proofs.Try.prog 6 = ⟨.int .u8, 1, 1⟩ := by kernel_rfl
@[go_sem] theorem zk6 : zeroOk Go.Proofs.Try.prog 6 = true := by kernel_rfl
@[go_sem] theorem zc6 : zcells Go.Proofs.Try.prog 12 6 = [.d (.int .u8 0)] := by kernel_rfl
@[go_sem] theorem ty7 : ty Go.Proofs.Try.prog 7 = ⟨.struct [(0, 2), (1, 3), (2, 4), (3, 6)], 4, 24⟩ := by kernel_rfl
@[go_sem] theorem zk7 : zeroOk Go.Proofs.Try.prog 7 = true := by kernel_rfl
@[go_sem] theorem zc7 : zcells Go.Proofs.Try.prog 12 7 = [.d (.int .i64 0), .d (.int .i64 0), .d (.bool false), .d (.int .u8 0)] := by kernel_rfl
@[go_sem] theorem eg7 : (Go.Proofs.Try.prog.eqGuardType Go.Proofs.Try.prog.depth 7) = false := by kernel_rfl
@[go_sem] theorem ty9 : ty Go.Proofs.Try.prog 9 = ⟨.str, 1, 16⟩ := by kernel_rfl
@[go_sem] theorem zk9 : zeroOk Go.Proofs.Try.prog 9 = true := by kernel_rfl
@[go_sem] theorem zc9 : zcells Go.Proofs.Try.prog 12 9 = [.d (.str [])] := by kernel_rfl
@[go_sem] theorem ty12 : ty Go.Proofs.Try.prog 12 = ⟨.int .u64, 1, 8⟩ := by kernel_rfl
@[go_sem] theorem zk12 : zeroOk Go.Proofs.Try.prog 12 = true := by kernel_rfl
@[go_sem] theorem zc12 : zcells Go.Proofs.Try.prog 12 12 = [.d (.int .u64 0)] := by kernel_rfl
@[go_sem] theorem ty13 : ty Go.Proofs.Try.prog 13 = ⟨.struct [(0, 9), (1, 12)], 2, 24⟩ := by kernel_rfl
@[go_sem] theorem zk13 : zeroOk Go.Proofs.Try.prog 13 = true := by kernel_rfl
@[go_sem] theorem zc13 : zcells Go.Proofs.Try.prog 12 13 = [.d (.str []), .d (.int .u64 0)] := by kernel_rfl
@[go_sem] theorem eg13 : (Go.Proofs.Try.prog.eqGuardType Go.Proofs.Try.prog.depth 13) = false := by kernel_rfl
@[go_sem] theorem ty15 : ty Go.Proofs.Try.prog 15 = ⟨.ptr 158, 1, 8⟩ := by kernel_rfl
@[go_sem] theorem zk15 : zeroOk Go.Proofs.Try.prog 15 = true := by kernel_rfl
@[go_sem] theorem zc15 : zcells Go.Proofs.Try.prog 12 15 = [.d .nilp] := by kernel_rfl
@[go_sem] theorem ty16 : ty Go.Proofs.Try.prog 16 = ⟨.ptr 161, 1, 8⟩ := by kernel_rfl
@[go_sem] theorem zk16 : zeroOk Go.Proofs.Try.prog 16 = true := by kernel_rfl
@[go_sem] theorem zc16 : zcells Go.Proofs.Try.prog 12 16 = [.d .nilp] := by kernel_rfl
@[go_sem] theorem ty17 : ty Go.Proofs.Try.prog 17 = ⟨.ptr 170, 1, 8⟩ := by kernel_rfl
@[go_sem] theorem zk17 : zeroOk Go.Proofs.Try.prog 17 = true := by kernel_rfl
@[go_sem] theorem zc17 : zcells Go.Proofs.Try.prog 12 17 = [.d .nilp] := by kernel_rfl
@[go_sem] theorem ty18 : ty Go.Proofs.Try.prog 18 = ⟨.struct [(0, 17)], 1, 8⟩ := by kernel_rfl
@[go_sem] theorem zk18 : zeroOk Go.Proofs.Try.prog 18 = true := by kernel_rfl
@[go_sem] theorem zc18 : zcells Go.Proofs.Try.prog 12 18 = [.d .nilp] := by kernel_rfl
@[go_sem] theorem eg18 : (Go.Proofs.Try.prog.eqGuardType Go.Proofs.Try.prog.depth 18) = false := by kernel_rfl
@[go_sem] theorem ty19 : ty Go.Proofs.Try.prog 19 = ⟨.struct [(0, 17)], 1, 8⟩ := by kernel_rfl
@[go_sem] theorem zk19 : zeroOk Go.Proofs.Try.prog 19 = true := by kernel_rfl
@[go_sem] theorem zc19 : zcells Go.Proofs.Try.prog 12 19 = [.d .nilp] := by kernel_rfl
@[go_sem] theorem eg19 : (Go.Proofs.Try.prog.eqGuardType Go.Proofs.Try.prog.depth 19) = false := by kernel_rfl
@[go_sem] theorem ty20 : ty Go.Proofs.Try.prog 20 = ⟨.iface, 1, 16⟩ := by kernel_rfl
@[go_sem] theorem zk20 : zeroOk Go.Proofs.Try.prog 20 = true := by kernel_rfl
@[go_sem] theorem zc20 : zcells Go.Proofs.Try.prog 12 20 = [.d .nilif] := by kernel_rfl
@[go_sem] theorem ty21 : ty Go.Proofs.Try.prog 21 = ⟨.int .i32, 1, 4⟩ := by kernel_rfl
@[go_sem] theorem zk21 : zeroOk Go.Proofs.Try.prog 21 = true := by kernel_rfl
@[go_sem] theorem zc21 : zcells Go.Proofs.Try.prog 12 21 = [.d (.int .i32 0)] := by kernel_rfl
@[go_sem] theorem ty22 : ty Go.Proofs.Try.prog 22 = ⟨.slice 25, 1, 24⟩ := by kernel_rfl
@[go_sem] theorem zk22 : zeroOk Go.Proofs.Try.prog 22 = true := by kernel_rfl
@[go_sem] theorem zc22 : zcells Go.Proofs.Try.prog 12 22 = [.nils 3] := by kernel_rfl
@[go_sem] theorem ty23 : ty Go.Proofs.Try.prog 23 = ⟨.func, 1, 8⟩ := by kernel_rfl
@[go_sem] theorem zk23 : zeroOk Go.Proofs.Try.prog 23 = true := by kernel_rfl
@[go_sem] theorem zc23 : zcells Go.Proofs.Try.prog 12 23 = [.nilfn] := by kernel_rfl
@[go_sem] theorem ty24 : ty Go.Proofs.Try.prog 24 = ⟨.func, 1, 8⟩ := by kernel_rfl
@[go_sem] theorem zk24 : zeroOk Go.Proofs.Try.prog 24 = true := by kernel_rfl
@[go_sem] theorem zc24 : zcells Go.Proofs.Try.prog 12 24 = [.nilfn] := by kernel_rfl
@[go_sem] theorem ty25 : ty Go.Proofs.Try.prog 25 = ⟨.arr 3 3, 3, 24⟩ := by kernel_rfl
@[go_sem] theorem zk25 : zeroOk Go.Proofs.Try.prog 25 = true := by kernel_rfl
@[go_sem] theorem zc25 : zcells Go.Proofs.Try.prog 12 25 = [.d (.int .i64 0), .d (.int .i64 0), .d (.int .i64 0)] := by kernel_rfl
@[go_sem] theorem eg25 : (Go.Proofs.Try.prog.eqGuardType Go.Proofs.Try.prog.depth 25) = false := by kernel_rfl
@[go_sem] theorem ty26 : ty Go.Proofs.Try.prog 26 = ⟨.func, 1, 8⟩ := by kernel_rfl
@[go_sem] theorem zk26 : zeroOk Go.Proofs.Try.prog 26 = true := by kernel_rfl
@[go_sem] theorem zc26 : zcells Go.Proofs.Try.prog 12 26 = [.nilfn] := by kernel_rfl
@[go_sem] theorem ty27 : ty Go.Proofs.Try.prog 27 = ⟨.int .u64, 1, 8⟩ := by kernel_rfl
@[go_sem] theorem zk27 : zeroOk Go.Proofs.Try.prog 27 = true := by kernel_rfl
@[go_sem] theorem zc27 : zcells Go.Proofs.Try.prog 12 27 = [.d (.int .u64 0)] := by kernel_rfl
@[go_sem] theorem ty28 : ty Go.Proofs.Try.prog 28 = ⟨.int .u32, 1, 4⟩ := by kernel_rfl
@[go_sem] theorem zk28 : zeroOk Go.Proofs.Try.prog 28 = true := by kernel_rfl
@[go_sem] theorem zc28 : zcells Go.Proofs.Try.prog 12 28 = [.d (.int .u32 0)] := by kernel_rfl
@[go_sem] theorem ty29 : ty Go.Proofs.Try.prog 29 = ⟨.struct [(0, 3), (1, 3), (2, 27), (3, 27), (4, 28), (5, 9)], 6, 56⟩ := by kernel_rfl
@[go_sem] theorem zk29 : zeroOk Go.Proofs.Try.prog 29 = true := by kernel_rfl
@[go_sem] theorem zc29 : zcells Go.Proofs.Try.prog 12 29 = [.d (.int .i64 0), .d (.int .i64 0), .d (.int .u64 0), .d (.int .u64 0), .d (.int .u32 0), .d (.str [])] := by kernel_rfl
@[go_sem] theorem eg29 : (Go.Proofs.Try.prog.eqGuardType Go.Proofs.Try.prog.depth 29) = false := by kernel_rfl
@[go_sem] theorem ty30 : ty Go.Proofs.Try.prog 30 = ⟨.struct [(0, 3), (1, 3), (2, 27), (3, 27), (4, 28), (5, 9)], 6, 56⟩ := by kernel_rfl
@[go_sem] theorem zk30 : zeroOk Go.Proofs.Try.prog 30 = true := by kernel_rfl
@[go_sem] theorem zc30 : zcells Go.Proofs.Try.prog 12 30 = [.d (.int .i64 0), .d (.int .i64 0), .d (.int .u64 0), .d (.int .u64 0), .d (.int .u32 0), .d (.str [])] := by kernel_rfl
@[go_sem] theorem si30 : (Go.Proofs.Try.prog.stoodInHeld 30) = false := by kernel_rfl
@[go_sem] theorem eg30 : (Go.Proofs.Try.prog.eqGuardType Go.Proofs.Try.prog.depth 30) = false := by kernel_rfl
@[go_sem] theorem ty31 : ty Go.Proofs.Try.prog 31 = ⟨.slice 9, 1, 24⟩ := by kernel_rfl
@[go_sem] theorem zk31 : zeroOk Go.Proofs.Try.prog 31 = true := by kernel_rfl
@[go_sem] theorem zc31 : zcells Go.Proofs.Try.prog 12 31 = [.nils 1] := by kernel_rfl
@[go_sem] theorem ty32 : ty Go.Proofs.Try.prog 32 = ⟨.struct [(0, 27), (1, 31)], 2, 32⟩ := by kernel_rfl
@[go_sem] theorem zk32 : zeroOk Go.Proofs.Try.prog 32 = true := by kernel_rfl
@[go_sem] theorem zc32 : zcells Go.Proofs.Try.prog 12 32 = [.d (.int .u64 0), .nils 1] := by kernel_rfl
@[go_sem] theorem eg32 : (Go.Proofs.Try.prog.eqGuardType Go.Proofs.Try.prog.depth 32) = false := by kernel_rfl
@[go_sem] theorem ty33 : ty Go.Proofs.Try.prog 33 = ⟨.struct [(0, 27), (1, 31)], 2, 32⟩ := by kernel_rfl
@[go_sem] theorem zk33 : zeroOk Go.Proofs.Try.prog 33 = true := by kernel_rfl
@[go_sem] theorem zc33 : zcells Go.Proofs.Try.prog 12 33 = [.d (.int .u64 0), .nils 1] := by kernel_rfl
@[go_sem] theorem si33 : (Go.Proofs.Try.prog.stoodInHeld 33) = false := by kernel_rfl
@[go_sem] theorem eg33 : (Go.Proofs.Try.prog.eqGuardType Go.Proofs.Try.prog.depth 33) = false := by kernel_rfl
@[go_sem] theorem ty34 : ty Go.Proofs.Try.prog 34 = ⟨.slice 28, 1, 24⟩ := by kernel_rfl
@[go_sem] theorem zk34 : zeroOk Go.Proofs.Try.prog 34 = true := by kernel_rfl
@[go_sem] theorem zc34 : zcells Go.Proofs.Try.prog 12 34 = [.nils 1] := by kernel_rfl
@[go_sem] theorem ty35 : ty Go.Proofs.Try.prog 35 = ⟨.struct [(0, 3), (1, 9), (2, 4), (3, 4), (4, 34)], 5, 56⟩ := by kernel_rfl
@[go_sem] theorem zk35 : zeroOk Go.Proofs.Try.prog 35 = true := by kernel_rfl
@[go_sem] theorem zc35 : zcells Go.Proofs.Try.prog 12 35 = [.d (.int .i64 0), .d (.str []), .d (.bool false), .d (.bool false), .nils 1] := by kernel_rfl
@[go_sem] theorem eg35 : (Go.Proofs.Try.prog.eqGuardType Go.Proofs.Try.prog.depth 35) = false := by kernel_rfl
@[go_sem] theorem ty36 : ty Go.Proofs.Try.prog 36 = ⟨.struct [(0, 3), (1, 9), (2, 4), (3, 4), (4, 34)], 5, 56⟩ := by kernel_rfl
@[go_sem] theorem zk36 : zeroOk Go.Proofs.Try.prog 36 = true := by kernel_rfl
@[go_sem] theorem zc36 : zcells Go.Proofs.Try.prog 12 36 = [.d (.int .i64 0), .d (.str []), .d (.bool false), .d (.bool false), .nils 1] := by kernel_rfl
@[go_sem] theorem si36 : (Go.Proofs.Try.prog.stoodInHeld 36) = false := by kernel_rfl
@[go_sem] theorem eg36 : (Go.Proofs.Try.prog.eqGuardType Go.Proofs.Try.prog.depth 36) = false := by kernel_rfl
@[go_sem] theorem ty37 : ty Go.Proofs.Try.prog 37 = ⟨.func, 1, 8⟩ := by kernel_rfl
@[go_sem] theorem zk37 : zeroOk Go.Proofs.Try.prog 37 = true := by kernel_rfl
@[go_sem] theorem zc37 : zcells Go.Proofs.Try.prog 12 37 = [.nilfn] := by kernel_rfl
@[go_sem] theorem ty38 : ty Go.Proofs.Try.prog 38 = ⟨.func, 1, 8⟩ := by kernel_rfl
@[go_sem] theorem zk38 : zeroOk Go.Proofs.Try.prog 38 = true := by kernel_rfl
@[go_sem] theorem zc38 : zcells Go.Proofs.Try.prog 12 38 = [.nilfn] := by kernel_rfl
@[go_sem] theorem ty39 : ty Go.Proofs.Try.prog 39 = ⟨.func, 1, 8⟩ := by kernel_rfl
@[go_sem] theorem zk39 : zeroOk Go.Proofs.Try.prog 39 = true := by kernel_rfl
@[go_sem] theorem zc39 : zcells Go.Proofs.Try.prog 12 39 = [.nilfn] := by kernel_rfl
@[go_sem] theorem ty40 : ty Go.Proofs.Try.prog 40 = ⟨.func, 1, 8⟩ := by kernel_rfl
@[go_sem] theorem zk40 : zeroOk Go.Proofs.Try.prog 40 = true := by kernel_rfl
@[go_sem] theorem zc40 : zcells Go.Proofs.Try.prog 12 40 = [.nilfn] := by kernel_rfl
@[go_sem] theorem ty41 : ty Go.Proofs.Try.prog 41 = ⟨.func, 1, 8⟩ := by kernel_rfl
@[go_sem] theorem zk41 : zeroOk Go.Proofs.Try.prog 41 = true := by kernel_rfl
@[go_sem] theorem zc41 : zcells Go.Proofs.Try.prog 12 41 = [.nilfn] := by kernel_rfl
@[go_sem] theorem ty42 : ty Go.Proofs.Try.prog 42 = ⟨.slice 44, 1, 24⟩ := by kernel_rfl
@[go_sem] theorem zk42 : zeroOk Go.Proofs.Try.prog 42 = true := by kernel_rfl
@[go_sem] theorem zc42 : zcells Go.Proofs.Try.prog 12 42 = [.nils 3] := by kernel_rfl
@[go_sem] theorem ty43 : ty Go.Proofs.Try.prog 43 = ⟨.struct [(0, 3), (1, 9), (2, 4)], 3, 32⟩ := by kernel_rfl
@[go_sem] theorem zk43 : zeroOk Go.Proofs.Try.prog 43 = true := by kernel_rfl
@[go_sem] theorem zc43 : zcells Go.Proofs.Try.prog 12 43 = [.d (.int .i64 0), .d (.str []), .d (.bool false)] := by kernel_rfl
@[go_sem] theorem eg43 : (Go.Proofs.Try.prog.eqGuardType Go.Proofs.Try.prog.depth 43) = false := by kernel_rfl
@[go_sem] theorem ty44 : ty Go.Proofs.Try.prog 44 = ⟨.struct [(0, 3), (1, 9), (2, 4)], 3, 32⟩ := by kernel_rfl
@[go_sem] theorem zk44 : zeroOk Go.Proofs.Try.prog 44 = true := by kernel_rfl
@[go_sem] theorem zc44 : zcells Go.Proofs.Try.prog 12 44 = [.d (.int .i64 0), .d (.str []), .d (.bool false)] := by kernel_rfl
@[go_sem] theorem si44 : (Go.Proofs.Try.prog.stoodInHeld 44) = false := by kernel_rfl
@[go_sem] theorem eg44 : (Go.Proofs.Try.prog.eqGuardType Go.Proofs.Try.prog.depth 44) = false := by kernel_rfl
@[go_sem] theorem ty45 : ty Go.Proofs.Try.prog 45 = ⟨.func, 1, 8⟩ := by kernel_rfl
@[go_sem] theorem zk45 : zeroOk Go.Proofs.Try.prog 45 = true := by kernel_rfl
@[go_sem] theorem zc45 : zcells Go.Proofs.Try.prog 12 45 = [.nilfn] := by kernel_rfl
@[go_sem] theorem ty46 : ty Go.Proofs.Try.prog 46 = ⟨.func, 1, 8⟩ := by kernel_rfl
@[go_sem] theorem zk46 : zeroOk Go.Proofs.Try.prog 46 = true := by kernel_rfl
@[go_sem] theorem zc46 : zcells Go.Proofs.Try.prog 12 46 = [.nilfn] := by kernel_rfl
@[go_sem] theorem ty47 : ty Go.Proofs.Try.prog 47 = ⟨.int .i64, 1, 8⟩ := by kernel_rfl
@[go_sem] theorem zk47 : zeroOk Go.Proofs.Try.prog 47 = true := by kernel_rfl
@[go_sem] theorem zc47 : zcells Go.Proofs.Try.prog 12 47 = [.d (.int .i64 0)] := by kernel_rfl
@[go_sem] theorem ty49 : ty Go.Proofs.Try.prog 49 = ⟨.func, 1, 8⟩ := by kernel_rfl
@[go_sem] theorem zk49 : zeroOk Go.Proofs.Try.prog 49 = true := by kernel_rfl
@[go_sem] theorem zc49 : zcells Go.Proofs.Try.prog 12 49 = [.nilfn] := by kernel_rfl
@[go_sem] theorem ty50 : ty Go.Proofs.Try.prog 50 = ⟨.func, 1, 8⟩ := by kernel_rfl
@[go_sem] theorem zk50 : zeroOk Go.Proofs.Try.prog 50 = true := by kernel_rfl
@[go_sem] theorem zc50 : zcells Go.Proofs.Try.prog 12 50 = [.nilfn] := by kernel_rfl
@[go_sem] theorem ty51 : ty Go.Proofs.Try.prog 51 = ⟨.func, 1, 8⟩ := by kernel_rfl
@[go_sem] theorem zk51 : zeroOk Go.Proofs.Try.prog 51 = true := by kernel_rfl
@[go_sem] theorem zc51 : zcells Go.Proofs.Try.prog 12 51 = [.nilfn] := by kernel_rfl
@[go_sem] theorem ty52 : ty Go.Proofs.Try.prog 52 = ⟨.func, 1, 8⟩ := by kernel_rfl
@[go_sem] theorem zk52 : zeroOk Go.Proofs.Try.prog 52 = true := by kernel_rfl
@[go_sem] theorem zc52 : zcells Go.Proofs.Try.prog 12 52 = [.nilfn] := by kernel_rfl
@[go_sem] theorem ty53 : ty Go.Proofs.Try.prog 53 = ⟨.func, 1, 8⟩ := by kernel_rfl
@[go_sem] theorem zk53 : zeroOk Go.Proofs.Try.prog 53 = true := by kernel_rfl
@[go_sem] theorem zc53 : zcells Go.Proofs.Try.prog 12 53 = [.nilfn] := by kernel_rfl
@[go_sem] theorem ty54 : ty Go.Proofs.Try.prog 54 = ⟨.func, 1, 8⟩ := by kernel_rfl
@[go_sem] theorem zk54 : zeroOk Go.Proofs.Try.prog 54 = true := by kernel_rfl
@[go_sem] theorem zc54 : zcells Go.Proofs.Try.prog 12 54 = [.nilfn] := by kernel_rfl
@[go_sem] theorem ty55 : ty Go.Proofs.Try.prog 55 = ⟨.func, 1, 8⟩ := by kernel_rfl
@[go_sem] theorem zk55 : zeroOk Go.Proofs.Try.prog 55 = true := by kernel_rfl
@[go_sem] theorem zc55 : zcells Go.Proofs.Try.prog 12 55 = [.nilfn] := by kernel_rfl
@[go_sem] theorem ty56 : ty Go.Proofs.Try.prog 56 = ⟨.func, 1, 8⟩ := by kernel_rfl
@[go_sem] theorem zk56 : zeroOk Go.Proofs.Try.prog 56 = true := by kernel_rfl
@[go_sem] theorem zc56 : zcells Go.Proofs.Try.prog 12 56 = [.nilfn] := by kernel_rfl
@[go_sem] theorem ty57 : ty Go.Proofs.Try.prog 57 = ⟨.slice 5, 1, 24⟩ := by kernel_rfl
@[go_sem] theorem zk57 : zeroOk Go.Proofs.Try.prog 57 = true := by kernel_rfl
@[go_sem] theorem zc57 : zcells Go.Proofs.Try.prog 12 57 = [.nils 1] := by kernel_rfl
@[go_sem] theorem ty58 : ty Go.Proofs.Try.prog 58 = ⟨.func, 1, 8⟩ := by kernel_rfl
@[go_sem] theorem zk58 : zeroOk Go.Proofs.Try.prog 58 = true := by kernel_rfl
@[go_sem] theorem zc58 : zcells Go.Proofs.Try.prog 12 58 = [.nilfn] := by kernel_rfl
@[go_sem] theorem ty59 : ty Go.Proofs.Try.prog 59 = ⟨.func, 1, 8⟩ := by kernel_rfl
@[go_sem] theorem zk59 : zeroOk Go.Proofs.Try.prog 59 = true := by kernel_rfl
@[go_sem] theorem zc59 : zcells Go.Proofs.Try.prog 12 59 = [.nilfn] := by kernel_rfl
@[go_sem] theorem ty60 : ty Go.Proofs.Try.prog 60 = ⟨.int .u64, 1, 8⟩ := by kernel_rfl
@[go_sem] theorem zk60 : zeroOk Go.Proofs.Try.prog 60 = true := by kernel_rfl
@[go_sem] theorem zc60 : zcells Go.Proofs.Try.prog 12 60 = [.d (.int .u64 0)] := by kernel_rfl
@[go_sem] theorem ty61 : ty Go.Proofs.Try.prog 61 = ⟨.func, 1, 8⟩ := by kernel_rfl
@[go_sem] theorem zk61 : zeroOk Go.Proofs.Try.prog 61 = true := by kernel_rfl
@[go_sem] theorem zc61 : zcells Go.Proofs.Try.prog 12 61 = [.nilfn] := by kernel_rfl
@[go_sem] theorem ty62 : ty Go.Proofs.Try.prog 62 = ⟨.slice 3, 1, 24⟩ := by kernel_rfl
@[go_sem] theorem zk62 : zeroOk Go.Proofs.Try.prog 62 = true := by kernel_rfl
@[go_sem] theorem zc62 : zcells Go.Proofs.Try.prog 12 62 = [.nils 1] := by kernel_rfl
@[go_sem] theorem ty63 : ty Go.Proofs.Try.prog 63 = ⟨.map 3 9, 1, 8⟩ := by kernel_rfl
@[go_sem] theorem zk63 : zeroOk Go.Proofs.Try.prog 63 = true := by kernel_rfl
@[go_sem] theorem zc63 : zcells Go.Proofs.Try.prog 12 63 = [.nilmap] := by kernel_rfl
@[go_sem] theorem ty64 : ty Go.Proofs.Try.prog 64 = ⟨.func, 1, 8⟩ := by kernel_rfl
@[go_sem] theorem zk64 : zeroOk Go.Proofs.Try.prog 64 = true := by kernel_rfl
@[go_sem] theorem zc64 : zcells Go.Proofs.Try.prog 12 64 = [.nilfn] := by kernel_rfl
@[go_sem] theorem ty66 : ty Go.Proofs.Try.prog 66 = ⟨.func, 1, 8⟩ := by kernel_rfl
@[go_sem] theorem zk66 : zeroOk Go.Proofs.Try.prog 66 = true := by kernel_rfl
@[go_sem] theorem zc66 : zcells Go.Proofs.Try.prog 12 66 = [.nilfn] := by kernel_rfl
@[go_sem] theorem ty67 : ty Go.Proofs.Try.prog 67 = ⟨.func, 1, 8⟩ := by kernel_rfl
@[go_sem] theorem zk67 : zeroOk Go.Proofs.Try.prog 67 = true := by kernel_rfl
@[go_sem] theorem zc67 : zcells Go.Proofs.Try.prog 12 67 = [.nilfn] := by kernel_rfl
@[go_sem] theorem ty68 : ty Go.Proofs.Try.prog 68 = ⟨.func, 1, 8⟩ := by kernel_rfl
@[go_sem] theorem zk68 : zeroOk Go.Proofs.Try.prog 68 = true := by kernel_rfl
@[go_sem] theorem zc68 : zcells Go.Proofs.Try.prog 12 68 = [.nilfn] := by kernel_rfl
@[go_sem] theorem ty70 : ty Go.Proofs.Try.prog 70 = ⟨.func, 1, 8⟩ := by kernel_rfl
@[go_sem] theorem zk70 : zeroOk Go.Proofs.Try.prog 70 = true := by kernel_rfl
@[go_sem] theorem zc70 : zcells Go.Proofs.Try.prog 12 70 = [.nilfn] := by kernel_rfl
@[go_sem] theorem ty71 : ty Go.Proofs.Try.prog 71 = ⟨.func, 1, 8⟩ := by kernel_rfl
@[go_sem] theorem zk71 : zeroOk Go.Proofs.Try.prog 71 = true := by kernel_rfl
@[go_sem] theorem zc71 : zcells Go.Proofs.Try.prog 12 71 = [.nilfn] := by kernel_rfl
@[go_sem] theorem ty72 : ty Go.Proofs.Try.prog 72 = ⟨.func, 1, 8⟩ := by kernel_rfl
@[go_sem] theorem zk72 : zeroOk Go.Proofs.Try.prog 72 = true := by kernel_rfl
@[go_sem] theorem zc72 : zcells Go.Proofs.Try.prog 12 72 = [.nilfn] := by kernel_rfl
@[go_sem] theorem ty73 : ty Go.Proofs.Try.prog 73 = ⟨.func, 1, 8⟩ := by kernel_rfl
@[go_sem] theorem zk73 : zeroOk Go.Proofs.Try.prog 73 = true := by kernel_rfl
@[go_sem] theorem zc73 : zcells Go.Proofs.Try.prog 12 73 = [.nilfn] := by kernel_rfl
@[go_sem] theorem ty74 : ty Go.Proofs.Try.prog 74 = ⟨.func, 1, 8⟩ := by kernel_rfl
@[go_sem] theorem zk74 : zeroOk Go.Proofs.Try.prog 74 = true := by kernel_rfl
@[go_sem] theorem zc74 : zcells Go.Proofs.Try.prog 12 74 = [.nilfn] := by kernel_rfl
@[go_sem] theorem ty75 : ty Go.Proofs.Try.prog 75 = ⟨.func, 1, 8⟩ := by kernel_rfl
@[go_sem] theorem zk75 : zeroOk Go.Proofs.Try.prog 75 = true := by kernel_rfl
@[go_sem] theorem zc75 : zcells Go.Proofs.Try.prog 12 75 = [.nilfn] := by kernel_rfl
@[go_sem] theorem ty76 : ty Go.Proofs.Try.prog 76 = ⟨.func, 1, 8⟩ := by kernel_rfl
@[go_sem] theorem zk76 : zeroOk Go.Proofs.Try.prog 76 = true := by kernel_rfl
@[go_sem] theorem zc76 : zcells Go.Proofs.Try.prog 12 76 = [.nilfn] := by kernel_rfl
@[go_sem] theorem ty77 : ty Go.Proofs.Try.prog 77 = ⟨.func, 1, 8⟩ := by kernel_rfl
@[go_sem] theorem zk77 : zeroOk Go.Proofs.Try.prog 77 = true := by kernel_rfl
@[go_sem] theorem zc77 : zcells Go.Proofs.Try.prog 12 77 = [.nilfn] := by kernel_rfl
@[go_sem] theorem ty78 : ty Go.Proofs.Try.prog 78 = ⟨.func, 1, 8⟩ := by kernel_rfl
@[go_sem] theorem zk78 : zeroOk Go.Proofs.Try.prog 78 = true := by kernel_rfl
@[go_sem] theorem zc78 : zcells Go.Proofs.Try.prog 12 78 = [.nilfn] := by kernel_rfl
@[go_sem] theorem ty79 : ty Go.Proofs.Try.prog 79 = ⟨.struct [(0, 4), (1, 28)], 2, 8⟩ := by kernel_rfl
@[go_sem] theorem zk79 : zeroOk Go.Proofs.Try.prog 79 = true := by kernel_rfl
@[go_sem] theorem zc79 : zcells Go.Proofs.Try.prog 12 79 = [.d (.bool false), .d (.int .u32 0)] := by kernel_rfl
@[go_sem] theorem eg79 : (Go.Proofs.Try.prog.eqGuardType Go.Proofs.Try.prog.depth 79) = false := by kernel_rfl
@[go_sem] theorem ty80 : ty Go.Proofs.Try.prog 80 = ⟨.struct [(0, 4), (1, 28)], 2, 8⟩ := by kernel_rfl
@[go_sem] theorem zk80 : zeroOk Go.Proofs.Try.prog 80 = true := by kernel_rfl
@[go_sem] theorem zc80 : zcells Go.Proofs.Try.prog 12 80 = [.d (.bool false), .d (.int .u32 0)] := by kernel_rfl
@[go_sem] theorem eg80 : (Go.Proofs.Try.prog.eqGuardType Go.Proofs.Try.prog.depth 80) = false := by kernel_rfl
@[go_sem] theorem ty81 : ty Go.Proofs.Try.prog 81 = ⟨.func, 1, 8⟩ := by kernel_rfl
@[go_sem] theorem zk81 : zeroOk Go.Proofs.Try.prog 81 = true := by kernel_rfl
@[go_sem] theorem zc81 : zcells Go.Proofs.Try.prog 12 81 = [.nilfn] := by kernel_rfl
@[go_sem] theorem ty82 : ty Go.Proofs.Try.prog 82 = ⟨.arr 8 3, 8, 64⟩ := by kernel_rfl
@[go_sem] theorem zk82 : zeroOk Go.Proofs.Try.prog 82 = true := by kernel_rfl
@[go_sem] theorem zc82 : zcells Go.Proofs.Try.prog 12 82 = [.d (.int .i64 0), .d (.int .i64 0), .d (.int .i64 0), .d (.int .i64 0), .d (.int .i64 0), .d (.int .i64 0), .d (.int .i64 0), .d (.int .i64 0)] := by kernel_rfl
@[go_sem] theorem eg82 : (Go.Proofs.Try.prog.eqGuardType Go.Proofs.Try.prog.depth 82) = false := by kernel_rfl
@[go_sem] theorem ty83 : ty Go.Proofs.Try.prog 83 = ⟨.func, 1, 8⟩ := by kernel_rfl
@[go_sem] theorem zk83 : zeroOk Go.Proofs.Try.prog 83 = true := by kernel_rfl
@[go_sem] theorem zc83 : zcells Go.Proofs.Try.prog 12 83 = [.nilfn] := by kernel_rfl
@[go_sem] theorem ty84 : ty Go.Proofs.Try.prog 84 = ⟨.func, 1, 8⟩ := by kernel_rfl
@[go_sem] theorem zk84 : zeroOk Go.Proofs.Try.prog 84 = true := by kernel_rfl
@[go_sem] theorem zc84 : zcells Go.Proofs.Try.prog 12 84 = [.nilfn] := by kernel_rfl
@[go_sem] theorem ty85 : ty Go.Proofs.Try.prog 85 = ⟨.func, 1, 8⟩ := by kernel_rfl
@[go_sem] theorem zk85 : zeroOk Go.Proofs.Try.prog 85 = true := by kernel_rfl
@[go_sem] theorem zc85 : zcells Go.Proofs.Try.prog 12 85 = [.nilfn] := by kernel_rfl
@[go_sem] theorem ty86 : ty Go.Proofs.Try.prog 86 = ⟨.func, 1, 8⟩ := by kernel_rfl
@[go_sem] theorem zk86 : zeroOk Go.Proofs.Try.prog 86 = true := by kernel_rfl
@[go_sem] theorem zc86 : zcells Go.Proofs.Try.prog 12 86 = [.nilfn] := by kernel_rfl
@[go_sem] theorem ty87 : ty Go.Proofs.Try.prog 87 = ⟨.func, 1, 8⟩ := by kernel_rfl
@[go_sem] theorem zk87 : zeroOk Go.Proofs.Try.prog 87 = true := by kernel_rfl
@[go_sem] theorem zc87 : zcells Go.Proofs.Try.prog 12 87 = [.nilfn] := by kernel_rfl
@[go_sem] theorem ty88 : ty Go.Proofs.Try.prog 88 = ⟨.map 3 4, 1, 8⟩ := by kernel_rfl
@[go_sem] theorem zk88 : zeroOk Go.Proofs.Try.prog 88 = true := by kernel_rfl
@[go_sem] theorem zc88 : zcells Go.Proofs.Try.prog 12 88 = [.nilmap] := by kernel_rfl
@[go_sem] theorem ty89 : ty Go.Proofs.Try.prog 89 = ⟨.struct [], 0, 0⟩ := by kernel_rfl
@[go_sem] theorem zk89 : zeroOk Go.Proofs.Try.prog 89 = true := by kernel_rfl
@[go_sem] theorem zc89 : zcells Go.Proofs.Try.prog 12 89 = [] := by kernel_rfl
@[go_sem] theorem eg89 : (Go.Proofs.Try.prog.eqGuardType Go.Proofs.Try.prog.depth 89) = false := by kernel_rfl
@[go_sem] theorem ty90 : ty Go.Proofs.Try.prog 90 = ⟨.struct [], 0, 0⟩ := by kernel_rfl
@[go_sem] theorem zk90 : zeroOk Go.Proofs.Try.prog 90 = true := by kernel_rfl
@[go_sem] theorem zc90 : zcells Go.Proofs.Try.prog 12 90 = [] := by kernel_rfl
@[go_sem] theorem eg90 : (Go.Proofs.Try.prog.eqGuardType Go.Proofs.Try.prog.depth 90) = false := by kernel_rfl
@[go_sem] theorem ty91 : ty Go.Proofs.Try.prog 91 = ⟨.struct [], 0, 0⟩ := by kernel_rfl
@[go_sem] theorem zk91 : zeroOk Go.Proofs.Try.prog 91 = true := by kernel_rfl
@[go_sem] theorem zc91 : zcells Go.Proofs.Try.prog 12 91 = [] := by kernel_rfl
@[go_sem] theorem eg91 : (Go.Proofs.Try.prog.eqGuardType Go.Proofs.Try.prog.depth 91) = false := by kernel_rfl
@[go_sem] theorem ty92 : ty Go.Proofs.Try.prog 92 = ⟨.bst [(0, 91), (0, 28)], 1, 4⟩ := by kernel_rfl
@[go_sem] theorem zk92 : zeroOk Go.Proofs.Try.prog 92 = true := by kernel_rfl
@[go_sem] theorem zc92 : zcells Go.Proofs.Try.prog 12 92 = [.d (.int .u32 0)] := by kernel_rfl
@[go_sem] theorem ty93 : ty Go.Proofs.Try.prog 93 = ⟨.bst [(0, 91), (0, 28)], 1, 4⟩ := by kernel_rfl
@[go_sem] theorem zk93 : zeroOk Go.Proofs.Try.prog 93 = true := by kernel_rfl
@[go_sem] theorem zc93 : zcells Go.Proofs.Try.prog 12 93 = [.d (.int .u32 0)] := by kernel_rfl
@[go_sem] theorem ty94 : ty Go.Proofs.Try.prog 94 = ⟨.struct [(0, 21), (1, 28)], 2, 8⟩ := by kernel_rfl
@[go_sem] theorem zk94 : zeroOk Go.Proofs.Try.prog 94 = true := by kernel_rfl
@[go_sem] theorem zc94 : zcells Go.Proofs.Try.prog 12 94 = [.d (.int .i32 0), .d (.int .u32 0)] := by kernel_rfl
@[go_sem] theorem eg94 : (Go.Proofs.Try.prog.eqGuardType Go.Proofs.Try.prog.depth 94) = false := by kernel_rfl
@[go_sem] theorem ty95 : ty Go.Proofs.Try.prog 95 = ⟨.struct [(0, 21), (1, 28)], 2, 8⟩ := by kernel_rfl
@[go_sem] theorem zk95 : zeroOk Go.Proofs.Try.prog 95 = true := by kernel_rfl
@[go_sem] theorem zc95 : zcells Go.Proofs.Try.prog 12 95 = [.d (.int .i32 0), .d (.int .u32 0)] := by kernel_rfl
@[go_sem] theorem eg95 : (Go.Proofs.Try.prog.eqGuardType Go.Proofs.Try.prog.depth 95) = false := by kernel_rfl
@[go_sem] theorem ty96 : ty Go.Proofs.Try.prog 96 = ⟨.bst [(0, 90), (0, 95)], 2, 8⟩ := by kernel_rfl
@[go_sem] theorem zk96 : zeroOk Go.Proofs.Try.prog 96 = true := by kernel_rfl
@[go_sem] theorem zc96 : zcells Go.Proofs.Try.prog 12 96 = [.d (.int .i32 0), .d (.int .u32 0)] := by kernel_rfl
@[go_sem] theorem ty97 : ty Go.Proofs.Try.prog 97 = ⟨.bst [(0, 90), (0, 95)], 2, 8⟩ := by kernel_rfl
@[go_sem] theorem zk97 : zeroOk Go.Proofs.Try.prog 97 = true := by kernel_rfl
@[go_sem] theorem zc97 : zcells Go.Proofs.Try.prog 12 97 = [.d (.int .i32 0), .d (.int .u32 0)] := by kernel_rfl
@[go_sem] theorem ty98 : ty Go.Proofs.Try.prog 98 = ⟨.bst [(0, 90), (0, 93), (1, 97)], 3, 12⟩ := by kernel_rfl
@[go_sem] theorem zk98 : zeroOk Go.Proofs.Try.prog 98 = true := by kernel_rfl
@[go_sem] theorem zc98 : zcells Go.Proofs.Try.prog 12 98 = [.d (.int .u32 0), .d (.int .i32 0), .d (.int .u32 0)] := by kernel_rfl
@[go_sem] theorem ty99 : ty Go.Proofs.Try.prog 99 = ⟨.bst [(0, 90), (0, 93), (1, 97)], 3, 12⟩ := by kernel_rfl
@[go_sem] theorem zk99 : zeroOk Go.Proofs.Try.prog 99 = true := by kernel_rfl
@[go_sem] theorem zc99 : zcells Go.Proofs.Try.prog 12 99 = [.d (.int .u32 0), .d (.int .i32 0), .d (.int .u32 0)] := by kernel_rfl
@[go_sem] theorem ty100 : ty Go.Proofs.Try.prog 100 = ⟨.arr 256 28, 256, 1024⟩ := by kernel_rfl
@[go_sem] theorem zk100 : zeroOk Go.Proofs.Try.prog 100 = true := by kernel_rfl
@[go_sem] theorem zc100 : zcells Go.Proofs.Try.prog 12 100 = List.replicate 256 (.d (.int .u32 0)) := by kernel_rfl
@[go_sem] theorem eg100 : (Go.Proofs.Try.prog.eqGuardType Go.Proofs.Try.prog.depth 100) = false := by kernel_rfl
@[go_sem] theorem ty101 : ty Go.Proofs.Try.prog 101 = ⟨.struct [(0, 99), (3, 100)], 259, 1036⟩ := by kernel_rfl
@[go_sem] theorem zk101 : zeroOk Go.Proofs.Try.prog 101 = true := by kernel_rfl
@[go_sem] theorem zc101 : zcells Go.Proofs.Try.prog 12 101 = [.d (.int .u32 0), .d (.int .i32 0), .d (.int .u32 0)] ++ List.replicate 256 (.d (.int .u32 0)) := by kernel_rfl
@[go_sem] theorem eg101 : (Go.Proofs.Try.prog.eqGuardType Go.Proofs.Try.prog.depth 101) = false := by kernel_rfl
@[go_sem] theorem ty102 : ty Go.Proofs.Try.prog 102 = ⟨.struct [(0, 99), (3, 100)], 259, 1036⟩ := by kernel_rfl
@[go_sem] theorem zk102 : zeroOk Go.Proofs.Try.prog 102 = true := by kernel_rfl
@[go_sem] theorem zc102 : zcells Go.Proofs.Try.prog 12 102 = [.d (.int .u32 0), .d (.int .i32 0), .d (.int .u32 0)] ++ List.replicate 256 (.d (.int .u32 0)) := by kernel_rfl
@[go_sem] theorem eg102 : (Go.Proofs.Try.prog.eqGuardType Go.Proofs.Try.prog.depth 102) = false := by kernel_rfl
@[go_sem] theorem ty103 : ty Go.Proofs.Try.prog 103 = ⟨.arr 4 5, 4, 4⟩ := by kernel_rfl
@[go_sem] theorem zk103 : zeroOk Go.Proofs.Try.prog 103 = true := by kernel_rfl
@[go_sem] theorem zc103 : zcells Go.Proofs.Try.prog 12 103 = [.d (.int .u8 0), .d (.int .u8 0), .d (.int .u8 0), .d (.int .u8 0)] := by kernel_rfl
@[go_sem] theorem eg103 : (Go.Proofs.Try.prog.eqGuardType Go.Proofs.Try.prog.depth 103) = false := by kernel_rfl
@[go_sem] theorem ty104 : ty Go.Proofs.Try.prog 104 = ⟨.func, 1, 8⟩ := by kernel_rfl
@[go_sem] theorem zk104 : zeroOk Go.Proofs.Try.prog 104 = true := by kernel_rfl
@[go_sem] theorem zc104 : zcells Go.Proofs.Try.prog 12 104 = [.nilfn] := by kernel_rfl
@[go_sem] theorem ty105 : ty Go.Proofs.Try.prog 105 = ⟨.func, 1, 8⟩ := by kernel_rfl
@[go_sem] theorem zk105 : zeroOk Go.Proofs.Try.prog 105 = true := by kernel_rfl
@[go_sem] theorem zc105 : zcells Go.Proofs.Try.prog 12 105 = [.nilfn] := by kernel_rfl
@[go_sem] theorem ty106 : ty Go.Proofs.Try.prog 106 = ⟨.func, 1, 8⟩ := by kernel_rfl
@[go_sem] theorem zk106 : zeroOk Go.Proofs.Try.prog 106 = true := by kernel_rfl
@[go_sem] theorem zc106 : zcells Go.Proofs.Try.prog 12 106 = [.nilfn] := by kernel_rfl
@[go_sem] theorem ty107 : ty Go.Proofs.Try.prog 107 = ⟨.func, 1, 8⟩ := by kernel_rfl
@[go_sem] theorem zk107 : zeroOk Go.Proofs.Try.prog 107 = true := by kernel_rfl
@[go_sem] theorem zc107 : zcells Go.Proofs.Try.prog 12 107 = [.nilfn] := by kernel_rfl
@[go_sem] theorem ty108 : ty Go.Proofs.Try.prog 108 = ⟨.func, 1, 8⟩ := by kernel_rfl
@[go_sem] theorem zk108 : zeroOk Go.Proofs.Try.prog 108 = true := by kernel_rfl
@[go_sem] theorem zc108 : zcells Go.Proofs.Try.prog 12 108 = [.nilfn] := by kernel_rfl
@[go_sem] theorem ty109 : ty Go.Proofs.Try.prog 109 = ⟨.func, 1, 8⟩ := by kernel_rfl
@[go_sem] theorem zk109 : zeroOk Go.Proofs.Try.prog 109 = true := by kernel_rfl
@[go_sem] theorem zc109 : zcells Go.Proofs.Try.prog 12 109 = [.nilfn] := by kernel_rfl
@[go_sem] theorem ty110 : ty Go.Proofs.Try.prog 110 = ⟨.slice 80, 1, 24⟩ := by kernel_rfl
@[go_sem] theorem zk110 : zeroOk Go.Proofs.Try.prog 110 = true := by kernel_rfl
@[go_sem] theorem zc110 : zcells Go.Proofs.Try.prog 12 110 = [.nils 2] := by kernel_rfl
@[go_sem] theorem ty111 : ty Go.Proofs.Try.prog 111 = ⟨.func, 1, 8⟩ := by kernel_rfl
@[go_sem] theorem zk111 : zeroOk Go.Proofs.Try.prog 111 = true := by kernel_rfl
@[go_sem] theorem zc111 : zcells Go.Proofs.Try.prog 12 111 = [.nilfn] := by kernel_rfl
@[go_sem] theorem ty112 : ty Go.Proofs.Try.prog 112 = ⟨.ptr 102, 1, 8⟩ := by kernel_rfl
@[go_sem] theorem zk112 : zeroOk Go.Proofs.Try.prog 112 = true := by kernel_rfl
@[go_sem] theorem zc112 : zcells Go.Proofs.Try.prog 12 112 = [.d .nilp] := by kernel_rfl
@[go_sem] theorem ty113 : ty Go.Proofs.Try.prog 113 = ⟨.func, 1, 8⟩ := by kernel_rfl
@[go_sem] theorem zk113 : zeroOk Go.Proofs.Try.prog 113 = true := by kernel_rfl
@[go_sem] theorem zc113 : zcells Go.Proofs.Try.prog 12 113 = [.nilfn] := by kernel_rfl
@[go_sem] theorem ty114 : ty Go.Proofs.Try.prog 114 = ⟨.func, 1, 8⟩ := by kernel_rfl
@[go_sem] theorem zk114 : zeroOk Go.Proofs.Try.prog 114 = true := by kernel_rfl
@[go_sem] theorem zc114 : zcells Go.Proofs.Try.prog 12 114 = [.nilfn] := by kernel_rfl
@[go_sem] theorem ty115 : ty Go.Proofs.Try.prog 115 = ⟨.func, 1, 8⟩ := by kernel_rfl
@[go_sem] theorem zk115 : zeroOk Go.Proofs.Try.prog 115 = true := by kernel_rfl
@[go_sem] theorem zc115 : zcells Go.Proofs.Try.prog 12 115 = [.nilfn] := by kernel_rfl
@[go_sem] theorem ty116 : ty Go.Proofs.Try.prog 116 = ⟨.ptr 99, 1, 8⟩ := by kernel_rfl
@[go_sem] theorem zk116 : zeroOk Go.Proofs.Try.prog 116 = true := by kernel_rfl
@[go_sem] theorem zc116 : zcells Go.Proofs.Try.prog 12 116 = [.d .nilp] := by kernel_rfl
@[go_sem] theorem ty117 : ty Go.Proofs.Try.prog 117 = ⟨.func, 1, 8⟩ := by kernel_rfl
@[go_sem] theorem zk117 : zeroOk Go.Proofs.Try.prog 117 = true := by kernel_rfl
@[go_sem] theorem zc117 : zcells Go.Proofs.Try.prog 12 117 = [.nilfn] := by kernel_rfl
@[go_sem] theorem ty118 : ty Go.Proofs.Try.prog 118 = ⟨.func, 1, 8⟩ := by kernel_rfl
@[go_sem] theorem zk118 : zeroOk Go.Proofs.Try.prog 118 = true := by kernel_rfl
@[go_sem] theorem zc118 : zcells Go.Proofs.Try.prog 12 118 = [.nilfn] := by kernel_rfl
@[go_sem] theorem ty119 : ty Go.Proofs.Try.prog 119 = ⟨.func, 1, 8⟩ := by kernel_rfl
@[go_sem] theorem zk119 : zeroOk Go.Proofs.Try.prog 119 = true := by kernel_rfl
@[go_sem] theorem zc119 : zcells Go.Proofs.Try.prog 12 119 = [.nilfn] := by kernel_rfl
@[go_sem] theorem ty120 : ty Go.Proofs.Try.prog 120 = ⟨.ptr 93, 1, 8⟩ := by kernel_rfl
@[go_sem] theorem zk120 : zeroOk Go.Proofs.Try.prog 120 = true := by kernel_rfl
@[go_sem] theorem zc120 : zcells Go.Proofs.Try.prog 12 120 = [.d .nilp] := by kernel_rfl
@[go_sem] theorem ty121 : ty Go.Proofs.Try.prog 121 = ⟨.func, 1, 8⟩ := by kernel_rfl
@[go_sem] theorem zk121 : zeroOk Go.Proofs.Try.prog 121 = true := by kernel_rfl
@[go_sem] theorem zc121 : zcells Go.Proofs.Try.prog 12 121 = [.nilfn] := by kernel_rfl
@[go_sem] theorem ty122 : ty Go.Proofs.Try.prog 122 = ⟨.ptr 28, 1, 8⟩ := by kernel_rfl
@[go_sem] theorem zk122 : zeroOk Go.Proofs.Try.prog 122 = true := by kernel_rfl
@[go_sem] theorem zc122 : zcells Go.Proofs.Try.prog 12 122 = [.d .nilp] := by kernel_rfl
@[go_sem] theorem ty123 : ty Go.Proofs.Try.prog 123 = ⟨.func, 1, 8⟩ := by kernel_rfl
@[go_sem] theorem zk123 : zeroOk Go.Proofs.Try.prog 123 = true := by kernel_rfl
@[go_sem] theorem zc123 : zcells Go.Proofs.Try.prog 12 123 = [.nilfn] := by kernel_rfl
@[go_sem] theorem ty124 : ty Go.Proofs.Try.prog 124 = ⟨.func, 1, 8⟩ := by kernel_rfl
@[go_sem] theorem zk124 : zeroOk Go.Proofs.Try.prog 124 = true := by kernel_rfl
@[go_sem] theorem zc124 : zcells Go.Proofs.Try.prog 12 124 = [.nilfn] := by kernel_rfl
@[go_sem] theorem ty125 : ty Go.Proofs.Try.prog 125 = ⟨.int .i64, 1, 8⟩ := by kernel_rfl
@[go_sem] theorem zk125 : zeroOk Go.Proofs.Try.prog 125 = true := by kernel_rfl
@[go_sem] theorem zc125 : zcells Go.Proofs.Try.prog 12 125 = [.d (.int .i64 0)] := by kernel_rfl
@[go_sem] theorem ty127 : ty Go.Proofs.Try.prog 127 = ⟨.func, 1, 8⟩ := by kernel_rfl
@[go_sem] theorem zk127 : zeroOk Go.Proofs.Try.prog 127 = true := by kernel_rfl
@[go_sem] theorem zc127 : zcells Go.Proofs.Try.prog 12 127 = [.nilfn] := by kernel_rfl
@[go_sem] theorem ty128 : ty Go.Proofs.Try.prog 128 = ⟨.func, 1, 8⟩ := by kernel_rfl
@[go_sem] theorem zk128 : zeroOk Go.Proofs.Try.prog 128 = true := by kernel_rfl
@[go_sem] theorem zc128 : zcells Go.Proofs.Try.prog 12 128 = [.nilfn] := by kernel_rfl
@[go_sem] theorem ty129 : ty Go.Proofs.Try.prog 129 = ⟨.func, 1, 8⟩ := by kernel_rfl
@[go_sem] theorem zk129 : zeroOk Go.Proofs.Try.prog 129 = true := by kernel_rfl
@[go_sem] theorem zc129 : zcells Go.Proofs.Try.prog 12 129 = [.nilfn] := by kernel_rfl
@[go_sem] theorem ty131 : ty Go.Proofs.Try.prog 131 = ⟨.func, 1, 8⟩ := by kernel_rfl
@[go_sem] theorem zk131 : zeroOk Go.Proofs.Try.prog 131 = true := by kernel_rfl
@[go_sem] theorem zc131 : zcells Go.Proofs.Try.prog 12 131 = [.nilfn] := by kernel_rfl
@[go_sem] theorem ty132 : ty Go.Proofs.Try.prog 132 = ⟨.func, 1, 8⟩ := by kernel_rfl
@[go_sem] theorem zk132 : zeroOk Go.Proofs.Try.prog 132 = true := by kernel_rfl
@[go_sem] theorem zc132 : zcells Go.Proofs.Try.prog 12 132 = [.nilfn] := by kernel_rfl
@[go_sem] theorem ty133 : ty Go.Proofs.Try.prog 133 = ⟨.func, 1, 8⟩ := by kernel_rfl
@[go_sem] theorem zk133 : zeroOk Go.Proofs.Try.prog 133 = true := by kernel_rfl
@[go_sem] theorem zc133 : zcells Go.Proofs.Try.prog 12 133 = [.nilfn] := by kernel_rfl
@[go_sem] theorem ty134 : ty Go.Proofs.Try.prog 134 = ⟨.ptr 97, 1, 8⟩ := by kernel_rfl
@[go_sem] theorem zk134 : zeroOk Go.Proofs.Try.prog 134 = true := by kernel_rfl
@[go_sem] theorem zc134 : zcells Go.Proofs.Try.prog 12 134 = [.d .nilp] := by kernel_rfl
@[go_sem] theorem ty135 : ty Go.Proofs.Try.prog 135 = ⟨.func, 1, 8⟩ := by kernel_rfl
@[go_sem] theorem zk135 : zeroOk Go.Proofs.Try.prog 135 = true := by kernel_rfl
@[go_sem] theorem zc135 : zcells Go.Proofs.Try.prog 12 135 = [.nilfn] := by kernel_rfl
@[go_sem] theorem ty136 : ty Go.Proofs.Try.prog 136 = ⟨.func, 1, 8⟩ := by kernel_rfl
@[go_sem] theorem zk136 : zeroOk Go.Proofs.Try.prog 136 = true := by kernel_rfl
@[go_sem] theorem zc136 : zcells Go.Proofs.Try.prog 12 136 = [.nilfn] := by kernel_rfl
@[go_sem] theorem ty137 : ty Go.Proofs.Try.prog 137 = ⟨.int .u64, 1, 8⟩ := by kernel_rfl
@[go_sem] theorem zk137 : zeroOk Go.Proofs.Try.prog 137 = true := by kernel_rfl
@[go_sem] theorem zc137 : zcells Go.Proofs.Try.prog 12 137 = [.d (.int .u64 0)] := by kernel_rfl
@[go_sem] theorem ty138 : ty Go.Proofs.Try.prog 138 = ⟨.func, 1, 8⟩ := by kernel_rfl
@[go_sem] theorem zk138 : zeroOk Go.Proofs.Try.prog 138 = true := by kernel_rfl
@[go_sem] theorem zc138 : zcells Go.Proofs.Try.prog 12 138 = [.nilfn] := by kernel_rfl
@[go_sem] theorem ty139 : ty Go.Proofs.Try.prog 139 = ⟨.func, 1, 8⟩ := by kernel_rfl
@[go_sem] theorem zk139 : zeroOk Go.Proofs.Try.prog 139 = true := by kernel_rfl
@[go_sem] theorem zc139 : zcells Go.Proofs.Try.prog 12 139 = [.nilfn] := by kernel_rfl
@[go_sem] theorem ty140 : ty Go.Proofs.Try.prog 140 = ⟨.func, 1, 8⟩ := by kernel_rfl
@[go_sem] theorem zk140 : zeroOk Go.Proofs.Try.prog 140 = true := by kernel_rfl
@[go_sem] theorem zc140 : zcells Go.Proofs.Try.prog 12 140 = [.nilfn] := by kernel_rfl
@[go_sem] theorem ty141 : ty Go.Proofs.Try.prog 141 = ⟨.ptr 3, 1, 8⟩ := by kernel_rfl
@[go_sem] theorem zk141 : zeroOk Go.Proofs.Try.prog 141 = true := by kernel_rfl
@[go_sem] theorem zc141 : zcells Go.Proofs.Try.prog 12 141 = [.d .nilp] := by kernel_rfl
@[go_sem] theorem ty142 : ty Go.Proofs.Try.prog 142 = ⟨.func, 1, 8⟩ := by kernel_rfl
@[go_sem] theorem zk142 : zeroOk Go.Proofs.Try.prog 142 = true := by kernel_rfl
@[go_sem] theorem zc142 : zcells Go.Proofs.Try.prog 12 142 = [.nilfn] := by kernel_rfl
@[go_sem] theorem ty143 : ty Go.Proofs.Try.prog 143 = ⟨.ptr 95, 1, 8⟩ := by kernel_rfl
@[go_sem] theorem zk143 : zeroOk Go.Proofs.Try.prog 143 = true := by kernel_rfl
@[go_sem] theorem zc143 : zcells Go.Proofs.Try.prog 12 143 = [.d .nilp] := by kernel_rfl
@[go_sem] theorem ty144 : ty Go.Proofs.Try.prog 144 = ⟨.func, 1, 8⟩ := by kernel_rfl
@[go_sem] theorem zk144 : zeroOk Go.Proofs.Try.prog 144 = true := by kernel_rfl
@[go_sem] theorem zc144 : zcells Go.Proofs.Try.prog 12 144 = [.nilfn] := by kernel_rfl
@[go_sem] theorem ty145 : ty Go.Proofs.Try.prog 145 = ⟨.ptr 21, 1, 8⟩ := by kernel_rfl
@[go_sem] theorem zk145 : zeroOk Go.Proofs.Try.prog 145 = true := by kernel_rfl
@[go_sem] theorem zc145 : zcells Go.Proofs.Try.prog 12 145 = [.d .nilp] := by kernel_rfl
@[go_sem] theorem ty146 : ty Go.Proofs.Try.prog 146 = ⟨.func, 1, 8⟩ := by kernel_rfl
@[go_sem] theorem zk146 : zeroOk Go.Proofs.Try.prog 146 = true := by kernel_rfl
@[go_sem] theorem zc146 : zcells Go.Proofs.Try.prog 12 146 = [.nilfn] := by kernel_rfl
@[go_sem] theorem ty148 : ty Go.Proofs.Try.prog 148 = ⟨.func, 1, 8⟩ := by kernel_rfl
@[go_sem] theorem zk148 : zeroOk Go.Proofs.Try.prog 148 = true := by kernel_rfl
@[go_sem] theorem zc148 : zcells Go.Proofs.Try.prog 12 148 = [.nilfn] := by kernel_rfl
@[go_sem] theorem ty149 : ty Go.Proofs.Try.prog 149 = ⟨.func, 1, 8⟩ := by kernel_rfl
@[go_sem] theorem zk149 : zeroOk Go.Proofs.Try.prog 149 = true := by kernel_rfl
@[go_sem] theorem zc149 : zcells Go.Proofs.Try.prog 12 149 = [.nilfn] := by kernel_rfl
@[go_sem] theorem ty150 : ty Go.Proofs.Try.prog 150 = ⟨.ptr 137, 1, 8⟩ := by kernel_rfl
@[go_sem] theorem zk150 : zeroOk Go.Proofs.Try.prog 150 = true := by kernel_rfl
@[go_sem] theorem zc150 : zcells Go.Proofs.Try.prog 12 150 = [.d .nilp] := by kernel_rfl
@[go_sem] theorem ty152 : ty Go.Proofs.Try.prog 152 = ⟨.func, 1, 8⟩ := by kernel_rfl
@[go_sem] theorem zk152 : zeroOk Go.Proofs.Try.prog 152 = true := by kernel_rfl
@[go_sem] theorem zc152 : zcells Go.Proofs.Try.prog 12 152 = [.nilfn] := by kernel_rfl
@[go_sem] theorem ty153 : ty Go.Proofs.Try.prog 153 = ⟨.func, 1, 8⟩ := by kernel_rfl
@[go_sem] theorem zk153 : zeroOk Go.Proofs.Try.prog 153 = true := by kernel_rfl
@[go_sem] theorem zc153 : zcells Go.Proofs.Try.prog 12 153 = [.nilfn] := by kernel_rfl
@[go_sem] theorem ty154 : ty Go.Proofs.Try.prog 154 = ⟨.func, 1, 8⟩ := by kernel_rfl
@[go_sem] theorem zk154 : zeroOk Go.Proofs.Try.prog 154 = true := by kernel_rfl
@[go_sem] theorem zc154 : zcells Go.Proofs.Try.prog 12 154 = [.nilfn] := by kernel_rfl
@[go_sem] theorem ty155 : ty Go.Proofs.Try.prog 155 = ⟨.func, 1, 8⟩ := by kernel_rfl
@[go_sem] theorem zk155 : zeroOk Go.Proofs.Try.prog 155 = true := by kernel_rfl
@[go_sem] theorem zc155 : zcells Go.Proofs.Try.prog 12 155 = [.nilfn] := by kernel_rfl
@[go_sem] theorem ty156 : ty Go.Proofs.Try.prog 156 = ⟨.func, 1, 8⟩ := by kernel_rfl
@[go_sem] theorem zk156 : zeroOk Go.Proofs.Try.prog 156 = true := by kernel_rfl
@[go_sem] theorem zc156 : zcells Go.Proofs.Try.prog 12 156 = [.nilfn] := by kernel_rfl
@[go_sem] theorem ty157 : ty Go.Proofs.Try.prog 157 = ⟨.struct [(0, 17), (1, 17), (2, 17), (3, 9)], 4, 40⟩ := by kernel_rfl
@[go_sem] theorem zk157 : zeroOk Go.Proofs.Try.prog 157 = true := by kernel_rfl
@[go_sem] theorem zc157 : zcells Go.Proofs.Try.prog 12 157 = [.d .nilp, .d .nilp, .d .nilp, .d (.str [])] := by kernel_rfl
@[go_sem] theorem eg157 : (Go.Proofs.Try.prog.eqGuardType Go.Proofs.Try.prog.depth 157) = false := by kernel_rfl
@[go_sem] theorem ty159 : ty Go.Proofs.Try.prog 159 = ⟨.arr 0 16, 0, 0⟩ := by kernel_rfl
@[go_sem] theorem zk159 : zeroOk Go.Proofs.Try.prog 159 = true := by kernel_rfl
@[go_sem] theorem zc159 : zcells Go.Proofs.Try.prog 12 159 = [] := by kernel_rfl
@[go_sem] theorem eg159 : (Go.Proofs.Try.prog.eqGuardType Go.Proofs.Try.prog.depth 159) = false := by kernel_rfl
@[go_sem] theorem ty160 : ty Go.Proofs.Try.prog 160 = ⟨.bst [(0, 159)], 0, 0⟩ := by kernel_rfl
@[go_sem] theorem zk160 : zeroOk Go.Proofs.Try.prog 160 = true := by kernel_rfl
@[go_sem] theorem zc160 : zcells Go.Proofs.Try.prog 12 160 = [] := by kernel_rfl
@[go_sem] theorem ty162 : ty Go.Proofs.Try.prog 162 = ⟨.func, 1, 8⟩ := by kernel_rfl
@[go_sem] theorem zk162 : zeroOk Go.Proofs.Try.prog 162 = true := by kernel_rfl
@[go_sem] theorem zc162 : zcells Go.Proofs.Try.prog 12 162 = [.nilfn] := by kernel_rfl
@[go_sem] theorem ty163 : ty Go.Proofs.Try.prog 163 = ⟨.int .u8, 1, 1⟩ := by kernel_rfl
@[go_sem] theorem zk163 : zeroOk Go.Proofs.Try.prog 163 = true := by kernel_rfl
@[go_sem] theorem zc163 : zcells Go.Proofs.Try.prog 12 163 = [.d (.int .u8 0)] := by kernel_rfl
@[go_sem] theorem ty164 : ty Go.Proofs.Try.prog 164 = ⟨.int .u8, 1, 1⟩ := by kernel_rfl
@[go_sem] theorem zk164 : zeroOk Go.Proofs.Try.prog 164 = true := by kernel_rfl
@[go_sem] theorem zc164 : zcells Go.Proofs.Try.prog 12 164 = [.d (.int .u8 0)] := by kernel_rfl
@[go_sem] theorem ty165 : ty Go.Proofs.Try.prog 165 = ⟨.func, 1, 8⟩ := by kernel_rfl
@[go_sem] theorem zk165 : zeroOk Go.Proofs.Try.prog 165 = true := by kernel_rfl
@[go_sem] theorem zc165 : zcells Go.Proofs.Try.prog 12 165 = [.nilfn] := by kernel_rfl
@[go_sem] theorem ty166 : ty Go.Proofs.Try.prog 166 = ⟨.ptr 5, 1, 8⟩ := by kernel_rfl
@[go_sem] theorem zk166 : zeroOk Go.Proofs.Try.prog 166 = true := by kernel_rfl
@[go_sem] theorem zc166 : zcells Go.Proofs.Try.prog 12 166 = [.d .nilp] := by kernel_rfl
@[go_sem] theorem ty167 : ty Go.Proofs.Try.prog 167 = ⟨.int .i32, 1, 4⟩ := by kernel_rfl
@[go_sem] theorem zk167 : zeroOk Go.Proofs.Try.prog 167 = true := by kernel_rfl
@[go_sem] theorem zc167 : zcells Go.Proofs.Try.prog 12 167 = [.d (.int .i32 0)] := by kernel_rfl
@[go_sem] theorem ty168 : ty Go.Proofs.Try.prog 168 = ⟨.int .i32, 1, 4⟩ := by kernel_rfl
@[go_sem] theorem zk168 : zeroOk Go.Proofs.Try.prog 168 = true := by kernel_rfl
@[go_sem] theorem zc168 : zcells Go.Proofs.Try.prog 12 168 = [.d (.int .i32 0)] := by kernel_rfl
@[go_sem] theorem ty169 : ty Go.Proofs.Try.prog 169 = ⟨.struct [(0, 12), (1, 12), (2, 28), (3, 163), (4, 5), (5, 5), (6, 164), (7, 165), (8, 166), (9, 167), (10, 168)], 11, 48⟩ := by kernel_rfl
@[go_sem] theorem zk169 : zeroOk Go.Proofs.Try.prog 169 = true := by kernel_rfl
@[go_sem] theorem zc169 : zcells Go.Proofs.Try.prog 12 169 = [.d (.int .u64 0), .d (.int .u64 0), .d (.int .u32 0), .d (.int .u8 0), .d (.int .u8 0), .d (.int .u8 0), .d (.int .u8 0), .nilfn, .d .nilp, .d (.int .i32 0), .d (.int .i32 0)] := by kernel_rfl
@[go_sem] theorem eg169 : (Go.Proofs.Try.prog.eqGuardType Go.Proofs.Try.prog.depth 169) = false := by kernel_rfl
@[go_sem] theorem ty170 : ty Go.Proofs.Try.prog 170 = ⟨.struct [(0, 12), (1, 12), (2, 28), (3, 163), (4, 5), (5, 5), (6, 164), (7, 165), (8, 166), (9, 167), (10, 168)], 11, 48⟩ := by kernel_rfl
@[go_sem] theorem zk170 : zeroOk Go.Proofs.Try.prog 170 = true := by kernel_rfl
@[go_sem] theorem zc170 : zcells Go.Proofs.Try.prog 12 170 = [.d (.int .u64 0), .d (.int .u64 0), .d (.int .u32 0), .d (.int .u8 0), .d (.int .u8 0), .d (.int .u8 0), .d (.int .u8 0), .nilfn, .d .nilp, .d (.int .i32 0), .d (.int .i32 0)] := by kernel_rfl
@[go_sem] theorem eg170 : (Go.Proofs.Try.prog.eqGuardType Go.Proofs.Try.prog.depth 170) = false := by kernel_rfl

end Go.Aw
