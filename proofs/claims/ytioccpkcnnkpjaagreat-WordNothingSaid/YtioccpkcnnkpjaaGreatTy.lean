/-
  Facts on the types of this seat, by program (tyfacts.py).
-/
import Derived.Test.YtioccpkcnnkpjaaGreatAwCall
import Derived.Test.YtioccpkcnnkpjaaGreatProg
import Derived.KernelRfl
namespace Go.Aw
set_option linter.unusedVariables false
open Go Go.Proofs

@[go_sem] theorem ty1 : ty Go.Proofs.Tryz.prog 1 = ⟨.func, 1, 8⟩ := by kernel_rfl
@[go_sem] theorem zk1 : zeroOk Go.Proofs.Tryz.prog 1 = true := by kernel_rfl
@[go_sem] theorem tt1 : typedT Go.Proofs.Tryz.prog 12 1 = false := by kernel_rfl
@[go_sem] theorem zc1 : zcells Go.Proofs.Tryz.prog 12 1 = [.nilfn] := by kernel_rfl
@[go_sem] theorem ty2 : ty Go.Proofs.Tryz.prog 2 = ⟨.int .i64, 1, 8⟩ := by kernel_rfl
@[go_sem] theorem zk2 : zeroOk Go.Proofs.Tryz.prog 2 = true := by kernel_rfl
@[go_sem] theorem tt2 : typedT Go.Proofs.Tryz.prog 12 2 = false := by kernel_rfl
@[go_sem] theorem zc2 : zcells Go.Proofs.Tryz.prog 12 2 = [.d (.int .i64 0)] := by kernel_rfl
@[go_sem] theorem ty3 : ty Go.Proofs.Tryz.prog 3 = ⟨.int .i64, 1, 8⟩ := by kernel_rfl
@[go_sem] theorem zk3 : zeroOk Go.Proofs.Tryz.prog 3 = true := by kernel_rfl
@[go_sem] theorem tt3 : typedT Go.Proofs.Tryz.prog 12 3 = false := by kernel_rfl
@[go_sem] theorem zc3 : zcells Go.Proofs.Tryz.prog 12 3 = [.d (.int .i64 0)] := by kernel_rfl
@[go_sem] theorem ty4 : ty Go.Proofs.Tryz.prog 4 = ⟨.bool, 1, 1⟩ := by kernel_rfl
@[go_sem] theorem zk4 : zeroOk Go.Proofs.Tryz.prog 4 = true := by kernel_rfl
@[go_sem] theorem tt4 : typedT Go.Proofs.Tryz.prog 12 4 = false := by kernel_rfl
@[go_sem] theorem zc4 : zcells Go.Proofs.Tryz.prog 12 4 = [.d (.bool false)] := by kernel_rfl
@[go_sem] theorem ty5 : ty Go.Proofs.Tryz.prog 5 = ⟨.int .u8, 1, 1⟩ := by kernel_rfl
@[go_sem] theorem zk5 : zeroOk Go.Proofs.Tryz.prog 5 = true := by kernel_rfl
@[go_sem] theorem tt5 : typedT Go.Proofs.Tryz.prog 12 5 = false := by kernel_rfl
@[go_sem] theorem zc5 : zcells Go.Proofs.Tryz.prog 12 5 = [.d (.int .u8 0)] := by kernel_rfl
@[go_sem] theorem ty6 : ty Go.Proofs.Tryz.prog 6 = ⟨.int .u8, 1, 1⟩ := by kernel_rfl
@[go_sem] theorem zk6 : zeroOk Go.Proofs.Tryz.prog 6 = true := by kernel_rfl
@[go_sem] theorem tt6 : typedT Go.Proofs.Tryz.prog 12 6 = false := by kernel_rfl
@[go_sem] theorem zc6 : zcells Go.Proofs.Tryz.prog 12 6 = [.d (.int .u8 0)] := by kernel_rfl
@[go_sem] theorem ty7 : ty Go.Proofs.Tryz.prog 7 = ⟨.struct [(0, 2), (1, 3), (2, 4), (3, 6)], 4, 24⟩ := by kernel_rfl
@[go_sem] theorem zk7 : zeroOk Go.Proofs.Tryz.prog 7 = true := by kernel_rfl
@[go_sem] theorem tt7 : typedT Go.Proofs.Tryz.prog 12 7 = false := by kernel_rfl
@[go_sem] theorem zc7 : zcells Go.Proofs.Tryz.prog 12 7 = [.d (.int .i64 0), .d (.int .i64 0), .d (.bool false), .d (.int .u8 0)] := by kernel_rfl
@[go_sem] theorem eg7 : (Go.Proofs.Tryz.prog.eqGuardType Go.Proofs.Tryz.prog.depth 7) = false := by kernel_rfl
@[go_sem] theorem ty9 : ty Go.Proofs.Tryz.prog 9 = ⟨.str, 1, 16⟩ := by kernel_rfl
@[go_sem] theorem zk9 : zeroOk Go.Proofs.Tryz.prog 9 = true := by kernel_rfl
@[go_sem] theorem tt9 : typedT Go.Proofs.Tryz.prog 12 9 = false := by kernel_rfl
@[go_sem] theorem zc9 : zcells Go.Proofs.Tryz.prog 12 9 = [.d (.str [])] := by kernel_rfl
@[go_sem] theorem ty12 : ty Go.Proofs.Tryz.prog 12 = ⟨.int .u64, 1, 8⟩ := by kernel_rfl
@[go_sem] theorem zk12 : zeroOk Go.Proofs.Tryz.prog 12 = true := by kernel_rfl
@[go_sem] theorem tt12 : typedT Go.Proofs.Tryz.prog 12 12 = false := by kernel_rfl
@[go_sem] theorem zc12 : zcells Go.Proofs.Tryz.prog 12 12 = [.d (.int .u64 0)] := by kernel_rfl
@[go_sem] theorem ty13 : ty Go.Proofs.Tryz.prog 13 = ⟨.struct [(0, 9), (1, 12)], 2, 24⟩ := by kernel_rfl
@[go_sem] theorem zk13 : zeroOk Go.Proofs.Tryz.prog 13 = true := by kernel_rfl
@[go_sem] theorem tt13 : typedT Go.Proofs.Tryz.prog 12 13 = false := by kernel_rfl
@[go_sem] theorem zc13 : zcells Go.Proofs.Tryz.prog 12 13 = [.d (.str []), .d (.int .u64 0)] := by kernel_rfl
@[go_sem] theorem eg13 : (Go.Proofs.Tryz.prog.eqGuardType Go.Proofs.Tryz.prog.depth 13) = false := by kernel_rfl
@[go_sem] theorem ty15 : ty Go.Proofs.Tryz.prog 15 = ⟨.ptr 214, 1, 8⟩ := by kernel_rfl
@[go_sem] theorem zk15 : zeroOk Go.Proofs.Tryz.prog 15 = true := by kernel_rfl
@[go_sem] theorem tt15 : typedT Go.Proofs.Tryz.prog 12 15 = false := by kernel_rfl
@[go_sem] theorem zc15 : zcells Go.Proofs.Tryz.prog 12 15 = [.d .nilp] := by kernel_rfl
@[go_sem] theorem ty16 : ty Go.Proofs.Tryz.prog 16 = ⟨.ptr 217, 1, 8⟩ := by kernel_rfl
@[go_sem] theorem zk16 : zeroOk Go.Proofs.Tryz.prog 16 = true := by kernel_rfl
@[go_sem] theorem tt16 : typedT Go.Proofs.Tryz.prog 12 16 = false := by kernel_rfl
@[go_sem] theorem zc16 : zcells Go.Proofs.Tryz.prog 12 16 = [.d .nilp] := by kernel_rfl
@[go_sem] theorem ty17 : ty Go.Proofs.Tryz.prog 17 = ⟨.ptr 224, 1, 8⟩ := by kernel_rfl
@[go_sem] theorem zk17 : zeroOk Go.Proofs.Tryz.prog 17 = true := by kernel_rfl
@[go_sem] theorem tt17 : typedT Go.Proofs.Tryz.prog 12 17 = false := by kernel_rfl
@[go_sem] theorem zc17 : zcells Go.Proofs.Tryz.prog 12 17 = [.d .nilp] := by kernel_rfl
@[go_sem] theorem ty18 : ty Go.Proofs.Tryz.prog 18 = ⟨.struct [(0, 17)], 1, 8⟩ := by kernel_rfl
@[go_sem] theorem zk18 : zeroOk Go.Proofs.Tryz.prog 18 = true := by kernel_rfl
@[go_sem] theorem tt18 : typedT Go.Proofs.Tryz.prog 12 18 = false := by kernel_rfl
@[go_sem] theorem zc18 : zcells Go.Proofs.Tryz.prog 12 18 = [.d .nilp] := by kernel_rfl
@[go_sem] theorem eg18 : (Go.Proofs.Tryz.prog.eqGuardType Go.Proofs.Tryz.prog.depth 18) = false := by kernel_rfl
@[go_sem] theorem ty19 : ty Go.Proofs.Tryz.prog 19 = ⟨.struct [(0, 17)], 1, 8⟩ := by kernel_rfl
@[go_sem] theorem zk19 : zeroOk Go.Proofs.Tryz.prog 19 = true := by kernel_rfl
@[go_sem] theorem tt19 : typedT Go.Proofs.Tryz.prog 12 19 = false := by kernel_rfl
@[go_sem] theorem zc19 : zcells Go.Proofs.Tryz.prog 12 19 = [.d .nilp] := by kernel_rfl
@[go_sem] theorem eg19 : (Go.Proofs.Tryz.prog.eqGuardType Go.Proofs.Tryz.prog.depth 19) = false := by kernel_rfl
@[go_sem] theorem ty20 : ty Go.Proofs.Tryz.prog 20 = ⟨.iface, 1, 16⟩ := by kernel_rfl
@[go_sem] theorem zk20 : zeroOk Go.Proofs.Tryz.prog 20 = true := by kernel_rfl
@[go_sem] theorem tt20 : typedT Go.Proofs.Tryz.prog 12 20 = false := by kernel_rfl
@[go_sem] theorem zc20 : zcells Go.Proofs.Tryz.prog 12 20 = [.d .nilif] := by kernel_rfl
@[go_sem] theorem ty21 : ty Go.Proofs.Tryz.prog 21 = ⟨.int .i32, 1, 4⟩ := by kernel_rfl
@[go_sem] theorem zk21 : zeroOk Go.Proofs.Tryz.prog 21 = true := by kernel_rfl
@[go_sem] theorem tt21 : typedT Go.Proofs.Tryz.prog 12 21 = false := by kernel_rfl
@[go_sem] theorem zc21 : zcells Go.Proofs.Tryz.prog 12 21 = [.d (.int .i32 0)] := by kernel_rfl
@[go_sem] theorem ty22 : ty Go.Proofs.Tryz.prog 22 = ⟨.int .u64, 1, 8⟩ := by kernel_rfl
@[go_sem] theorem zk22 : zeroOk Go.Proofs.Tryz.prog 22 = true := by kernel_rfl
@[go_sem] theorem tt22 : typedT Go.Proofs.Tryz.prog 12 22 = false := by kernel_rfl
@[go_sem] theorem zc22 : zcells Go.Proofs.Tryz.prog 12 22 = [.d (.int .u64 0)] := by kernel_rfl
@[go_sem] theorem ty23 : ty Go.Proofs.Tryz.prog 23 = ⟨.slice 9, 1, 24⟩ := by kernel_rfl
@[go_sem] theorem zk23 : zeroOk Go.Proofs.Tryz.prog 23 = true := by kernel_rfl
@[go_sem] theorem tt23 : typedT Go.Proofs.Tryz.prog 12 23 = false := by kernel_rfl
@[go_sem] theorem zc23 : zcells Go.Proofs.Tryz.prog 12 23 = [.nils 1] := by kernel_rfl
@[go_sem] theorem ty24 : ty Go.Proofs.Tryz.prog 24 = ⟨.struct [(0, 22), (1, 23)], 2, 32⟩ := by kernel_rfl
@[go_sem] theorem zk24 : zeroOk Go.Proofs.Tryz.prog 24 = true := by kernel_rfl
@[go_sem] theorem tt24 : typedT Go.Proofs.Tryz.prog 12 24 = false := by kernel_rfl
@[go_sem] theorem zc24 : zcells Go.Proofs.Tryz.prog 12 24 = [.d (.int .u64 0), .nils 1] := by kernel_rfl
@[go_sem] theorem eg24 : (Go.Proofs.Tryz.prog.eqGuardType Go.Proofs.Tryz.prog.depth 24) = false := by kernel_rfl
@[go_sem] theorem ty25 : ty Go.Proofs.Tryz.prog 25 = ⟨.struct [(0, 22), (1, 23)], 2, 32⟩ := by kernel_rfl
@[go_sem] theorem zk25 : zeroOk Go.Proofs.Tryz.prog 25 = true := by kernel_rfl
@[go_sem] theorem tt25 : typedT Go.Proofs.Tryz.prog 12 25 = false := by kernel_rfl
@[go_sem] theorem zc25 : zcells Go.Proofs.Tryz.prog 12 25 = [.d (.int .u64 0), .nils 1] := by kernel_rfl
@[go_sem] theorem si25 : (Go.Proofs.Tryz.prog.stoodInHeld 25) = false := by kernel_rfl
@[go_sem] theorem eg25 : (Go.Proofs.Tryz.prog.eqGuardType Go.Proofs.Tryz.prog.depth 25) = false := by kernel_rfl
@[go_sem] theorem ty26 : ty Go.Proofs.Tryz.prog 26 = ⟨.func, 1, 8⟩ := by kernel_rfl
@[go_sem] theorem zk26 : zeroOk Go.Proofs.Tryz.prog 26 = true := by kernel_rfl
@[go_sem] theorem tt26 : typedT Go.Proofs.Tryz.prog 12 26 = false := by kernel_rfl
@[go_sem] theorem zc26 : zcells Go.Proofs.Tryz.prog 12 26 = [.nilfn] := by kernel_rfl
@[go_sem] theorem ty27 : ty Go.Proofs.Tryz.prog 27 = ⟨.func, 1, 8⟩ := by kernel_rfl
@[go_sem] theorem zk27 : zeroOk Go.Proofs.Tryz.prog 27 = true := by kernel_rfl
@[go_sem] theorem tt27 : typedT Go.Proofs.Tryz.prog 12 27 = false := by kernel_rfl
@[go_sem] theorem zc27 : zcells Go.Proofs.Tryz.prog 12 27 = [.nilfn] := by kernel_rfl
@[go_sem] theorem ty28 : ty Go.Proofs.Tryz.prog 28 = ⟨.slice 22, 1, 24⟩ := by kernel_rfl
@[go_sem] theorem zk28 : zeroOk Go.Proofs.Tryz.prog 28 = true := by kernel_rfl
@[go_sem] theorem tt28 : typedT Go.Proofs.Tryz.prog 12 28 = false := by kernel_rfl
@[go_sem] theorem zc28 : zcells Go.Proofs.Tryz.prog 12 28 = [.nils 1] := by kernel_rfl
@[go_sem] theorem ty30 : ty Go.Proofs.Tryz.prog 30 = ⟨.func, 1, 8⟩ := by kernel_rfl
@[go_sem] theorem zk30 : zeroOk Go.Proofs.Tryz.prog 30 = true := by kernel_rfl
@[go_sem] theorem tt30 : typedT Go.Proofs.Tryz.prog 12 30 = false := by kernel_rfl
@[go_sem] theorem zc30 : zcells Go.Proofs.Tryz.prog 12 30 = [.nilfn] := by kernel_rfl
@[go_sem] theorem ty31 : ty Go.Proofs.Tryz.prog 31 = ⟨.func, 1, 8⟩ := by kernel_rfl
@[go_sem] theorem zk31 : zeroOk Go.Proofs.Tryz.prog 31 = true := by kernel_rfl
@[go_sem] theorem tt31 : typedT Go.Proofs.Tryz.prog 12 31 = false := by kernel_rfl
@[go_sem] theorem zc31 : zcells Go.Proofs.Tryz.prog 12 31 = [.nilfn] := by kernel_rfl
@[go_sem] theorem ty32 : ty Go.Proofs.Tryz.prog 32 = ⟨.func, 1, 8⟩ := by kernel_rfl
@[go_sem] theorem zk32 : zeroOk Go.Proofs.Tryz.prog 32 = true := by kernel_rfl
@[go_sem] theorem tt32 : typedT Go.Proofs.Tryz.prog 12 32 = false := by kernel_rfl
@[go_sem] theorem zc32 : zcells Go.Proofs.Tryz.prog 12 32 = [.nilfn] := by kernel_rfl
@[go_sem] theorem ty33 : ty Go.Proofs.Tryz.prog 33 = ⟨.func, 1, 8⟩ := by kernel_rfl
@[go_sem] theorem zk33 : zeroOk Go.Proofs.Tryz.prog 33 = true := by kernel_rfl
@[go_sem] theorem tt33 : typedT Go.Proofs.Tryz.prog 12 33 = false := by kernel_rfl
@[go_sem] theorem zc33 : zcells Go.Proofs.Tryz.prog 12 33 = [.nilfn] := by kernel_rfl
@[go_sem] theorem ty34 : ty Go.Proofs.Tryz.prog 34 = ⟨.func, 1, 8⟩ := by kernel_rfl
@[go_sem] theorem zk34 : zeroOk Go.Proofs.Tryz.prog 34 = true := by kernel_rfl
@[go_sem] theorem tt34 : typedT Go.Proofs.Tryz.prog 12 34 = false := by kernel_rfl
@[go_sem] theorem zc34 : zcells Go.Proofs.Tryz.prog 12 34 = [.nilfn] := by kernel_rfl
@[go_sem] theorem ty35 : ty Go.Proofs.Tryz.prog 35 = ⟨.slice 49, 1, 24⟩ := by kernel_rfl
@[go_sem] theorem zk35 : zeroOk Go.Proofs.Tryz.prog 35 = true := by kernel_rfl
@[go_sem] theorem tt35 : typedT Go.Proofs.Tryz.prog 12 35 = false := by kernel_rfl
@[go_sem] theorem zc35 : zcells Go.Proofs.Tryz.prog 12 35 = [.nils 6] := by kernel_rfl
@[go_sem] theorem ty36 : ty Go.Proofs.Tryz.prog 36 = ⟨.slice 47, 1, 24⟩ := by kernel_rfl
@[go_sem] theorem zk36 : zeroOk Go.Proofs.Tryz.prog 36 = true := by kernel_rfl
@[go_sem] theorem tt36 : typedT Go.Proofs.Tryz.prog 12 36 = false := by kernel_rfl
@[go_sem] theorem zc36 : zcells Go.Proofs.Tryz.prog 12 36 = [.nils 1] := by kernel_rfl
@[go_sem] theorem ty37 : ty Go.Proofs.Tryz.prog 37 = ⟨.struct [(0, 3), (1, 9), (2, 4), (3, 4), (4, 36)], 5, 56⟩ := by kernel_rfl
@[go_sem] theorem zk37 : zeroOk Go.Proofs.Tryz.prog 37 = true := by kernel_rfl
@[go_sem] theorem tt37 : typedT Go.Proofs.Tryz.prog 12 37 = false := by kernel_rfl
@[go_sem] theorem zc37 : zcells Go.Proofs.Tryz.prog 12 37 = [.d (.int .i64 0), .d (.str []), .d (.bool false), .d (.bool false), .nils 1] := by kernel_rfl
@[go_sem] theorem eg37 : (Go.Proofs.Tryz.prog.eqGuardType Go.Proofs.Tryz.prog.depth 37) = false := by kernel_rfl
@[go_sem] theorem ty38 : ty Go.Proofs.Tryz.prog 38 = ⟨.struct [(0, 3), (1, 9), (2, 4), (3, 4), (4, 36)], 5, 56⟩ := by kernel_rfl
@[go_sem] theorem zk38 : zeroOk Go.Proofs.Tryz.prog 38 = true := by kernel_rfl
@[go_sem] theorem tt38 : typedT Go.Proofs.Tryz.prog 12 38 = false := by kernel_rfl
@[go_sem] theorem zc38 : zcells Go.Proofs.Tryz.prog 12 38 = [.d (.int .i64 0), .d (.str []), .d (.bool false), .d (.bool false), .nils 1] := by kernel_rfl
@[go_sem] theorem si38 : (Go.Proofs.Tryz.prog.stoodInHeld 38) = false := by kernel_rfl
@[go_sem] theorem eg38 : (Go.Proofs.Tryz.prog.eqGuardType Go.Proofs.Tryz.prog.depth 38) = false := by kernel_rfl
@[go_sem] theorem ty40 : ty Go.Proofs.Tryz.prog 40 = ⟨.func, 1, 8⟩ := by kernel_rfl
@[go_sem] theorem zk40 : zeroOk Go.Proofs.Tryz.prog 40 = true := by kernel_rfl
@[go_sem] theorem tt40 : typedT Go.Proofs.Tryz.prog 12 40 = false := by kernel_rfl
@[go_sem] theorem zc40 : zcells Go.Proofs.Tryz.prog 12 40 = [.nilfn] := by kernel_rfl
@[go_sem] theorem ty41 : ty Go.Proofs.Tryz.prog 41 = ⟨.func, 1, 8⟩ := by kernel_rfl
@[go_sem] theorem zk41 : zeroOk Go.Proofs.Tryz.prog 41 = true := by kernel_rfl
@[go_sem] theorem tt41 : typedT Go.Proofs.Tryz.prog 12 41 = false := by kernel_rfl
@[go_sem] theorem zc41 : zcells Go.Proofs.Tryz.prog 12 41 = [.nilfn] := by kernel_rfl
@[go_sem] theorem ty42 : ty Go.Proofs.Tryz.prog 42 = ⟨.func, 1, 8⟩ := by kernel_rfl
@[go_sem] theorem zk42 : zeroOk Go.Proofs.Tryz.prog 42 = true := by kernel_rfl
@[go_sem] theorem tt42 : typedT Go.Proofs.Tryz.prog 12 42 = false := by kernel_rfl
@[go_sem] theorem zc42 : zcells Go.Proofs.Tryz.prog 12 42 = [.nilfn] := by kernel_rfl
@[go_sem] theorem ty43 : ty Go.Proofs.Tryz.prog 43 = ⟨.func, 1, 8⟩ := by kernel_rfl
@[go_sem] theorem zk43 : zeroOk Go.Proofs.Tryz.prog 43 = true := by kernel_rfl
@[go_sem] theorem tt43 : typedT Go.Proofs.Tryz.prog 12 43 = false := by kernel_rfl
@[go_sem] theorem zc43 : zcells Go.Proofs.Tryz.prog 12 43 = [.nilfn] := by kernel_rfl
@[go_sem] theorem ty44 : ty Go.Proofs.Tryz.prog 44 = ⟨.func, 1, 8⟩ := by kernel_rfl
@[go_sem] theorem zk44 : zeroOk Go.Proofs.Tryz.prog 44 = true := by kernel_rfl
@[go_sem] theorem tt44 : typedT Go.Proofs.Tryz.prog 12 44 = false := by kernel_rfl
@[go_sem] theorem zc44 : zcells Go.Proofs.Tryz.prog 12 44 = [.nilfn] := by kernel_rfl
@[go_sem] theorem ty45 : ty Go.Proofs.Tryz.prog 45 = ⟨.func, 1, 8⟩ := by kernel_rfl
@[go_sem] theorem zk45 : zeroOk Go.Proofs.Tryz.prog 45 = true := by kernel_rfl
@[go_sem] theorem tt45 : typedT Go.Proofs.Tryz.prog 12 45 = false := by kernel_rfl
@[go_sem] theorem zc45 : zcells Go.Proofs.Tryz.prog 12 45 = [.nilfn] := by kernel_rfl
@[go_sem] theorem ty46 : ty Go.Proofs.Tryz.prog 46 = ⟨.func, 1, 8⟩ := by kernel_rfl
@[go_sem] theorem zk46 : zeroOk Go.Proofs.Tryz.prog 46 = true := by kernel_rfl
@[go_sem] theorem tt46 : typedT Go.Proofs.Tryz.prog 12 46 = false := by kernel_rfl
@[go_sem] theorem zc46 : zcells Go.Proofs.Tryz.prog 12 46 = [.nilfn] := by kernel_rfl
@[go_sem] theorem ty47 : ty Go.Proofs.Tryz.prog 47 = ⟨.int .u32, 1, 4⟩ := by kernel_rfl
@[go_sem] theorem zk47 : zeroOk Go.Proofs.Tryz.prog 47 = true := by kernel_rfl
@[go_sem] theorem tt47 : typedT Go.Proofs.Tryz.prog 12 47 = false := by kernel_rfl
@[go_sem] theorem zc47 : zcells Go.Proofs.Tryz.prog 12 47 = [.d (.int .u32 0)] := by kernel_rfl
@[go_sem] theorem ty48 : ty Go.Proofs.Tryz.prog 48 = ⟨.struct [(0, 3), (1, 3), (2, 22), (3, 22), (4, 47), (5, 9)], 6, 56⟩ := by kernel_rfl
@[go_sem] theorem zk48 : zeroOk Go.Proofs.Tryz.prog 48 = true := by kernel_rfl
@[go_sem] theorem tt48 : typedT Go.Proofs.Tryz.prog 12 48 = false := by kernel_rfl
@[go_sem] theorem zc48 : zcells Go.Proofs.Tryz.prog 12 48 = [.d (.int .i64 0), .d (.int .i64 0), .d (.int .u64 0), .d (.int .u64 0), .d (.int .u32 0), .d (.str [])] := by kernel_rfl
@[go_sem] theorem eg48 : (Go.Proofs.Tryz.prog.eqGuardType Go.Proofs.Tryz.prog.depth 48) = false := by kernel_rfl
@[go_sem] theorem ty49 : ty Go.Proofs.Tryz.prog 49 = ⟨.struct [(0, 3), (1, 3), (2, 22), (3, 22), (4, 47), (5, 9)], 6, 56⟩ := by kernel_rfl
@[go_sem] theorem zk49 : zeroOk Go.Proofs.Tryz.prog 49 = true := by kernel_rfl
@[go_sem] theorem tt49 : typedT Go.Proofs.Tryz.prog 12 49 = false := by kernel_rfl
@[go_sem] theorem zc49 : zcells Go.Proofs.Tryz.prog 12 49 = [.d (.int .i64 0), .d (.int .i64 0), .d (.int .u64 0), .d (.int .u64 0), .d (.int .u32 0), .d (.str [])] := by kernel_rfl
@[go_sem] theorem si49 : (Go.Proofs.Tryz.prog.stoodInHeld 49) = false := by kernel_rfl
@[go_sem] theorem eg49 : (Go.Proofs.Tryz.prog.eqGuardType Go.Proofs.Tryz.prog.depth 49) = false := by kernel_rfl
@[go_sem] theorem ty50 : ty Go.Proofs.Tryz.prog 50 = ⟨.int .i64, 1, 8⟩ := by kernel_rfl
@[go_sem] theorem zk50 : zeroOk Go.Proofs.Tryz.prog 50 = true := by kernel_rfl
@[go_sem] theorem tt50 : typedT Go.Proofs.Tryz.prog 12 50 = false := by kernel_rfl
@[go_sem] theorem zc50 : zcells Go.Proofs.Tryz.prog 12 50 = [.d (.int .i64 0)] := by kernel_rfl
@[go_sem] theorem ty52 : ty Go.Proofs.Tryz.prog 52 = ⟨.func, 1, 8⟩ := by kernel_rfl
@[go_sem] theorem zk52 : zeroOk Go.Proofs.Tryz.prog 52 = true := by kernel_rfl
@[go_sem] theorem tt52 : typedT Go.Proofs.Tryz.prog 12 52 = false := by kernel_rfl
@[go_sem] theorem zc52 : zcells Go.Proofs.Tryz.prog 12 52 = [.nilfn] := by kernel_rfl
@[go_sem] theorem ty53 : ty Go.Proofs.Tryz.prog 53 = ⟨.func, 1, 8⟩ := by kernel_rfl
@[go_sem] theorem zk53 : zeroOk Go.Proofs.Tryz.prog 53 = true := by kernel_rfl
@[go_sem] theorem tt53 : typedT Go.Proofs.Tryz.prog 12 53 = false := by kernel_rfl
@[go_sem] theorem zc53 : zcells Go.Proofs.Tryz.prog 12 53 = [.nilfn] := by kernel_rfl
@[go_sem] theorem ty54 : ty Go.Proofs.Tryz.prog 54 = ⟨.func, 1, 8⟩ := by kernel_rfl
@[go_sem] theorem zk54 : zeroOk Go.Proofs.Tryz.prog 54 = true := by kernel_rfl
@[go_sem] theorem tt54 : typedT Go.Proofs.Tryz.prog 12 54 = false := by kernel_rfl
@[go_sem] theorem zc54 : zcells Go.Proofs.Tryz.prog 12 54 = [.nilfn] := by kernel_rfl
@[go_sem] theorem ty56 : ty Go.Proofs.Tryz.prog 56 = ⟨.func, 1, 8⟩ := by kernel_rfl
@[go_sem] theorem zk56 : zeroOk Go.Proofs.Tryz.prog 56 = true := by kernel_rfl
@[go_sem] theorem tt56 : typedT Go.Proofs.Tryz.prog 12 56 = false := by kernel_rfl
@[go_sem] theorem zc56 : zcells Go.Proofs.Tryz.prog 12 56 = [.nilfn] := by kernel_rfl
@[go_sem] theorem ty58 : ty Go.Proofs.Tryz.prog 58 = ⟨.func, 1, 8⟩ := by kernel_rfl
@[go_sem] theorem zk58 : zeroOk Go.Proofs.Tryz.prog 58 = true := by kernel_rfl
@[go_sem] theorem tt58 : typedT Go.Proofs.Tryz.prog 12 58 = false := by kernel_rfl
@[go_sem] theorem zc58 : zcells Go.Proofs.Tryz.prog 12 58 = [.nilfn] := by kernel_rfl
@[go_sem] theorem ty59 : ty Go.Proofs.Tryz.prog 59 = ⟨.func, 1, 8⟩ := by kernel_rfl
@[go_sem] theorem zk59 : zeroOk Go.Proofs.Tryz.prog 59 = true := by kernel_rfl
@[go_sem] theorem tt59 : typedT Go.Proofs.Tryz.prog 12 59 = false := by kernel_rfl
@[go_sem] theorem zc59 : zcells Go.Proofs.Tryz.prog 12 59 = [.nilfn] := by kernel_rfl
@[go_sem] theorem ty60 : ty Go.Proofs.Tryz.prog 60 = ⟨.func, 1, 8⟩ := by kernel_rfl
@[go_sem] theorem zk60 : zeroOk Go.Proofs.Tryz.prog 60 = true := by kernel_rfl
@[go_sem] theorem tt60 : typedT Go.Proofs.Tryz.prog 12 60 = false := by kernel_rfl
@[go_sem] theorem zc60 : zcells Go.Proofs.Tryz.prog 12 60 = [.nilfn] := by kernel_rfl
@[go_sem] theorem ty61 : ty Go.Proofs.Tryz.prog 61 = ⟨.func, 1, 8⟩ := by kernel_rfl
@[go_sem] theorem zk61 : zeroOk Go.Proofs.Tryz.prog 61 = true := by kernel_rfl
@[go_sem] theorem tt61 : typedT Go.Proofs.Tryz.prog 12 61 = false := by kernel_rfl
@[go_sem] theorem zc61 : zcells Go.Proofs.Tryz.prog 12 61 = [.nilfn] := by kernel_rfl
@[go_sem] theorem ty62 : ty Go.Proofs.Tryz.prog 62 = ⟨.func, 1, 8⟩ := by kernel_rfl
@[go_sem] theorem zk62 : zeroOk Go.Proofs.Tryz.prog 62 = true := by kernel_rfl
@[go_sem] theorem tt62 : typedT Go.Proofs.Tryz.prog 12 62 = false := by kernel_rfl
@[go_sem] theorem zc62 : zcells Go.Proofs.Tryz.prog 12 62 = [.nilfn] := by kernel_rfl
@[go_sem] theorem ty63 : ty Go.Proofs.Tryz.prog 63 = ⟨.func, 1, 8⟩ := by kernel_rfl
@[go_sem] theorem zk63 : zeroOk Go.Proofs.Tryz.prog 63 = true := by kernel_rfl
@[go_sem] theorem tt63 : typedT Go.Proofs.Tryz.prog 12 63 = false := by kernel_rfl
@[go_sem] theorem zc63 : zcells Go.Proofs.Tryz.prog 12 63 = [.nilfn] := by kernel_rfl
@[go_sem] theorem ty64 : ty Go.Proofs.Tryz.prog 64 = ⟨.struct [(0, 49), (6, 38), (11, 47)], 12, 120⟩ := by kernel_rfl
@[go_sem] theorem zk64 : zeroOk Go.Proofs.Tryz.prog 64 = true := by kernel_rfl
@[go_sem] theorem tt64 : typedT Go.Proofs.Tryz.prog 12 64 = false := by kernel_rfl
@[go_sem] theorem zc64 : zcells Go.Proofs.Tryz.prog 12 64 = [.d (.int .i64 0), .d (.int .i64 0), .d (.int .u64 0), .d (.int .u64 0), .d (.int .u32 0), .d (.str []), .d (.int .i64 0), .d (.str []), .d (.bool false), .d (.bool false), .nils 1, .d (.int .u32 0)] := by kernel_rfl
@[go_sem] theorem eg64 : (Go.Proofs.Tryz.prog.eqGuardType Go.Proofs.Tryz.prog.depth 64) = false := by kernel_rfl
@[go_sem] theorem ty65 : ty Go.Proofs.Tryz.prog 65 = ⟨.struct [(0, 49), (6, 38), (11, 47)], 12, 120⟩ := by kernel_rfl
@[go_sem] theorem zk65 : zeroOk Go.Proofs.Tryz.prog 65 = true := by kernel_rfl
@[go_sem] theorem tt65 : typedT Go.Proofs.Tryz.prog 12 65 = false := by kernel_rfl
@[go_sem] theorem zc65 : zcells Go.Proofs.Tryz.prog 12 65 = [.d (.int .i64 0), .d (.int .i64 0), .d (.int .u64 0), .d (.int .u64 0), .d (.int .u32 0), .d (.str []), .d (.int .i64 0), .d (.str []), .d (.bool false), .d (.bool false), .nils 1, .d (.int .u32 0)] := by kernel_rfl
@[go_sem] theorem eg65 : (Go.Proofs.Tryz.prog.eqGuardType Go.Proofs.Tryz.prog.depth 65) = false := by kernel_rfl
@[go_sem] theorem ty66 : ty Go.Proofs.Tryz.prog 66 = ⟨.func, 1, 8⟩ := by kernel_rfl
@[go_sem] theorem zk66 : zeroOk Go.Proofs.Tryz.prog 66 = true := by kernel_rfl
@[go_sem] theorem tt66 : typedT Go.Proofs.Tryz.prog 12 66 = false := by kernel_rfl
@[go_sem] theorem zc66 : zcells Go.Proofs.Tryz.prog 12 66 = [.nilfn] := by kernel_rfl
@[go_sem] theorem ty67 : ty Go.Proofs.Tryz.prog 67 = ⟨.func, 1, 8⟩ := by kernel_rfl
@[go_sem] theorem zk67 : zeroOk Go.Proofs.Tryz.prog 67 = true := by kernel_rfl
@[go_sem] theorem tt67 : typedT Go.Proofs.Tryz.prog 12 67 = false := by kernel_rfl
@[go_sem] theorem zc67 : zcells Go.Proofs.Tryz.prog 12 67 = [.nilfn] := by kernel_rfl
@[go_sem] theorem ty68 : ty Go.Proofs.Tryz.prog 68 = ⟨.func, 1, 8⟩ := by kernel_rfl
@[go_sem] theorem zk68 : zeroOk Go.Proofs.Tryz.prog 68 = true := by kernel_rfl
@[go_sem] theorem tt68 : typedT Go.Proofs.Tryz.prog 12 68 = false := by kernel_rfl
@[go_sem] theorem zc68 : zcells Go.Proofs.Tryz.prog 12 68 = [.nilfn] := by kernel_rfl
@[go_sem] theorem ty69 : ty Go.Proofs.Tryz.prog 69 = ⟨.func, 1, 8⟩ := by kernel_rfl
@[go_sem] theorem zk69 : zeroOk Go.Proofs.Tryz.prog 69 = true := by kernel_rfl
@[go_sem] theorem tt69 : typedT Go.Proofs.Tryz.prog 12 69 = false := by kernel_rfl
@[go_sem] theorem zc69 : zcells Go.Proofs.Tryz.prog 12 69 = [.nilfn] := by kernel_rfl
@[go_sem] theorem ty70 : ty Go.Proofs.Tryz.prog 70 = ⟨.struct [(0, 4), (1, 3), (2, 22), (3, 9)], 4, 40⟩ := by kernel_rfl
@[go_sem] theorem zk70 : zeroOk Go.Proofs.Tryz.prog 70 = true := by kernel_rfl
@[go_sem] theorem tt70 : typedT Go.Proofs.Tryz.prog 12 70 = false := by kernel_rfl
@[go_sem] theorem zc70 : zcells Go.Proofs.Tryz.prog 12 70 = [.d (.bool false), .d (.int .i64 0), .d (.int .u64 0), .d (.str [])] := by kernel_rfl
@[go_sem] theorem eg70 : (Go.Proofs.Tryz.prog.eqGuardType Go.Proofs.Tryz.prog.depth 70) = false := by kernel_rfl
@[go_sem] theorem ty71 : ty Go.Proofs.Tryz.prog 71 = ⟨.struct [(0, 4), (1, 3), (2, 22), (3, 9)], 4, 40⟩ := by kernel_rfl
@[go_sem] theorem zk71 : zeroOk Go.Proofs.Tryz.prog 71 = true := by kernel_rfl
@[go_sem] theorem tt71 : typedT Go.Proofs.Tryz.prog 12 71 = false := by kernel_rfl
@[go_sem] theorem zc71 : zcells Go.Proofs.Tryz.prog 12 71 = [.d (.bool false), .d (.int .i64 0), .d (.int .u64 0), .d (.str [])] := by kernel_rfl
@[go_sem] theorem si71 : (Go.Proofs.Tryz.prog.stoodInHeld 71) = false := by kernel_rfl
@[go_sem] theorem eg71 : (Go.Proofs.Tryz.prog.eqGuardType Go.Proofs.Tryz.prog.depth 71) = false := by kernel_rfl
@[go_sem] theorem ty72 : ty Go.Proofs.Tryz.prog 72 = ⟨.struct [(0, 71), (4, 9), (5, 50)], 6, 64⟩ := by kernel_rfl
@[go_sem] theorem zk72 : zeroOk Go.Proofs.Tryz.prog 72 = true := by kernel_rfl
@[go_sem] theorem tt72 : typedT Go.Proofs.Tryz.prog 12 72 = false := by kernel_rfl
@[go_sem] theorem zc72 : zcells Go.Proofs.Tryz.prog 12 72 = [.d (.bool false), .d (.int .i64 0), .d (.int .u64 0), .d (.str []), .d (.str []), .d (.int .i64 0)] := by kernel_rfl
@[go_sem] theorem eg72 : (Go.Proofs.Tryz.prog.eqGuardType Go.Proofs.Tryz.prog.depth 72) = false := by kernel_rfl
@[go_sem] theorem ty73 : ty Go.Proofs.Tryz.prog 73 = ⟨.struct [(0, 71), (4, 9), (5, 50)], 6, 64⟩ := by kernel_rfl
@[go_sem] theorem zk73 : zeroOk Go.Proofs.Tryz.prog 73 = true := by kernel_rfl
@[go_sem] theorem tt73 : typedT Go.Proofs.Tryz.prog 12 73 = false := by kernel_rfl
@[go_sem] theorem zc73 : zcells Go.Proofs.Tryz.prog 12 73 = [.d (.bool false), .d (.int .i64 0), .d (.int .u64 0), .d (.str []), .d (.str []), .d (.int .i64 0)] := by kernel_rfl
@[go_sem] theorem eg73 : (Go.Proofs.Tryz.prog.eqGuardType Go.Proofs.Tryz.prog.depth 73) = false := by kernel_rfl
@[go_sem] theorem ty75 : ty Go.Proofs.Tryz.prog 75 = ⟨.func, 1, 8⟩ := by kernel_rfl
@[go_sem] theorem zk75 : zeroOk Go.Proofs.Tryz.prog 75 = true := by kernel_rfl
@[go_sem] theorem tt75 : typedT Go.Proofs.Tryz.prog 12 75 = false := by kernel_rfl
@[go_sem] theorem zc75 : zcells Go.Proofs.Tryz.prog 12 75 = [.nilfn] := by kernel_rfl
@[go_sem] theorem ty76 : ty Go.Proofs.Tryz.prog 76 = ⟨.ptr 84, 1, 8⟩ := by kernel_rfl
@[go_sem] theorem zk76 : zeroOk Go.Proofs.Tryz.prog 76 = true := by kernel_rfl
@[go_sem] theorem tt76 : typedT Go.Proofs.Tryz.prog 12 76 = false := by kernel_rfl
@[go_sem] theorem zc76 : zcells Go.Proofs.Tryz.prog 12 76 = [.d .nilp] := by kernel_rfl
@[go_sem] theorem ty77 : ty Go.Proofs.Tryz.prog 77 = ⟨.struct [(0, 47), (1, 9)], 2, 24⟩ := by kernel_rfl
@[go_sem] theorem zk77 : zeroOk Go.Proofs.Tryz.prog 77 = true := by kernel_rfl
@[go_sem] theorem tt77 : typedT Go.Proofs.Tryz.prog 12 77 = false := by kernel_rfl
@[go_sem] theorem zc77 : zcells Go.Proofs.Tryz.prog 12 77 = [.d (.int .u32 0), .d (.str [])] := by kernel_rfl
@[go_sem] theorem eg77 : (Go.Proofs.Tryz.prog.eqGuardType Go.Proofs.Tryz.prog.depth 77) = false := by kernel_rfl
@[go_sem] theorem ty78 : ty Go.Proofs.Tryz.prog 78 = ⟨.struct [(0, 47), (1, 9)], 2, 24⟩ := by kernel_rfl
@[go_sem] theorem zk78 : zeroOk Go.Proofs.Tryz.prog 78 = true := by kernel_rfl
@[go_sem] theorem tt78 : typedT Go.Proofs.Tryz.prog 12 78 = false := by kernel_rfl
@[go_sem] theorem zc78 : zcells Go.Proofs.Tryz.prog 12 78 = [.d (.int .u32 0), .d (.str [])] := by kernel_rfl
@[go_sem] theorem si78 : (Go.Proofs.Tryz.prog.stoodInHeld 78) = false := by kernel_rfl
@[go_sem] theorem eg78 : (Go.Proofs.Tryz.prog.eqGuardType Go.Proofs.Tryz.prog.depth 78) = false := by kernel_rfl
@[go_sem] theorem ty79 : ty Go.Proofs.Tryz.prog 79 = ⟨.ptr 82, 1, 8⟩ := by kernel_rfl
@[go_sem] theorem zk79 : zeroOk Go.Proofs.Tryz.prog 79 = true := by kernel_rfl
@[go_sem] theorem tt79 : typedT Go.Proofs.Tryz.prog 12 79 = false := by kernel_rfl
@[go_sem] theorem zc79 : zcells Go.Proofs.Tryz.prog 12 79 = [.d .nilp] := by kernel_rfl
@[go_sem] theorem ty80 : ty Go.Proofs.Tryz.prog 80 = ⟨.slice 5, 1, 24⟩ := by kernel_rfl
@[go_sem] theorem zk80 : zeroOk Go.Proofs.Tryz.prog 80 = true := by kernel_rfl
@[go_sem] theorem tt80 : typedT Go.Proofs.Tryz.prog 12 80 = false := by kernel_rfl
@[go_sem] theorem zc80 : zcells Go.Proofs.Tryz.prog 12 80 = [.nils 1] := by kernel_rfl
@[go_sem] theorem ty81 : ty Go.Proofs.Tryz.prog 81 = ⟨.struct [(0, 79), (1, 80)], 2, 32⟩ := by kernel_rfl
@[go_sem] theorem zk81 : zeroOk Go.Proofs.Tryz.prog 81 = true := by kernel_rfl
@[go_sem] theorem tt81 : typedT Go.Proofs.Tryz.prog 12 81 = false := by kernel_rfl
@[go_sem] theorem zc81 : zcells Go.Proofs.Tryz.prog 12 81 = [.d .nilp, .nils 1] := by kernel_rfl
@[go_sem] theorem eg81 : (Go.Proofs.Tryz.prog.eqGuardType Go.Proofs.Tryz.prog.depth 81) = false := by kernel_rfl
@[go_sem] theorem ty82 : ty Go.Proofs.Tryz.prog 82 = ⟨.struct [(0, 79), (1, 80)], 2, 32⟩ := by kernel_rfl
@[go_sem] theorem zk82 : zeroOk Go.Proofs.Tryz.prog 82 = true := by kernel_rfl
@[go_sem] theorem tt82 : typedT Go.Proofs.Tryz.prog 12 82 = true := by kernel_rfl
@[go_sem] theorem zc82 : zcells Go.Proofs.Tryz.prog 12 82 = [.d .nilp, .nils 1] := by kernel_rfl
@[go_sem] theorem eg82 : (Go.Proofs.Tryz.prog.eqGuardType Go.Proofs.Tryz.prog.depth 82) = false := by kernel_rfl
@[go_sem] theorem ty83 : ty Go.Proofs.Tryz.prog 83 = ⟨.struct [(0, 38), (5, 25), (7, 78), (9, 82)], 11, 144⟩ := by kernel_rfl
@[go_sem] theorem zk83 : zeroOk Go.Proofs.Tryz.prog 83 = true := by kernel_rfl
@[go_sem] theorem tt83 : typedT Go.Proofs.Tryz.prog 12 83 = true := by kernel_rfl
@[go_sem] theorem zc83 : zcells Go.Proofs.Tryz.prog 12 83 = [.d (.int .i64 0), .d (.str []), .d (.bool false), .d (.bool false), .nils 1, .d (.int .u64 0), .nils 1, .d (.int .u32 0), .d (.str []), .d .nilp, .nils 1] := by kernel_rfl
@[go_sem] theorem eg83 : (Go.Proofs.Tryz.prog.eqGuardType Go.Proofs.Tryz.prog.depth 83) = false := by kernel_rfl
@[go_sem] theorem ty84 : ty Go.Proofs.Tryz.prog 84 = ⟨.struct [(0, 38), (5, 25), (7, 78), (9, 82)], 11, 144⟩ := by kernel_rfl
@[go_sem] theorem zk84 : zeroOk Go.Proofs.Tryz.prog 84 = true := by kernel_rfl
@[go_sem] theorem tt84 : typedT Go.Proofs.Tryz.prog 12 84 = true := by kernel_rfl
@[go_sem] theorem zc84 : zcells Go.Proofs.Tryz.prog 12 84 = [.d (.int .i64 0), .d (.str []), .d (.bool false), .d (.bool false), .nils 1, .d (.int .u64 0), .nils 1, .d (.int .u32 0), .d (.str []), .d .nilp, .nils 1] := by kernel_rfl
@[go_sem] theorem eg84 : (Go.Proofs.Tryz.prog.eqGuardType Go.Proofs.Tryz.prog.depth 84) = false := by kernel_rfl
@[go_sem] theorem ty85 : ty Go.Proofs.Tryz.prog 85 = ⟨.arr 2 27, 2, 16⟩ := by kernel_rfl
@[go_sem] theorem zk85 : zeroOk Go.Proofs.Tryz.prog 85 = true := by kernel_rfl
@[go_sem] theorem tt85 : typedT Go.Proofs.Tryz.prog 12 85 = false := by kernel_rfl
@[go_sem] theorem zc85 : zcells Go.Proofs.Tryz.prog 12 85 = [.nilfn, .nilfn] := by kernel_rfl
@[go_sem] theorem eg85 : (Go.Proofs.Tryz.prog.eqGuardType Go.Proofs.Tryz.prog.depth 85) = false := by kernel_rfl
@[go_sem] theorem ty86 : ty Go.Proofs.Tryz.prog 86 = ⟨.func, 1, 8⟩ := by kernel_rfl
@[go_sem] theorem zk86 : zeroOk Go.Proofs.Tryz.prog 86 = true := by kernel_rfl
@[go_sem] theorem tt86 : typedT Go.Proofs.Tryz.prog 12 86 = false := by kernel_rfl
@[go_sem] theorem zc86 : zcells Go.Proofs.Tryz.prog 12 86 = [.nilfn] := by kernel_rfl
@[go_sem] theorem ty87 : ty Go.Proofs.Tryz.prog 87 = ⟨.func, 1, 8⟩ := by kernel_rfl
@[go_sem] theorem zk87 : zeroOk Go.Proofs.Tryz.prog 87 = true := by kernel_rfl
@[go_sem] theorem tt87 : typedT Go.Proofs.Tryz.prog 12 87 = false := by kernel_rfl
@[go_sem] theorem zc87 : zcells Go.Proofs.Tryz.prog 12 87 = [.nilfn] := by kernel_rfl
@[go_sem] theorem ty88 : ty Go.Proofs.Tryz.prog 88 = ⟨.func, 1, 8⟩ := by kernel_rfl
@[go_sem] theorem zk88 : zeroOk Go.Proofs.Tryz.prog 88 = true := by kernel_rfl
@[go_sem] theorem tt88 : typedT Go.Proofs.Tryz.prog 12 88 = false := by kernel_rfl
@[go_sem] theorem zc88 : zcells Go.Proofs.Tryz.prog 12 88 = [.nilfn] := by kernel_rfl
@[go_sem] theorem ty89 : ty Go.Proofs.Tryz.prog 89 = ⟨.struct [(0, 49), (6, 9)], 7, 72⟩ := by kernel_rfl
@[go_sem] theorem zk89 : zeroOk Go.Proofs.Tryz.prog 89 = true := by kernel_rfl
@[go_sem] theorem tt89 : typedT Go.Proofs.Tryz.prog 12 89 = false := by kernel_rfl
@[go_sem] theorem zc89 : zcells Go.Proofs.Tryz.prog 12 89 = [.d (.int .i64 0), .d (.int .i64 0), .d (.int .u64 0), .d (.int .u64 0), .d (.int .u32 0), .d (.str []), .d (.str [])] := by kernel_rfl
@[go_sem] theorem eg89 : (Go.Proofs.Tryz.prog.eqGuardType Go.Proofs.Tryz.prog.depth 89) = false := by kernel_rfl
@[go_sem] theorem ty90 : ty Go.Proofs.Tryz.prog 90 = ⟨.struct [(0, 49), (6, 9)], 7, 72⟩ := by kernel_rfl
@[go_sem] theorem zk90 : zeroOk Go.Proofs.Tryz.prog 90 = true := by kernel_rfl
@[go_sem] theorem tt90 : typedT Go.Proofs.Tryz.prog 12 90 = false := by kernel_rfl
@[go_sem] theorem zc90 : zcells Go.Proofs.Tryz.prog 12 90 = [.d (.int .i64 0), .d (.int .i64 0), .d (.int .u64 0), .d (.int .u64 0), .d (.int .u32 0), .d (.str []), .d (.str [])] := by kernel_rfl
@[go_sem] theorem eg90 : (Go.Proofs.Tryz.prog.eqGuardType Go.Proofs.Tryz.prog.depth 90) = false := by kernel_rfl
@[go_sem] theorem ty91 : ty Go.Proofs.Tryz.prog 91 = ⟨.func, 1, 8⟩ := by kernel_rfl
@[go_sem] theorem zk91 : zeroOk Go.Proofs.Tryz.prog 91 = true := by kernel_rfl
@[go_sem] theorem tt91 : typedT Go.Proofs.Tryz.prog 12 91 = false := by kernel_rfl
@[go_sem] theorem zc91 : zcells Go.Proofs.Tryz.prog 12 91 = [.nilfn] := by kernel_rfl
@[go_sem] theorem ty92 : ty Go.Proofs.Tryz.prog 92 = ⟨.func, 1, 8⟩ := by kernel_rfl
@[go_sem] theorem zk92 : zeroOk Go.Proofs.Tryz.prog 92 = true := by kernel_rfl
@[go_sem] theorem tt92 : typedT Go.Proofs.Tryz.prog 12 92 = false := by kernel_rfl
@[go_sem] theorem zc92 : zcells Go.Proofs.Tryz.prog 12 92 = [.nilfn] := by kernel_rfl
@[go_sem] theorem ty93 : ty Go.Proofs.Tryz.prog 93 = ⟨.struct [(0, 4), (1, 47)], 2, 8⟩ := by kernel_rfl
@[go_sem] theorem zk93 : zeroOk Go.Proofs.Tryz.prog 93 = true := by kernel_rfl
@[go_sem] theorem tt93 : typedT Go.Proofs.Tryz.prog 12 93 = false := by kernel_rfl
@[go_sem] theorem zc93 : zcells Go.Proofs.Tryz.prog 12 93 = [.d (.bool false), .d (.int .u32 0)] := by kernel_rfl
@[go_sem] theorem eg93 : (Go.Proofs.Tryz.prog.eqGuardType Go.Proofs.Tryz.prog.depth 93) = false := by kernel_rfl
@[go_sem] theorem ty94 : ty Go.Proofs.Tryz.prog 94 = ⟨.struct [(0, 4), (1, 47)], 2, 8⟩ := by kernel_rfl
@[go_sem] theorem zk94 : zeroOk Go.Proofs.Tryz.prog 94 = true := by kernel_rfl
@[go_sem] theorem tt94 : typedT Go.Proofs.Tryz.prog 12 94 = false := by kernel_rfl
@[go_sem] theorem zc94 : zcells Go.Proofs.Tryz.prog 12 94 = [.d (.bool false), .d (.int .u32 0)] := by kernel_rfl
@[go_sem] theorem eg94 : (Go.Proofs.Tryz.prog.eqGuardType Go.Proofs.Tryz.prog.depth 94) = false := by kernel_rfl
@[go_sem] theorem ty95 : ty Go.Proofs.Tryz.prog 95 = ⟨.func, 1, 8⟩ := by kernel_rfl
@[go_sem] theorem zk95 : zeroOk Go.Proofs.Tryz.prog 95 = true := by kernel_rfl
@[go_sem] theorem tt95 : typedT Go.Proofs.Tryz.prog 12 95 = false := by kernel_rfl
@[go_sem] theorem zc95 : zcells Go.Proofs.Tryz.prog 12 95 = [.nilfn] := by kernel_rfl
@[go_sem] theorem ty96 : ty Go.Proofs.Tryz.prog 96 = ⟨.func, 1, 8⟩ := by kernel_rfl
@[go_sem] theorem zk96 : zeroOk Go.Proofs.Tryz.prog 96 = true := by kernel_rfl
@[go_sem] theorem tt96 : typedT Go.Proofs.Tryz.prog 12 96 = false := by kernel_rfl
@[go_sem] theorem zc96 : zcells Go.Proofs.Tryz.prog 12 96 = [.nilfn] := by kernel_rfl
@[go_sem] theorem ty97 : ty Go.Proofs.Tryz.prog 97 = ⟨.func, 1, 8⟩ := by kernel_rfl
@[go_sem] theorem zk97 : zeroOk Go.Proofs.Tryz.prog 97 = true := by kernel_rfl
@[go_sem] theorem tt97 : typedT Go.Proofs.Tryz.prog 12 97 = false := by kernel_rfl
@[go_sem] theorem zc97 : zcells Go.Proofs.Tryz.prog 12 97 = [.nilfn] := by kernel_rfl
@[go_sem] theorem ty98 : ty Go.Proofs.Tryz.prog 98 = ⟨.int .u64, 1, 8⟩ := by kernel_rfl
@[go_sem] theorem zk98 : zeroOk Go.Proofs.Tryz.prog 98 = true := by kernel_rfl
@[go_sem] theorem tt98 : typedT Go.Proofs.Tryz.prog 12 98 = false := by kernel_rfl
@[go_sem] theorem zc98 : zcells Go.Proofs.Tryz.prog 12 98 = [.d (.int .u64 0)] := by kernel_rfl
@[go_sem] theorem ty99 : ty Go.Proofs.Tryz.prog 99 = ⟨.struct [(0, 47), (1, 22), (2, 9)], 3, 32⟩ := by kernel_rfl
@[go_sem] theorem zk99 : zeroOk Go.Proofs.Tryz.prog 99 = true := by kernel_rfl
@[go_sem] theorem tt99 : typedT Go.Proofs.Tryz.prog 12 99 = false := by kernel_rfl
@[go_sem] theorem zc99 : zcells Go.Proofs.Tryz.prog 12 99 = [.d (.int .u32 0), .d (.int .u64 0), .d (.str [])] := by kernel_rfl
@[go_sem] theorem eg99 : (Go.Proofs.Tryz.prog.eqGuardType Go.Proofs.Tryz.prog.depth 99) = false := by kernel_rfl
@[go_sem] theorem ty100 : ty Go.Proofs.Tryz.prog 100 = ⟨.struct [(0, 47), (1, 22), (2, 9)], 3, 32⟩ := by kernel_rfl
@[go_sem] theorem zk100 : zeroOk Go.Proofs.Tryz.prog 100 = true := by kernel_rfl
@[go_sem] theorem tt100 : typedT Go.Proofs.Tryz.prog 12 100 = false := by kernel_rfl
@[go_sem] theorem zc100 : zcells Go.Proofs.Tryz.prog 12 100 = [.d (.int .u32 0), .d (.int .u64 0), .d (.str [])] := by kernel_rfl
@[go_sem] theorem si100 : (Go.Proofs.Tryz.prog.stoodInHeld 100) = false := by kernel_rfl
@[go_sem] theorem eg100 : (Go.Proofs.Tryz.prog.eqGuardType Go.Proofs.Tryz.prog.depth 100) = false := by kernel_rfl
@[go_sem] theorem ty102 : ty Go.Proofs.Tryz.prog 102 = ⟨.func, 1, 8⟩ := by kernel_rfl
@[go_sem] theorem zk102 : zeroOk Go.Proofs.Tryz.prog 102 = true := by kernel_rfl
@[go_sem] theorem tt102 : typedT Go.Proofs.Tryz.prog 12 102 = false := by kernel_rfl
@[go_sem] theorem zc102 : zcells Go.Proofs.Tryz.prog 12 102 = [.nilfn] := by kernel_rfl
@[go_sem] theorem ty103 : ty Go.Proofs.Tryz.prog 103 = ⟨.func, 1, 8⟩ := by kernel_rfl
@[go_sem] theorem zk103 : zeroOk Go.Proofs.Tryz.prog 103 = true := by kernel_rfl
@[go_sem] theorem tt103 : typedT Go.Proofs.Tryz.prog 12 103 = false := by kernel_rfl
@[go_sem] theorem zc103 : zcells Go.Proofs.Tryz.prog 12 103 = [.nilfn] := by kernel_rfl
@[go_sem] theorem ty104 : ty Go.Proofs.Tryz.prog 104 = ⟨.func, 1, 8⟩ := by kernel_rfl
@[go_sem] theorem zk104 : zeroOk Go.Proofs.Tryz.prog 104 = true := by kernel_rfl
@[go_sem] theorem tt104 : typedT Go.Proofs.Tryz.prog 12 104 = false := by kernel_rfl
@[go_sem] theorem zc104 : zcells Go.Proofs.Tryz.prog 12 104 = [.nilfn] := by kernel_rfl
@[go_sem] theorem ty106 : ty Go.Proofs.Tryz.prog 106 = ⟨.func, 1, 8⟩ := by kernel_rfl
@[go_sem] theorem zk106 : zeroOk Go.Proofs.Tryz.prog 106 = true := by kernel_rfl
@[go_sem] theorem tt106 : typedT Go.Proofs.Tryz.prog 12 106 = false := by kernel_rfl
@[go_sem] theorem zc106 : zcells Go.Proofs.Tryz.prog 12 106 = [.nilfn] := by kernel_rfl
@[go_sem] theorem ty108 : ty Go.Proofs.Tryz.prog 108 = ⟨.func, 1, 8⟩ := by kernel_rfl
@[go_sem] theorem zk108 : zeroOk Go.Proofs.Tryz.prog 108 = true := by kernel_rfl
@[go_sem] theorem tt108 : typedT Go.Proofs.Tryz.prog 12 108 = false := by kernel_rfl
@[go_sem] theorem zc108 : zcells Go.Proofs.Tryz.prog 12 108 = [.nilfn] := by kernel_rfl
@[go_sem] theorem ty109 : ty Go.Proofs.Tryz.prog 109 = ⟨.func, 1, 8⟩ := by kernel_rfl
@[go_sem] theorem zk109 : zeroOk Go.Proofs.Tryz.prog 109 = true := by kernel_rfl
@[go_sem] theorem tt109 : typedT Go.Proofs.Tryz.prog 12 109 = false := by kernel_rfl
@[go_sem] theorem zc109 : zcells Go.Proofs.Tryz.prog 12 109 = [.nilfn] := by kernel_rfl
@[go_sem] theorem ty110 : ty Go.Proofs.Tryz.prog 110 = ⟨.arr 8 75, 8, 64⟩ := by kernel_rfl
@[go_sem] theorem zk110 : zeroOk Go.Proofs.Tryz.prog 110 = true := by kernel_rfl
@[go_sem] theorem tt110 : typedT Go.Proofs.Tryz.prog 12 110 = false := by kernel_rfl
@[go_sem] theorem zc110 : zcells Go.Proofs.Tryz.prog 12 110 = [.nilfn, .nilfn, .nilfn, .nilfn, .nilfn, .nilfn, .nilfn, .nilfn] := by kernel_rfl
@[go_sem] theorem eg110 : (Go.Proofs.Tryz.prog.eqGuardType Go.Proofs.Tryz.prog.depth 110) = false := by kernel_rfl
@[go_sem] theorem ty112 : ty Go.Proofs.Tryz.prog 112 = ⟨.func, 1, 8⟩ := by kernel_rfl
@[go_sem] theorem zk112 : zeroOk Go.Proofs.Tryz.prog 112 = true := by kernel_rfl
@[go_sem] theorem tt112 : typedT Go.Proofs.Tryz.prog 12 112 = false := by kernel_rfl
@[go_sem] theorem zc112 : zcells Go.Proofs.Tryz.prog 12 112 = [.nilfn] := by kernel_rfl
@[go_sem] theorem ty114 : ty Go.Proofs.Tryz.prog 114 = ⟨.map 47 1, 1, 8⟩ := by kernel_rfl
@[go_sem] theorem zk114 : zeroOk Go.Proofs.Tryz.prog 114 = true := by kernel_rfl
@[go_sem] theorem tt114 : typedT Go.Proofs.Tryz.prog 12 114 = false := by kernel_rfl
@[go_sem] theorem zc114 : zcells Go.Proofs.Tryz.prog 12 114 = [.nilmap] := by kernel_rfl
@[go_sem] theorem ty115 : ty Go.Proofs.Tryz.prog 115 = ⟨.func, 1, 8⟩ := by kernel_rfl
@[go_sem] theorem zk115 : zeroOk Go.Proofs.Tryz.prog 115 = true := by kernel_rfl
@[go_sem] theorem tt115 : typedT Go.Proofs.Tryz.prog 12 115 = false := by kernel_rfl
@[go_sem] theorem zc115 : zcells Go.Proofs.Tryz.prog 12 115 = [.nilfn] := by kernel_rfl
@[go_sem] theorem ty116 : ty Go.Proofs.Tryz.prog 116 = ⟨.func, 1, 8⟩ := by kernel_rfl
@[go_sem] theorem zk116 : zeroOk Go.Proofs.Tryz.prog 116 = true := by kernel_rfl
@[go_sem] theorem tt116 : typedT Go.Proofs.Tryz.prog 12 116 = false := by kernel_rfl
@[go_sem] theorem zc116 : zcells Go.Proofs.Tryz.prog 12 116 = [.nilfn] := by kernel_rfl
@[go_sem] theorem ty117 : ty Go.Proofs.Tryz.prog 117 = ⟨.ptr 5, 1, 8⟩ := by kernel_rfl
@[go_sem] theorem zk117 : zeroOk Go.Proofs.Tryz.prog 117 = true := by kernel_rfl
@[go_sem] theorem tt117 : typedT Go.Proofs.Tryz.prog 12 117 = false := by kernel_rfl
@[go_sem] theorem zc117 : zcells Go.Proofs.Tryz.prog 12 117 = [.d .nilp] := by kernel_rfl
@[go_sem] theorem ty118 : ty Go.Proofs.Tryz.prog 118 = ⟨.func, 1, 8⟩ := by kernel_rfl
@[go_sem] theorem zk118 : zeroOk Go.Proofs.Tryz.prog 118 = true := by kernel_rfl
@[go_sem] theorem tt118 : typedT Go.Proofs.Tryz.prog 12 118 = false := by kernel_rfl
@[go_sem] theorem zc118 : zcells Go.Proofs.Tryz.prog 12 118 = [.nilfn] := by kernel_rfl
@[go_sem] theorem ty120 : ty Go.Proofs.Tryz.prog 120 = ⟨.func, 1, 8⟩ := by kernel_rfl
@[go_sem] theorem zk120 : zeroOk Go.Proofs.Tryz.prog 120 = true := by kernel_rfl
@[go_sem] theorem tt120 : typedT Go.Proofs.Tryz.prog 12 120 = false := by kernel_rfl
@[go_sem] theorem zc120 : zcells Go.Proofs.Tryz.prog 12 120 = [.nilfn] := by kernel_rfl
@[go_sem] theorem ty121 : ty Go.Proofs.Tryz.prog 121 = ⟨.arr 8 3, 8, 64⟩ := by kernel_rfl
@[go_sem] theorem zk121 : zeroOk Go.Proofs.Tryz.prog 121 = true := by kernel_rfl
@[go_sem] theorem tt121 : typedT Go.Proofs.Tryz.prog 12 121 = false := by kernel_rfl
@[go_sem] theorem zc121 : zcells Go.Proofs.Tryz.prog 12 121 = [.d (.int .i64 0), .d (.int .i64 0), .d (.int .i64 0), .d (.int .i64 0), .d (.int .i64 0), .d (.int .i64 0), .d (.int .i64 0), .d (.int .i64 0)] := by kernel_rfl
@[go_sem] theorem eg121 : (Go.Proofs.Tryz.prog.eqGuardType Go.Proofs.Tryz.prog.depth 121) = false := by kernel_rfl
@[go_sem] theorem ty122 : ty Go.Proofs.Tryz.prog 122 = ⟨.slice 94, 1, 24⟩ := by kernel_rfl
@[go_sem] theorem zk122 : zeroOk Go.Proofs.Tryz.prog 122 = true := by kernel_rfl
@[go_sem] theorem tt122 : typedT Go.Proofs.Tryz.prog 12 122 = false := by kernel_rfl
@[go_sem] theorem zc122 : zcells Go.Proofs.Tryz.prog 12 122 = [.nils 2] := by kernel_rfl
@[go_sem] theorem ty123 : ty Go.Proofs.Tryz.prog 123 = ⟨.func, 1, 8⟩ := by kernel_rfl
@[go_sem] theorem zk123 : zeroOk Go.Proofs.Tryz.prog 123 = true := by kernel_rfl
@[go_sem] theorem tt123 : typedT Go.Proofs.Tryz.prog 12 123 = false := by kernel_rfl
@[go_sem] theorem zc123 : zcells Go.Proofs.Tryz.prog 12 123 = [.nilfn] := by kernel_rfl
@[go_sem] theorem ty124 : ty Go.Proofs.Tryz.prog 124 = ⟨.int .i64, 1, 8⟩ := by kernel_rfl
@[go_sem] theorem zk124 : zeroOk Go.Proofs.Tryz.prog 124 = true := by kernel_rfl
@[go_sem] theorem tt124 : typedT Go.Proofs.Tryz.prog 12 124 = false := by kernel_rfl
@[go_sem] theorem zc124 : zcells Go.Proofs.Tryz.prog 12 124 = [.d (.int .i64 0)] := by kernel_rfl
@[go_sem] theorem ty126 : ty Go.Proofs.Tryz.prog 126 = ⟨.func, 1, 8⟩ := by kernel_rfl
@[go_sem] theorem zk126 : zeroOk Go.Proofs.Tryz.prog 126 = true := by kernel_rfl
@[go_sem] theorem tt126 : typedT Go.Proofs.Tryz.prog 12 126 = false := by kernel_rfl
@[go_sem] theorem zc126 : zcells Go.Proofs.Tryz.prog 12 126 = [.nilfn] := by kernel_rfl
@[go_sem] theorem ty127 : ty Go.Proofs.Tryz.prog 127 = ⟨.func, 1, 8⟩ := by kernel_rfl
@[go_sem] theorem zk127 : zeroOk Go.Proofs.Tryz.prog 127 = true := by kernel_rfl
@[go_sem] theorem tt127 : typedT Go.Proofs.Tryz.prog 12 127 = false := by kernel_rfl
@[go_sem] theorem zc127 : zcells Go.Proofs.Tryz.prog 12 127 = [.nilfn] := by kernel_rfl
@[go_sem] theorem ty128 : ty Go.Proofs.Tryz.prog 128 = ⟨.func, 1, 8⟩ := by kernel_rfl
@[go_sem] theorem zk128 : zeroOk Go.Proofs.Tryz.prog 128 = true := by kernel_rfl
@[go_sem] theorem tt128 : typedT Go.Proofs.Tryz.prog 12 128 = false := by kernel_rfl
@[go_sem] theorem zc128 : zcells Go.Proofs.Tryz.prog 12 128 = [.nilfn] := by kernel_rfl
@[go_sem] theorem ty129 : ty Go.Proofs.Tryz.prog 129 = ⟨.func, 1, 8⟩ := by kernel_rfl
@[go_sem] theorem zk129 : zeroOk Go.Proofs.Tryz.prog 129 = true := by kernel_rfl
@[go_sem] theorem tt129 : typedT Go.Proofs.Tryz.prog 12 129 = false := by kernel_rfl
@[go_sem] theorem zc129 : zcells Go.Proofs.Tryz.prog 12 129 = [.nilfn] := by kernel_rfl
@[go_sem] theorem ty131 : ty Go.Proofs.Tryz.prog 131 = ⟨.func, 1, 8⟩ := by kernel_rfl
@[go_sem] theorem zk131 : zeroOk Go.Proofs.Tryz.prog 131 = true := by kernel_rfl
@[go_sem] theorem tt131 : typedT Go.Proofs.Tryz.prog 12 131 = false := by kernel_rfl
@[go_sem] theorem zc131 : zcells Go.Proofs.Tryz.prog 12 131 = [.nilfn] := by kernel_rfl
@[go_sem] theorem ty132 : ty Go.Proofs.Tryz.prog 132 = ⟨.func, 1, 8⟩ := by kernel_rfl
@[go_sem] theorem zk132 : zeroOk Go.Proofs.Tryz.prog 132 = true := by kernel_rfl
@[go_sem] theorem tt132 : typedT Go.Proofs.Tryz.prog 12 132 = false := by kernel_rfl
@[go_sem] theorem zc132 : zcells Go.Proofs.Tryz.prog 12 132 = [.nilfn] := by kernel_rfl
@[go_sem] theorem ty133 : ty Go.Proofs.Tryz.prog 133 = ⟨.func, 1, 8⟩ := by kernel_rfl
@[go_sem] theorem zk133 : zeroOk Go.Proofs.Tryz.prog 133 = true := by kernel_rfl
@[go_sem] theorem tt133 : typedT Go.Proofs.Tryz.prog 12 133 = false := by kernel_rfl
@[go_sem] theorem zc133 : zcells Go.Proofs.Tryz.prog 12 133 = [.nilfn] := by kernel_rfl
@[go_sem] theorem ty134 : ty Go.Proofs.Tryz.prog 134 = ⟨.func, 1, 8⟩ := by kernel_rfl
@[go_sem] theorem zk134 : zeroOk Go.Proofs.Tryz.prog 134 = true := by kernel_rfl
@[go_sem] theorem tt134 : typedT Go.Proofs.Tryz.prog 12 134 = false := by kernel_rfl
@[go_sem] theorem zc134 : zcells Go.Proofs.Tryz.prog 12 134 = [.nilfn] := by kernel_rfl
@[go_sem] theorem ty135 : ty Go.Proofs.Tryz.prog 135 = ⟨.func, 1, 8⟩ := by kernel_rfl
@[go_sem] theorem zk135 : zeroOk Go.Proofs.Tryz.prog 135 = true := by kernel_rfl
@[go_sem] theorem tt135 : typedT Go.Proofs.Tryz.prog 12 135 = false := by kernel_rfl
@[go_sem] theorem zc135 : zcells Go.Proofs.Tryz.prog 12 135 = [.nilfn] := by kernel_rfl
@[go_sem] theorem ty136 : ty Go.Proofs.Tryz.prog 136 = ⟨.func, 1, 8⟩ := by kernel_rfl
@[go_sem] theorem zk136 : zeroOk Go.Proofs.Tryz.prog 136 = true := by kernel_rfl
@[go_sem] theorem tt136 : typedT Go.Proofs.Tryz.prog 12 136 = false := by kernel_rfl
@[go_sem] theorem zc136 : zcells Go.Proofs.Tryz.prog 12 136 = [.nilfn] := by kernel_rfl
@[go_sem] theorem ty137 : ty Go.Proofs.Tryz.prog 137 = ⟨.int .u16, 1, 2⟩ := by kernel_rfl
@[go_sem] theorem zk137 : zeroOk Go.Proofs.Tryz.prog 137 = true := by kernel_rfl
@[go_sem] theorem tt137 : typedT Go.Proofs.Tryz.prog 12 137 = false := by kernel_rfl
@[go_sem] theorem zc137 : zcells Go.Proofs.Tryz.prog 12 137 = [.d (.int .u16 0)] := by kernel_rfl
@[go_sem] theorem ty138 : ty Go.Proofs.Tryz.prog 138 = ⟨.func, 1, 8⟩ := by kernel_rfl
@[go_sem] theorem zk138 : zeroOk Go.Proofs.Tryz.prog 138 = true := by kernel_rfl
@[go_sem] theorem tt138 : typedT Go.Proofs.Tryz.prog 12 138 = false := by kernel_rfl
@[go_sem] theorem zc138 : zcells Go.Proofs.Tryz.prog 12 138 = [.nilfn] := by kernel_rfl
@[go_sem] theorem ty139 : ty Go.Proofs.Tryz.prog 139 = ⟨.func, 1, 8⟩ := by kernel_rfl
@[go_sem] theorem zk139 : zeroOk Go.Proofs.Tryz.prog 139 = true := by kernel_rfl
@[go_sem] theorem tt139 : typedT Go.Proofs.Tryz.prog 12 139 = false := by kernel_rfl
@[go_sem] theorem zc139 : zcells Go.Proofs.Tryz.prog 12 139 = [.nilfn] := by kernel_rfl
@[go_sem] theorem ty140 : ty Go.Proofs.Tryz.prog 140 = ⟨.slice 144, 1, 24⟩ := by kernel_rfl
@[go_sem] theorem zk140 : zeroOk Go.Proofs.Tryz.prog 140 = true := by kernel_rfl
@[go_sem] theorem tt140 : typedT Go.Proofs.Tryz.prog 12 140 = false := by kernel_rfl
@[go_sem] theorem zc140 : zcells Go.Proofs.Tryz.prog 12 140 = [.nils 2] := by kernel_rfl
@[go_sem] theorem ty142 : ty Go.Proofs.Tryz.prog 142 = ⟨.func, 1, 8⟩ := by kernel_rfl
@[go_sem] theorem zk142 : zeroOk Go.Proofs.Tryz.prog 142 = true := by kernel_rfl
@[go_sem] theorem tt142 : typedT Go.Proofs.Tryz.prog 12 142 = false := by kernel_rfl
@[go_sem] theorem zc142 : zcells Go.Proofs.Tryz.prog 12 142 = [.nilfn] := by kernel_rfl
@[go_sem] theorem ty143 : ty Go.Proofs.Tryz.prog 143 = ⟨.struct [(0, 3), (1, 3)], 2, 16⟩ := by kernel_rfl
@[go_sem] theorem zk143 : zeroOk Go.Proofs.Tryz.prog 143 = true := by kernel_rfl
@[go_sem] theorem tt143 : typedT Go.Proofs.Tryz.prog 12 143 = false := by kernel_rfl
@[go_sem] theorem zc143 : zcells Go.Proofs.Tryz.prog 12 143 = [.d (.int .i64 0), .d (.int .i64 0)] := by kernel_rfl
@[go_sem] theorem eg143 : (Go.Proofs.Tryz.prog.eqGuardType Go.Proofs.Tryz.prog.depth 143) = false := by kernel_rfl
@[go_sem] theorem ty144 : ty Go.Proofs.Tryz.prog 144 = ⟨.struct [(0, 3), (1, 3)], 2, 16⟩ := by kernel_rfl
@[go_sem] theorem zk144 : zeroOk Go.Proofs.Tryz.prog 144 = true := by kernel_rfl
@[go_sem] theorem tt144 : typedT Go.Proofs.Tryz.prog 12 144 = false := by kernel_rfl
@[go_sem] theorem zc144 : zcells Go.Proofs.Tryz.prog 12 144 = [.d (.int .i64 0), .d (.int .i64 0)] := by kernel_rfl
@[go_sem] theorem si144 : (Go.Proofs.Tryz.prog.stoodInHeld 144) = false := by kernel_rfl
@[go_sem] theorem eg144 : (Go.Proofs.Tryz.prog.eqGuardType Go.Proofs.Tryz.prog.depth 144) = false := by kernel_rfl
@[go_sem] theorem ty145 : ty Go.Proofs.Tryz.prog 145 = ⟨.func, 1, 8⟩ := by kernel_rfl
@[go_sem] theorem zk145 : zeroOk Go.Proofs.Tryz.prog 145 = true := by kernel_rfl
@[go_sem] theorem tt145 : typedT Go.Proofs.Tryz.prog 12 145 = false := by kernel_rfl
@[go_sem] theorem zc145 : zcells Go.Proofs.Tryz.prog 12 145 = [.nilfn] := by kernel_rfl
@[go_sem] theorem ty146 : ty Go.Proofs.Tryz.prog 146 = ⟨.ptr 175, 1, 8⟩ := by kernel_rfl
@[go_sem] theorem zk146 : zeroOk Go.Proofs.Tryz.prog 146 = true := by kernel_rfl
@[go_sem] theorem tt146 : typedT Go.Proofs.Tryz.prog 12 146 = false := by kernel_rfl
@[go_sem] theorem zc146 : zcells Go.Proofs.Tryz.prog 12 146 = [.d .nilp] := by kernel_rfl
@[go_sem] theorem ty147 : ty Go.Proofs.Tryz.prog 147 = ⟨.func, 1, 8⟩ := by kernel_rfl
@[go_sem] theorem zk147 : zeroOk Go.Proofs.Tryz.prog 147 = true := by kernel_rfl
@[go_sem] theorem tt147 : typedT Go.Proofs.Tryz.prog 12 147 = false := by kernel_rfl
@[go_sem] theorem zc147 : zcells Go.Proofs.Tryz.prog 12 147 = [.nilfn] := by kernel_rfl
@[go_sem] theorem ty148 : ty Go.Proofs.Tryz.prog 148 = ⟨.func, 1, 8⟩ := by kernel_rfl
@[go_sem] theorem zk148 : zeroOk Go.Proofs.Tryz.prog 148 = true := by kernel_rfl
@[go_sem] theorem tt148 : typedT Go.Proofs.Tryz.prog 12 148 = false := by kernel_rfl
@[go_sem] theorem zc148 : zcells Go.Proofs.Tryz.prog 12 148 = [.nilfn] := by kernel_rfl
@[go_sem] theorem ty149 : ty Go.Proofs.Tryz.prog 149 = ⟨.func, 1, 8⟩ := by kernel_rfl
@[go_sem] theorem zk149 : zeroOk Go.Proofs.Tryz.prog 149 = true := by kernel_rfl
@[go_sem] theorem tt149 : typedT Go.Proofs.Tryz.prog 12 149 = false := by kernel_rfl
@[go_sem] theorem zc149 : zcells Go.Proofs.Tryz.prog 12 149 = [.nilfn] := by kernel_rfl
@[go_sem] theorem ty150 : ty Go.Proofs.Tryz.prog 150 = ⟨.func, 1, 8⟩ := by kernel_rfl
@[go_sem] theorem zk150 : zeroOk Go.Proofs.Tryz.prog 150 = true := by kernel_rfl
@[go_sem] theorem tt150 : typedT Go.Proofs.Tryz.prog 12 150 = false := by kernel_rfl
@[go_sem] theorem zc150 : zcells Go.Proofs.Tryz.prog 12 150 = [.nilfn] := by kernel_rfl
@[go_sem] theorem ty152 : ty Go.Proofs.Tryz.prog 152 = ⟨.func, 1, 8⟩ := by kernel_rfl
@[go_sem] theorem zk152 : zeroOk Go.Proofs.Tryz.prog 152 = true := by kernel_rfl
@[go_sem] theorem tt152 : typedT Go.Proofs.Tryz.prog 12 152 = false := by kernel_rfl
@[go_sem] theorem zc152 : zcells Go.Proofs.Tryz.prog 12 152 = [.nilfn] := by kernel_rfl
@[go_sem] theorem ty153 : ty Go.Proofs.Tryz.prog 153 = ⟨.struct [(0, 47), (1, 47), (2, 9)], 3, 24⟩ := by kernel_rfl
@[go_sem] theorem zk153 : zeroOk Go.Proofs.Tryz.prog 153 = true := by kernel_rfl
@[go_sem] theorem tt153 : typedT Go.Proofs.Tryz.prog 12 153 = false := by kernel_rfl
@[go_sem] theorem zc153 : zcells Go.Proofs.Tryz.prog 12 153 = [.d (.int .u32 0), .d (.int .u32 0), .d (.str [])] := by kernel_rfl
@[go_sem] theorem eg153 : (Go.Proofs.Tryz.prog.eqGuardType Go.Proofs.Tryz.prog.depth 153) = false := by kernel_rfl
@[go_sem] theorem ty154 : ty Go.Proofs.Tryz.prog 154 = ⟨.struct [(0, 47), (1, 47), (2, 9)], 3, 24⟩ := by kernel_rfl
@[go_sem] theorem zk154 : zeroOk Go.Proofs.Tryz.prog 154 = true := by kernel_rfl
@[go_sem] theorem tt154 : typedT Go.Proofs.Tryz.prog 12 154 = false := by kernel_rfl
@[go_sem] theorem zc154 : zcells Go.Proofs.Tryz.prog 12 154 = [.d (.int .u32 0), .d (.int .u32 0), .d (.str [])] := by kernel_rfl
@[go_sem] theorem si154 : (Go.Proofs.Tryz.prog.stoodInHeld 154) = false := by kernel_rfl
@[go_sem] theorem eg154 : (Go.Proofs.Tryz.prog.eqGuardType Go.Proofs.Tryz.prog.depth 154) = false := by kernel_rfl
@[go_sem] theorem ty155 : ty Go.Proofs.Tryz.prog 155 = ⟨.iface, 1, 16⟩ := by kernel_rfl
@[go_sem] theorem zk155 : zeroOk Go.Proofs.Tryz.prog 155 = true := by kernel_rfl
@[go_sem] theorem tt155 : typedT Go.Proofs.Tryz.prog 12 155 = false := by kernel_rfl
@[go_sem] theorem zc155 : zcells Go.Proofs.Tryz.prog 12 155 = [.d .nilif] := by kernel_rfl
@[go_sem] theorem ty156 : ty Go.Proofs.Tryz.prog 156 = ⟨.iface, 1, 16⟩ := by kernel_rfl
@[go_sem] theorem zk156 : zeroOk Go.Proofs.Tryz.prog 156 = true := by kernel_rfl
@[go_sem] theorem tt156 : typedT Go.Proofs.Tryz.prog 12 156 = false := by kernel_rfl
@[go_sem] theorem zc156 : zcells Go.Proofs.Tryz.prog 12 156 = [.d .nilif] := by kernel_rfl
@[go_sem] theorem ty158 : ty Go.Proofs.Tryz.prog 158 = ⟨.func, 1, 8⟩ := by kernel_rfl
@[go_sem] theorem zk158 : zeroOk Go.Proofs.Tryz.prog 158 = true := by kernel_rfl
@[go_sem] theorem tt158 : typedT Go.Proofs.Tryz.prog 12 158 = false := by kernel_rfl
@[go_sem] theorem zc158 : zcells Go.Proofs.Tryz.prog 12 158 = [.nilfn] := by kernel_rfl
@[go_sem] theorem ty159 : ty Go.Proofs.Tryz.prog 159 = ⟨.int .u64, 1, 8⟩ := by kernel_rfl
@[go_sem] theorem zk159 : zeroOk Go.Proofs.Tryz.prog 159 = true := by kernel_rfl
@[go_sem] theorem tt159 : typedT Go.Proofs.Tryz.prog 12 159 = false := by kernel_rfl
@[go_sem] theorem zc159 : zcells Go.Proofs.Tryz.prog 12 159 = [.d (.int .u64 0)] := by kernel_rfl
@[go_sem] theorem ty160 : ty Go.Proofs.Tryz.prog 160 = ⟨.func, 1, 8⟩ := by kernel_rfl
@[go_sem] theorem zk160 : zeroOk Go.Proofs.Tryz.prog 160 = true := by kernel_rfl
@[go_sem] theorem tt160 : typedT Go.Proofs.Tryz.prog 12 160 = false := by kernel_rfl
@[go_sem] theorem zc160 : zcells Go.Proofs.Tryz.prog 12 160 = [.nilfn] := by kernel_rfl
@[go_sem] theorem ty161 : ty Go.Proofs.Tryz.prog 161 = ⟨.func, 1, 8⟩ := by kernel_rfl
@[go_sem] theorem zk161 : zeroOk Go.Proofs.Tryz.prog 161 = true := by kernel_rfl
@[go_sem] theorem tt161 : typedT Go.Proofs.Tryz.prog 12 161 = false := by kernel_rfl
@[go_sem] theorem zc161 : zcells Go.Proofs.Tryz.prog 12 161 = [.nilfn] := by kernel_rfl
@[go_sem] theorem ty162 : ty Go.Proofs.Tryz.prog 162 = ⟨.func, 1, 8⟩ := by kernel_rfl
@[go_sem] theorem zk162 : zeroOk Go.Proofs.Tryz.prog 162 = true := by kernel_rfl
@[go_sem] theorem tt162 : typedT Go.Proofs.Tryz.prog 12 162 = false := by kernel_rfl
@[go_sem] theorem zc162 : zcells Go.Proofs.Tryz.prog 12 162 = [.nilfn] := by kernel_rfl
@[go_sem] theorem ty163 : ty Go.Proofs.Tryz.prog 163 = ⟨.ptr 3, 1, 8⟩ := by kernel_rfl
@[go_sem] theorem zk163 : zeroOk Go.Proofs.Tryz.prog 163 = true := by kernel_rfl
@[go_sem] theorem tt163 : typedT Go.Proofs.Tryz.prog 12 163 = false := by kernel_rfl
@[go_sem] theorem zc163 : zcells Go.Proofs.Tryz.prog 12 163 = [.d .nilp] := by kernel_rfl
@[go_sem] theorem ty164 : ty Go.Proofs.Tryz.prog 164 = ⟨.func, 1, 8⟩ := by kernel_rfl
@[go_sem] theorem zk164 : zeroOk Go.Proofs.Tryz.prog 164 = true := by kernel_rfl
@[go_sem] theorem tt164 : typedT Go.Proofs.Tryz.prog 12 164 = false := by kernel_rfl
@[go_sem] theorem zc164 : zcells Go.Proofs.Tryz.prog 12 164 = [.nilfn] := by kernel_rfl
@[go_sem] theorem ty165 : ty Go.Proofs.Tryz.prog 165 = ⟨.slice 20, 1, 24⟩ := by kernel_rfl
@[go_sem] theorem zk165 : zeroOk Go.Proofs.Tryz.prog 165 = true := by kernel_rfl
@[go_sem] theorem tt165 : typedT Go.Proofs.Tryz.prog 12 165 = false := by kernel_rfl
@[go_sem] theorem zc165 : zcells Go.Proofs.Tryz.prog 12 165 = [.nils 1] := by kernel_rfl
@[go_sem] theorem ty166 : ty Go.Proofs.Tryz.prog 166 = ⟨.func, 1, 8⟩ := by kernel_rfl
@[go_sem] theorem zk166 : zeroOk Go.Proofs.Tryz.prog 166 = true := by kernel_rfl
@[go_sem] theorem tt166 : typedT Go.Proofs.Tryz.prog 12 166 = false := by kernel_rfl
@[go_sem] theorem zc166 : zcells Go.Proofs.Tryz.prog 12 166 = [.nilfn] := by kernel_rfl
@[go_sem] theorem ty167 : ty Go.Proofs.Tryz.prog 167 = ⟨.func, 1, 8⟩ := by kernel_rfl
@[go_sem] theorem zk167 : zeroOk Go.Proofs.Tryz.prog 167 = true := by kernel_rfl
@[go_sem] theorem tt167 : typedT Go.Proofs.Tryz.prog 12 167 = false := by kernel_rfl
@[go_sem] theorem zc167 : zcells Go.Proofs.Tryz.prog 12 167 = [.nilfn] := by kernel_rfl
@[go_sem] theorem ty168 : ty Go.Proofs.Tryz.prog 168 = ⟨.func, 1, 8⟩ := by kernel_rfl
@[go_sem] theorem zk168 : zeroOk Go.Proofs.Tryz.prog 168 = true := by kernel_rfl
@[go_sem] theorem tt168 : typedT Go.Proofs.Tryz.prog 12 168 = false := by kernel_rfl
@[go_sem] theorem zc168 : zcells Go.Proofs.Tryz.prog 12 168 = [.nilfn] := by kernel_rfl
@[go_sem] theorem ty169 : ty Go.Proofs.Tryz.prog 169 = ⟨.func, 1, 8⟩ := by kernel_rfl
@[go_sem] theorem zk169 : zeroOk Go.Proofs.Tryz.prog 169 = true := by kernel_rfl
@[go_sem] theorem tt169 : typedT Go.Proofs.Tryz.prog 12 169 = false := by kernel_rfl
@[go_sem] theorem zc169 : zcells Go.Proofs.Tryz.prog 12 169 = [.nilfn] := by kernel_rfl
@[go_sem] theorem ty170 : ty Go.Proofs.Tryz.prog 170 = ⟨.func, 1, 8⟩ := by kernel_rfl
@[go_sem] theorem zk170 : zeroOk Go.Proofs.Tryz.prog 170 = true := by kernel_rfl
@[go_sem] theorem tt170 : typedT Go.Proofs.Tryz.prog 12 170 = false := by kernel_rfl
@[go_sem] theorem zc170 : zcells Go.Proofs.Tryz.prog 12 170 = [.nilfn] := by kernel_rfl
@[go_sem] theorem ty171 : ty Go.Proofs.Tryz.prog 171 = ⟨.func, 1, 8⟩ := by kernel_rfl
@[go_sem] theorem zk171 : zeroOk Go.Proofs.Tryz.prog 171 = true := by kernel_rfl
@[go_sem] theorem tt171 : typedT Go.Proofs.Tryz.prog 12 171 = false := by kernel_rfl
@[go_sem] theorem zc171 : zcells Go.Proofs.Tryz.prog 12 171 = [.nilfn] := by kernel_rfl
@[go_sem] theorem ty172 : ty Go.Proofs.Tryz.prog 172 = ⟨.int .i64, 1, 8⟩ := by kernel_rfl
@[go_sem] theorem zk172 : zeroOk Go.Proofs.Tryz.prog 172 = true := by kernel_rfl
@[go_sem] theorem tt172 : typedT Go.Proofs.Tryz.prog 12 172 = false := by kernel_rfl
@[go_sem] theorem zc172 : zcells Go.Proofs.Tryz.prog 12 172 = [.d (.int .i64 0)] := by kernel_rfl
@[go_sem] theorem ty174 : ty Go.Proofs.Tryz.prog 174 = ⟨.struct [(0, 9)], 1, 16⟩ := by kernel_rfl
@[go_sem] theorem zk174 : zeroOk Go.Proofs.Tryz.prog 174 = true := by kernel_rfl
@[go_sem] theorem tt174 : typedT Go.Proofs.Tryz.prog 12 174 = false := by kernel_rfl
@[go_sem] theorem zc174 : zcells Go.Proofs.Tryz.prog 12 174 = [.d (.str [])] := by kernel_rfl
@[go_sem] theorem eg174 : (Go.Proofs.Tryz.prog.eqGuardType Go.Proofs.Tryz.prog.depth 174) = false := by kernel_rfl
@[go_sem] theorem ty175 : ty Go.Proofs.Tryz.prog 175 = ⟨.struct [(0, 9)], 1, 16⟩ := by kernel_rfl
@[go_sem] theorem zk175 : zeroOk Go.Proofs.Tryz.prog 175 = true := by kernel_rfl
@[go_sem] theorem tt175 : typedT Go.Proofs.Tryz.prog 12 175 = false := by kernel_rfl
@[go_sem] theorem zc175 : zcells Go.Proofs.Tryz.prog 12 175 = [.d (.str [])] := by kernel_rfl
@[go_sem] theorem eg175 : (Go.Proofs.Tryz.prog.eqGuardType Go.Proofs.Tryz.prog.depth 175) = false := by kernel_rfl
@[go_sem] theorem ty176 : ty Go.Proofs.Tryz.prog 176 = ⟨.func, 1, 8⟩ := by kernel_rfl
@[go_sem] theorem zk176 : zeroOk Go.Proofs.Tryz.prog 176 = true := by kernel_rfl
@[go_sem] theorem tt176 : typedT Go.Proofs.Tryz.prog 12 176 = false := by kernel_rfl
@[go_sem] theorem zc176 : zcells Go.Proofs.Tryz.prog 12 176 = [.nilfn] := by kernel_rfl
@[go_sem] theorem ty177 : ty Go.Proofs.Tryz.prog 177 = ⟨.func, 1, 8⟩ := by kernel_rfl
@[go_sem] theorem zk177 : zeroOk Go.Proofs.Tryz.prog 177 = true := by kernel_rfl
@[go_sem] theorem tt177 : typedT Go.Proofs.Tryz.prog 12 177 = false := by kernel_rfl
@[go_sem] theorem zc177 : zcells Go.Proofs.Tryz.prog 12 177 = [.nilfn] := by kernel_rfl
@[go_sem] theorem ty178 : ty Go.Proofs.Tryz.prog 178 = ⟨.slice 3, 1, 24⟩ := by kernel_rfl
@[go_sem] theorem zk178 : zeroOk Go.Proofs.Tryz.prog 178 = true := by kernel_rfl
@[go_sem] theorem tt178 : typedT Go.Proofs.Tryz.prog 12 178 = false := by kernel_rfl
@[go_sem] theorem zc178 : zcells Go.Proofs.Tryz.prog 12 178 = [.nils 1] := by kernel_rfl
@[go_sem] theorem ty180 : ty Go.Proofs.Tryz.prog 180 = ⟨.func, 1, 8⟩ := by kernel_rfl
@[go_sem] theorem zk180 : zeroOk Go.Proofs.Tryz.prog 180 = true := by kernel_rfl
@[go_sem] theorem tt180 : typedT Go.Proofs.Tryz.prog 12 180 = false := by kernel_rfl
@[go_sem] theorem zc180 : zcells Go.Proofs.Tryz.prog 12 180 = [.nilfn] := by kernel_rfl
@[go_sem] theorem ty182 : ty Go.Proofs.Tryz.prog 182 = ⟨.func, 1, 8⟩ := by kernel_rfl
@[go_sem] theorem zk182 : zeroOk Go.Proofs.Tryz.prog 182 = true := by kernel_rfl
@[go_sem] theorem tt182 : typedT Go.Proofs.Tryz.prog 12 182 = false := by kernel_rfl
@[go_sem] theorem zc182 : zcells Go.Proofs.Tryz.prog 12 182 = [.nilfn] := by kernel_rfl
@[go_sem] theorem ty183 : ty Go.Proofs.Tryz.prog 183 = ⟨.func, 1, 8⟩ := by kernel_rfl
@[go_sem] theorem zk183 : zeroOk Go.Proofs.Tryz.prog 183 = true := by kernel_rfl
@[go_sem] theorem tt183 : typedT Go.Proofs.Tryz.prog 12 183 = false := by kernel_rfl
@[go_sem] theorem zc183 : zcells Go.Proofs.Tryz.prog 12 183 = [.nilfn] := by kernel_rfl
@[go_sem] theorem ty184 : ty Go.Proofs.Tryz.prog 184 = ⟨.func, 1, 8⟩ := by kernel_rfl
@[go_sem] theorem zk184 : zeroOk Go.Proofs.Tryz.prog 184 = true := by kernel_rfl
@[go_sem] theorem tt184 : typedT Go.Proofs.Tryz.prog 12 184 = false := by kernel_rfl
@[go_sem] theorem zc184 : zcells Go.Proofs.Tryz.prog 12 184 = [.nilfn] := by kernel_rfl
@[go_sem] theorem ty185 : ty Go.Proofs.Tryz.prog 185 = ⟨.func, 1, 8⟩ := by kernel_rfl
@[go_sem] theorem zk185 : zeroOk Go.Proofs.Tryz.prog 185 = true := by kernel_rfl
@[go_sem] theorem tt185 : typedT Go.Proofs.Tryz.prog 12 185 = false := by kernel_rfl
@[go_sem] theorem zc185 : zcells Go.Proofs.Tryz.prog 12 185 = [.nilfn] := by kernel_rfl
@[go_sem] theorem ty186 : ty Go.Proofs.Tryz.prog 186 = ⟨.ptr 159, 1, 8⟩ := by kernel_rfl
@[go_sem] theorem zk186 : zeroOk Go.Proofs.Tryz.prog 186 = true := by kernel_rfl
@[go_sem] theorem tt186 : typedT Go.Proofs.Tryz.prog 12 186 = false := by kernel_rfl
@[go_sem] theorem zc186 : zcells Go.Proofs.Tryz.prog 12 186 = [.d .nilp] := by kernel_rfl
@[go_sem] theorem ty188 : ty Go.Proofs.Tryz.prog 188 = ⟨.func, 1, 8⟩ := by kernel_rfl
@[go_sem] theorem zk188 : zeroOk Go.Proofs.Tryz.prog 188 = true := by kernel_rfl
@[go_sem] theorem tt188 : typedT Go.Proofs.Tryz.prog 12 188 = false := by kernel_rfl
@[go_sem] theorem zc188 : zcells Go.Proofs.Tryz.prog 12 188 = [.nilfn] := by kernel_rfl
@[go_sem] theorem ty189 : ty Go.Proofs.Tryz.prog 189 = ⟨.func, 1, 8⟩ := by kernel_rfl
@[go_sem] theorem zk189 : zeroOk Go.Proofs.Tryz.prog 189 = true := by kernel_rfl
@[go_sem] theorem tt189 : typedT Go.Proofs.Tryz.prog 12 189 = false := by kernel_rfl
@[go_sem] theorem zc189 : zcells Go.Proofs.Tryz.prog 12 189 = [.nilfn] := by kernel_rfl
@[go_sem] theorem ty190 : ty Go.Proofs.Tryz.prog 190 = ⟨.func, 1, 8⟩ := by kernel_rfl
@[go_sem] theorem zk190 : zeroOk Go.Proofs.Tryz.prog 190 = true := by kernel_rfl
@[go_sem] theorem tt190 : typedT Go.Proofs.Tryz.prog 12 190 = false := by kernel_rfl
@[go_sem] theorem zc190 : zcells Go.Proofs.Tryz.prog 12 190 = [.nilfn] := by kernel_rfl
@[go_sem] theorem ty192 : ty Go.Proofs.Tryz.prog 192 = ⟨.func, 1, 8⟩ := by kernel_rfl
@[go_sem] theorem zk192 : zeroOk Go.Proofs.Tryz.prog 192 = true := by kernel_rfl
@[go_sem] theorem tt192 : typedT Go.Proofs.Tryz.prog 12 192 = false := by kernel_rfl
@[go_sem] theorem zc192 : zcells Go.Proofs.Tryz.prog 12 192 = [.nilfn] := by kernel_rfl
@[go_sem] theorem ty193 : ty Go.Proofs.Tryz.prog 193 = ⟨.func, 1, 8⟩ := by kernel_rfl
@[go_sem] theorem zk193 : zeroOk Go.Proofs.Tryz.prog 193 = true := by kernel_rfl
@[go_sem] theorem tt193 : typedT Go.Proofs.Tryz.prog 12 193 = false := by kernel_rfl
@[go_sem] theorem zc193 : zcells Go.Proofs.Tryz.prog 12 193 = [.nilfn] := by kernel_rfl
@[go_sem] theorem ty194 : ty Go.Proofs.Tryz.prog 194 = ⟨.func, 1, 8⟩ := by kernel_rfl
@[go_sem] theorem zk194 : zeroOk Go.Proofs.Tryz.prog 194 = true := by kernel_rfl
@[go_sem] theorem tt194 : typedT Go.Proofs.Tryz.prog 12 194 = false := by kernel_rfl
@[go_sem] theorem zc194 : zcells Go.Proofs.Tryz.prog 12 194 = [.nilfn] := by kernel_rfl
@[go_sem] theorem ty196 : ty Go.Proofs.Tryz.prog 196 = ⟨.func, 1, 8⟩ := by kernel_rfl
@[go_sem] theorem zk196 : zeroOk Go.Proofs.Tryz.prog 196 = true := by kernel_rfl
@[go_sem] theorem tt196 : typedT Go.Proofs.Tryz.prog 12 196 = false := by kernel_rfl
@[go_sem] theorem zc196 : zcells Go.Proofs.Tryz.prog 12 196 = [.nilfn] := by kernel_rfl
@[go_sem] theorem ty197 : ty Go.Proofs.Tryz.prog 197 = ⟨.func, 1, 8⟩ := by kernel_rfl
@[go_sem] theorem zk197 : zeroOk Go.Proofs.Tryz.prog 197 = true := by kernel_rfl
@[go_sem] theorem tt197 : typedT Go.Proofs.Tryz.prog 12 197 = false := by kernel_rfl
@[go_sem] theorem zc197 : zcells Go.Proofs.Tryz.prog 12 197 = [.nilfn] := by kernel_rfl
@[go_sem] theorem ty198 : ty Go.Proofs.Tryz.prog 198 = ⟨.func, 1, 8⟩ := by kernel_rfl
@[go_sem] theorem zk198 : zeroOk Go.Proofs.Tryz.prog 198 = true := by kernel_rfl
@[go_sem] theorem tt198 : typedT Go.Proofs.Tryz.prog 12 198 = false := by kernel_rfl
@[go_sem] theorem zc198 : zcells Go.Proofs.Tryz.prog 12 198 = [.nilfn] := by kernel_rfl
@[go_sem] theorem ty199 : ty Go.Proofs.Tryz.prog 199 = ⟨.func, 1, 8⟩ := by kernel_rfl
@[go_sem] theorem zk199 : zeroOk Go.Proofs.Tryz.prog 199 = true := by kernel_rfl
@[go_sem] theorem tt199 : typedT Go.Proofs.Tryz.prog 12 199 = false := by kernel_rfl
@[go_sem] theorem zc199 : zcells Go.Proofs.Tryz.prog 12 199 = [.nilfn] := by kernel_rfl
@[go_sem] theorem ty200 : ty Go.Proofs.Tryz.prog 200 = ⟨.func, 1, 8⟩ := by kernel_rfl
@[go_sem] theorem zk200 : zeroOk Go.Proofs.Tryz.prog 200 = true := by kernel_rfl
@[go_sem] theorem tt200 : typedT Go.Proofs.Tryz.prog 12 200 = false := by kernel_rfl
@[go_sem] theorem zc200 : zcells Go.Proofs.Tryz.prog 12 200 = [.nilfn] := by kernel_rfl
@[go_sem] theorem ty201 : ty Go.Proofs.Tryz.prog 201 = ⟨.func, 1, 8⟩ := by kernel_rfl
@[go_sem] theorem zk201 : zeroOk Go.Proofs.Tryz.prog 201 = true := by kernel_rfl
@[go_sem] theorem tt201 : typedT Go.Proofs.Tryz.prog 12 201 = false := by kernel_rfl
@[go_sem] theorem zc201 : zcells Go.Proofs.Tryz.prog 12 201 = [.nilfn] := by kernel_rfl
@[go_sem] theorem ty203 : ty Go.Proofs.Tryz.prog 203 = ⟨.func, 1, 8⟩ := by kernel_rfl
@[go_sem] theorem zk203 : zeroOk Go.Proofs.Tryz.prog 203 = true := by kernel_rfl
@[go_sem] theorem tt203 : typedT Go.Proofs.Tryz.prog 12 203 = false := by kernel_rfl
@[go_sem] theorem zc203 : zcells Go.Proofs.Tryz.prog 12 203 = [.nilfn] := by kernel_rfl
@[go_sem] theorem ty205 : ty Go.Proofs.Tryz.prog 205 = ⟨.func, 1, 8⟩ := by kernel_rfl
@[go_sem] theorem zk205 : zeroOk Go.Proofs.Tryz.prog 205 = true := by kernel_rfl
@[go_sem] theorem tt205 : typedT Go.Proofs.Tryz.prog 12 205 = false := by kernel_rfl
@[go_sem] theorem zc205 : zcells Go.Proofs.Tryz.prog 12 205 = [.nilfn] := by kernel_rfl
@[go_sem] theorem ty207 : ty Go.Proofs.Tryz.prog 207 = ⟨.func, 1, 8⟩ := by kernel_rfl
@[go_sem] theorem zk207 : zeroOk Go.Proofs.Tryz.prog 207 = true := by kernel_rfl
@[go_sem] theorem tt207 : typedT Go.Proofs.Tryz.prog 12 207 = false := by kernel_rfl
@[go_sem] theorem zc207 : zcells Go.Proofs.Tryz.prog 12 207 = [.nilfn] := by kernel_rfl
@[go_sem] theorem ty208 : ty Go.Proofs.Tryz.prog 208 = ⟨.func, 1, 8⟩ := by kernel_rfl
@[go_sem] theorem zk208 : zeroOk Go.Proofs.Tryz.prog 208 = true := by kernel_rfl
@[go_sem] theorem tt208 : typedT Go.Proofs.Tryz.prog 12 208 = false := by kernel_rfl
@[go_sem] theorem zc208 : zcells Go.Proofs.Tryz.prog 12 208 = [.nilfn] := by kernel_rfl
@[go_sem] theorem ty209 : ty Go.Proofs.Tryz.prog 209 = ⟨.func, 1, 8⟩ := by kernel_rfl
@[go_sem] theorem zk209 : zeroOk Go.Proofs.Tryz.prog 209 = true := by kernel_rfl
@[go_sem] theorem tt209 : typedT Go.Proofs.Tryz.prog 12 209 = false := by kernel_rfl
@[go_sem] theorem zc209 : zcells Go.Proofs.Tryz.prog 12 209 = [.nilfn] := by kernel_rfl
@[go_sem] theorem ty210 : ty Go.Proofs.Tryz.prog 210 = ⟨.func, 1, 8⟩ := by kernel_rfl
@[go_sem] theorem zk210 : zeroOk Go.Proofs.Tryz.prog 210 = true := by kernel_rfl
@[go_sem] theorem tt210 : typedT Go.Proofs.Tryz.prog 12 210 = false := by kernel_rfl
@[go_sem] theorem zc210 : zcells Go.Proofs.Tryz.prog 12 210 = [.nilfn] := by kernel_rfl
@[go_sem] theorem ty211 : ty Go.Proofs.Tryz.prog 211 = ⟨.func, 1, 8⟩ := by kernel_rfl
@[go_sem] theorem zk211 : zeroOk Go.Proofs.Tryz.prog 211 = true := by kernel_rfl
@[go_sem] theorem tt211 : typedT Go.Proofs.Tryz.prog 12 211 = false := by kernel_rfl
@[go_sem] theorem zc211 : zcells Go.Proofs.Tryz.prog 12 211 = [.nilfn] := by kernel_rfl
@[go_sem] theorem ty212 : ty Go.Proofs.Tryz.prog 212 = ⟨.func, 1, 8⟩ := by kernel_rfl
@[go_sem] theorem zk212 : zeroOk Go.Proofs.Tryz.prog 212 = true := by kernel_rfl
@[go_sem] theorem tt212 : typedT Go.Proofs.Tryz.prog 12 212 = false := by kernel_rfl
@[go_sem] theorem zc212 : zcells Go.Proofs.Tryz.prog 12 212 = [.nilfn] := by kernel_rfl
@[go_sem] theorem ty213 : ty Go.Proofs.Tryz.prog 213 = ⟨.struct [(0, 17), (1, 17), (2, 17), (3, 9)], 4, 40⟩ := by kernel_rfl
@[go_sem] theorem zk213 : zeroOk Go.Proofs.Tryz.prog 213 = true := by kernel_rfl
@[go_sem] theorem tt213 : typedT Go.Proofs.Tryz.prog 12 213 = false := by kernel_rfl
@[go_sem] theorem zc213 : zcells Go.Proofs.Tryz.prog 12 213 = [.d .nilp, .d .nilp, .d .nilp, .d (.str [])] := by kernel_rfl
@[go_sem] theorem eg213 : (Go.Proofs.Tryz.prog.eqGuardType Go.Proofs.Tryz.prog.depth 213) = false := by kernel_rfl
@[go_sem] theorem ty215 : ty Go.Proofs.Tryz.prog 215 = ⟨.arr 0 16, 0, 0⟩ := by kernel_rfl
@[go_sem] theorem zk215 : zeroOk Go.Proofs.Tryz.prog 215 = true := by kernel_rfl
@[go_sem] theorem tt215 : typedT Go.Proofs.Tryz.prog 12 215 = false := by kernel_rfl
@[go_sem] theorem zc215 : zcells Go.Proofs.Tryz.prog 12 215 = [] := by kernel_rfl
@[go_sem] theorem eg215 : (Go.Proofs.Tryz.prog.eqGuardType Go.Proofs.Tryz.prog.depth 215) = false := by kernel_rfl
@[go_sem] theorem ty216 : ty Go.Proofs.Tryz.prog 216 = ⟨.bst [(0, 215)], 0, 0⟩ := by kernel_rfl
@[go_sem] theorem zk216 : zeroOk Go.Proofs.Tryz.prog 216 = true := by kernel_rfl
@[go_sem] theorem tt216 : typedT Go.Proofs.Tryz.prog 12 216 = false := by kernel_rfl
@[go_sem] theorem zc216 : zcells Go.Proofs.Tryz.prog 12 216 = [] := by kernel_rfl
@[go_sem] theorem ty218 : ty Go.Proofs.Tryz.prog 218 = ⟨.int .u8, 1, 1⟩ := by kernel_rfl
@[go_sem] theorem zk218 : zeroOk Go.Proofs.Tryz.prog 218 = true := by kernel_rfl
@[go_sem] theorem tt218 : typedT Go.Proofs.Tryz.prog 12 218 = false := by kernel_rfl
@[go_sem] theorem zc218 : zcells Go.Proofs.Tryz.prog 12 218 = [.d (.int .u8 0)] := by kernel_rfl
@[go_sem] theorem ty219 : ty Go.Proofs.Tryz.prog 219 = ⟨.int .u8, 1, 1⟩ := by kernel_rfl
@[go_sem] theorem zk219 : zeroOk Go.Proofs.Tryz.prog 219 = true := by kernel_rfl
@[go_sem] theorem tt219 : typedT Go.Proofs.Tryz.prog 12 219 = false := by kernel_rfl
@[go_sem] theorem zc219 : zcells Go.Proofs.Tryz.prog 12 219 = [.d (.int .u8 0)] := by kernel_rfl
@[go_sem] theorem ty220 : ty Go.Proofs.Tryz.prog 220 = ⟨.func, 1, 8⟩ := by kernel_rfl
@[go_sem] theorem zk220 : zeroOk Go.Proofs.Tryz.prog 220 = true := by kernel_rfl
@[go_sem] theorem tt220 : typedT Go.Proofs.Tryz.prog 12 220 = false := by kernel_rfl
@[go_sem] theorem zc220 : zcells Go.Proofs.Tryz.prog 12 220 = [.nilfn] := by kernel_rfl
@[go_sem] theorem ty221 : ty Go.Proofs.Tryz.prog 221 = ⟨.int .i32, 1, 4⟩ := by kernel_rfl
@[go_sem] theorem zk221 : zeroOk Go.Proofs.Tryz.prog 221 = true := by kernel_rfl
@[go_sem] theorem tt221 : typedT Go.Proofs.Tryz.prog 12 221 = false := by kernel_rfl
@[go_sem] theorem zc221 : zcells Go.Proofs.Tryz.prog 12 221 = [.d (.int .i32 0)] := by kernel_rfl
@[go_sem] theorem ty222 : ty Go.Proofs.Tryz.prog 222 = ⟨.int .i32, 1, 4⟩ := by kernel_rfl
@[go_sem] theorem zk222 : zeroOk Go.Proofs.Tryz.prog 222 = true := by kernel_rfl
@[go_sem] theorem tt222 : typedT Go.Proofs.Tryz.prog 12 222 = false := by kernel_rfl
@[go_sem] theorem zc222 : zcells Go.Proofs.Tryz.prog 12 222 = [.d (.int .i32 0)] := by kernel_rfl
@[go_sem] theorem ty223 : ty Go.Proofs.Tryz.prog 223 = ⟨.struct [(0, 12), (1, 12), (2, 47), (3, 218), (4, 5), (5, 5), (6, 219), (7, 220), (8, 117), (9, 221), (10, 222)], 11, 48⟩ := by kernel_rfl
@[go_sem] theorem zk223 : zeroOk Go.Proofs.Tryz.prog 223 = true := by kernel_rfl
@[go_sem] theorem tt223 : typedT Go.Proofs.Tryz.prog 12 223 = false := by kernel_rfl
@[go_sem] theorem zc223 : zcells Go.Proofs.Tryz.prog 12 223 = [.d (.int .u64 0), .d (.int .u64 0), .d (.int .u32 0), .d (.int .u8 0), .d (.int .u8 0), .d (.int .u8 0), .d (.int .u8 0), .nilfn, .d .nilp, .d (.int .i32 0), .d (.int .i32 0)] := by kernel_rfl
@[go_sem] theorem eg223 : (Go.Proofs.Tryz.prog.eqGuardType Go.Proofs.Tryz.prog.depth 223) = false := by kernel_rfl
@[go_sem] theorem ty224 : ty Go.Proofs.Tryz.prog 224 = ⟨.struct [(0, 12), (1, 12), (2, 47), (3, 218), (4, 5), (5, 5), (6, 219), (7, 220), (8, 117), (9, 221), (10, 222)], 11, 48⟩ := by kernel_rfl
@[go_sem] theorem zk224 : zeroOk Go.Proofs.Tryz.prog 224 = true := by kernel_rfl
@[go_sem] theorem tt224 : typedT Go.Proofs.Tryz.prog 12 224 = false := by kernel_rfl
@[go_sem] theorem zc224 : zcells Go.Proofs.Tryz.prog 12 224 = [.d (.int .u64 0), .d (.int .u64 0), .d (.int .u32 0), .d (.int .u8 0), .d (.int .u8 0), .d (.int .u8 0), .d (.int .u8 0), .nilfn, .d .nilp, .d (.int .i32 0), .d (.int .i32 0)] := by kernel_rfl
@[go_sem] theorem eg224 : (Go.Proofs.Tryz.prog.eqGuardType Go.Proofs.Tryz.prog.depth 224) = false := by kernel_rfl

end Go.Aw
