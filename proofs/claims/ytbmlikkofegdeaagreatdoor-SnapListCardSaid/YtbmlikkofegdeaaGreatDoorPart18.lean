/-
  Parts of the proof: Ty, Shelf, LibS, OnceA, OnceB (short names; the readable texts lie in the repo, under wip).
-/
import Derived.Test.YtbmlikkofegdeaaGreatDoorPart8
import Derived.Test.YtbmlikkofegdeaaGreatDoorProg
import Derived.KernelRfl
import Derived.Shelf.Strings.Prefix
import Derived.Shelf.Strings.Repeat
import Derived.Test.YtbmlikkofegdeaaGreatDoorPart17
import Derived.Test.YtbmlikkofegdeaaGreatDoorPart15
import Derived.WalkKit
import Derived.Tactics
import Derived.Tactics2
import Derived.Defers
import Derived.Laws.Pointers
import Derived.Laws.LoneSync
import Derived.RegionTactic
import Derived.RegionCalls
import Derived.ChangeAlike
import Derived.Test.YtbmlikkofegdeaaGreatDoorPart9
import Derived.Test.YtbmlikkofegdeaaGreatDoorPart10
set_option maxRecDepth 100000
set_option maxHeartbeats 2000000
set_option linter.unusedSimpArgs false
set_option linter.unusedVariables false
namespace Go.Aw
open Go Go.Proofs
@[go_sem] theorem ty3:ty Go.Proofs.Tryz.prog 3=⟨.int .i64,1,8⟩:=by kernel_rfl
@[go_sem] theorem zk3:z7 Go.Proofs.Tryz.prog 3=true:=by kernel_rfl
@[go_sem] theorem tt3:zak Go.Proofs.Tryz.prog 12 3=false:=by kernel_rfl
@[go_sem] theorem zc3:zV Go.Proofs.Tryz.prog 12 3= [.d (.int .i64 0)]:=by kernel_rfl
@[go_sem] theorem ty4:ty Go.Proofs.Tryz.prog 4=⟨.bool,1,1⟩:=by kernel_rfl
@[go_sem] theorem zk4:z7 Go.Proofs.Tryz.prog 4=true:=by kernel_rfl
@[go_sem] theorem tt4:zak Go.Proofs.Tryz.prog 12 4=false:=by kernel_rfl
@[go_sem] theorem zc4:zV Go.Proofs.Tryz.prog 12 4= [.d (.bool false)]:=by kernel_rfl
@[go_sem] theorem ty5:ty Go.Proofs.Tryz.prog 5=⟨.int .u8,1,1⟩:=by kernel_rfl
@[go_sem] theorem zk5:z7 Go.Proofs.Tryz.prog 5=true:=by kernel_rfl
@[go_sem] theorem zc5:zV Go.Proofs.Tryz.prog 12 5= [.d (.int .u8 0)]:=by kernel_rfl
@[go_sem] theorem ty9:ty Go.Proofs.Tryz.prog 9=⟨.str,1,16⟩:=by kernel_rfl
@[go_sem] theorem zk9:z7 Go.Proofs.Tryz.prog 9=true:=by kernel_rfl
@[go_sem] theorem tt9:zak Go.Proofs.Tryz.prog 12 9=false:=by kernel_rfl
@[go_sem] theorem zc9:zV Go.Proofs.Tryz.prog 12 9= [.d (.str [])]:=by kernel_rfl
@[go_sem] theorem ty21:ty Go.Proofs.Tryz.prog 21=⟨.int .i32,1,4⟩:=by kernel_rfl
@[go_sem] theorem ty22:ty Go.Proofs.Tryz.prog 22=⟨.slice 198,1,24⟩:=by kernel_rfl
@[go_sem] theorem tt22:zak Go.Proofs.Tryz.prog 12 22=false:=by kernel_rfl
@[go_sem] theorem ty23:ty Go.Proofs.Tryz.prog 23=⟨.slice 3,1,24⟩:=by kernel_rfl
@[go_sem] theorem zk23:z7 Go.Proofs.Tryz.prog 23=true:=by kernel_rfl
@[go_sem] theorem tt23:zak Go.Proofs.Tryz.prog 12 23=false:=by kernel_rfl
@[go_sem] theorem zc23:zV Go.Proofs.Tryz.prog 12 23= [.nils 1]:=by kernel_rfl
@[go_sem] theorem ty25:ty Go.Proofs.Tryz.prog 25=⟨.struct [(0,9),(1,22),(2,3),(3,4),(4,23)],5,80⟩:=by kernel_rfl
@[go_sem] theorem zk25:z7 Go.Proofs.Tryz.prog 25=true:=by kernel_rfl
@[go_sem] theorem tt25:zak Go.Proofs.Tryz.prog 12 25=false:=by kernel_rfl
@[go_sem] theorem zc25:zV Go.Proofs.Tryz.prog 12 25= [.d (.str []),.nils 2,.d (.int .i64 0),.d (.bool false),.nils 1]:=by kernel_rfl
@[go_sem] theorem ty27:ty Go.Proofs.Tryz.prog 27=⟨.struct [(0,3),(1,3)],2,16⟩:=by kernel_rfl
@[go_sem] theorem zk27:z7 Go.Proofs.Tryz.prog 27=true:=by kernel_rfl
@[go_sem] theorem tt27:zak Go.Proofs.Tryz.prog 12 27=false:=by kernel_rfl
@[go_sem] theorem zc27:zV Go.Proofs.Tryz.prog 12 27= [.d (.int .i64 0),.d (.int .i64 0)]:=by kernel_rfl
@[go_sem] theorem si27:(Go.Proofs.Tryz.prog.stoodInHeld 27)=false:=by kernel_rfl
@[go_sem] theorem eg27:(Go.Proofs.Tryz.prog.eqGuardType Go.Proofs.Tryz.prog.depth 27)=false:=by kernel_rfl
@[go_sem] theorem ty28:ty Go.Proofs.Tryz.prog 28=⟨.int .u64,1,8⟩:=by kernel_rfl
@[go_sem] theorem tt28:zak Go.Proofs.Tryz.prog 12 28=false:=by kernel_rfl
@[go_sem] theorem ty30:ty Go.Proofs.Tryz.prog 30=⟨.struct [(0,28),(1,3)],2,16⟩:=by kernel_rfl
@[go_sem] theorem zk30:z7 Go.Proofs.Tryz.prog 30=true:=by kernel_rfl
@[go_sem] theorem tt30:zak Go.Proofs.Tryz.prog 12 30=false:=by kernel_rfl
@[go_sem] theorem zc30:zV Go.Proofs.Tryz.prog 12 30= [.d (.int .u64 0),.d (.int .i64 0)]:=by kernel_rfl
@[go_sem] theorem si30:(Go.Proofs.Tryz.prog.stoodInHeld 30)=false:=by kernel_rfl
@[go_sem] theorem eg30:(Go.Proofs.Tryz.prog.eqGuardType Go.Proofs.Tryz.prog.depth 30)=false:=by kernel_rfl
@[go_sem] theorem ty31:ty Go.Proofs.Tryz.prog 31=⟨.slice 150,1,24⟩:=by kernel_rfl
@[go_sem] theorem ty33:ty Go.Proofs.Tryz.prog 33=⟨.struct [(0,25),(5,27),(7,30),(9,31),(10,4)],11,144⟩:=by kernel_rfl
@[go_sem] theorem zk33:z7 Go.Proofs.Tryz.prog 33=true:=by kernel_rfl
@[go_sem] theorem tt33:zak Go.Proofs.Tryz.prog 12 33=false:=by kernel_rfl
@[go_sem] theorem zc33:zV Go.Proofs.Tryz.prog 12 33= [.d (.str []),.nils 2,.d (.int .i64 0),.d (.bool false),.nils 1,.d (.int .i64 0),.d (.int .i64 0),.d (.int .u64 0),.d (.int .i64 0),.nils 66,.d (.bool false)]:=by kernel_rfl
@[go_sem] theorem ty34:ty Go.Proofs.Tryz.prog 34=⟨.int .u32,1,4⟩:=by kernel_rfl
@[go_sem] theorem zk34:z7 Go.Proofs.Tryz.prog 34=true:=by kernel_rfl
@[go_sem] theorem tt34:zak Go.Proofs.Tryz.prog 12 34=false:=by kernel_rfl
@[go_sem] theorem zc34:zV Go.Proofs.Tryz.prog 12 34= [.d (.int .u32 0)]:=by kernel_rfl
@[go_sem] theorem ty37:ty Go.Proofs.Tryz.prog 37=⟨.slice 66,1,24⟩:=by kernel_rfl
@[go_sem] theorem ty38:ty Go.Proofs.Tryz.prog 38=⟨.int .i64,1,8⟩:=by kernel_rfl
@[go_sem] theorem zk38:z7 Go.Proofs.Tryz.prog 38=true:=by kernel_rfl
@[go_sem] theorem tt38:zak Go.Proofs.Tryz.prog 12 38=false:=by kernel_rfl
@[go_sem] theorem zc38:zV Go.Proofs.Tryz.prog 12 38= [.d (.int .i64 0)]:=by kernel_rfl
@[go_sem] theorem ty59:ty Go.Proofs.Tryz.prog 59=⟨.struct [(0,3),(1,34)],2,16⟩:=by kernel_rfl
@[go_sem] theorem zk59:z7 Go.Proofs.Tryz.prog 59=true:=by kernel_rfl
@[go_sem] theorem tt59:zak Go.Proofs.Tryz.prog 12 59=false:=by kernel_rfl
@[go_sem] theorem zc59:zV Go.Proofs.Tryz.prog 12 59= [.d (.int .i64 0),.d (.int .u32 0)]:=by kernel_rfl
@[go_sem] theorem ty62:ty Go.Proofs.Tryz.prog 62=⟨.slice 9,1,24⟩:=by kernel_rfl
@[go_sem] theorem zk62:z7 Go.Proofs.Tryz.prog 62=true:=by kernel_rfl
@[go_sem] theorem tt62:zak Go.Proofs.Tryz.prog 12 62=false:=by kernel_rfl
@[go_sem] theorem zc62:zV Go.Proofs.Tryz.prog 12 62= [.nils 1]:=by kernel_rfl
@[go_sem] theorem ty64:ty Go.Proofs.Tryz.prog 64=⟨.struct [(0,23),(1,62)],2,48⟩:=by kernel_rfl
@[go_sem] theorem zk64:z7 Go.Proofs.Tryz.prog 64=true:=by kernel_rfl
@[go_sem] theorem tt64:zak Go.Proofs.Tryz.prog 12 64=false:=by kernel_rfl
@[go_sem] theorem zc64:zV Go.Proofs.Tryz.prog 12 64= [.nils 1,.nils 1]:=by kernel_rfl
@[go_sem] theorem ty66:ty Go.Proofs.Tryz.prog 66=⟨.struct [(0,34),(1,3),(2,9)],3,32⟩:=by kernel_rfl
@[go_sem] theorem zk66:z7 Go.Proofs.Tryz.prog 66=true:=by kernel_rfl
@[go_sem] theorem tt66:zak Go.Proofs.Tryz.prog 12 66=false:=by kernel_rfl
@[go_sem] theorem zc66:zV Go.Proofs.Tryz.prog 12 66= [.d (.int .u32 0),.d (.int .i64 0),.d (.str [])]:=by kernel_rfl
@[go_sem] theorem si66:(Go.Proofs.Tryz.prog.stoodInHeld 66)=false:=by kernel_rfl
@[go_sem] theorem eg66:(Go.Proofs.Tryz.prog.eqGuardType Go.Proofs.Tryz.prog.depth 66)=false:=by kernel_rfl
@[go_sem] theorem ty79:ty Go.Proofs.Tryz.prog 79=⟨.ptr 83,1,8⟩:=by kernel_rfl
@[go_sem] theorem zk79:z7 Go.Proofs.Tryz.prog 79=true:=by kernel_rfl
@[go_sem] theorem tt79:zak Go.Proofs.Tryz.prog 12 79=false:=by kernel_rfl
@[go_sem] theorem zc79:zV Go.Proofs.Tryz.prog 12 79= [.d .nilp]:=by kernel_rfl
@[go_sem] theorem ty83:ty Go.Proofs.Tryz.prog 83=⟨.struct [(0,33),(11,59),(13,37),(14,64),(16,38)],17,240⟩:=by kernel_rfl
@[go_sem] theorem zk83:z7 Go.Proofs.Tryz.prog 83=true:=by kernel_rfl
@[go_sem] theorem tt83:zak Go.Proofs.Tryz.prog 12 83=false:=by kernel_rfl
@[go_sem] theorem zc83:zV Go.Proofs.Tryz.prog 12 83= [.d (.str []),.nils 2,.d (.int .i64 0),.d (.bool false),.nils 1,.d (.int .i64 0),.d (.int .i64 0),.d (.int .u64 0),.d (.int .i64 0),.nils 66,.d (.bool false),.d (.int .i64 0),.d (.int .u32 0),.nils 3,.nils 1,.nils 1,.d (.int .i64 0)]:=by kernel_rfl
@[go_sem] theorem ty90:ty Go.Proofs.Tryz.prog 90=⟨.func,1,8⟩:=by kernel_rfl
@[go_sem] theorem zk90:z7 Go.Proofs.Tryz.prog 90=true:=by kernel_rfl
@[go_sem] theorem zc90:zV Go.Proofs.Tryz.prog 12 90= [.nilfn]:=by kernel_rfl
@[go_sem] theorem ty97:ty Go.Proofs.Tryz.prog 97=⟨.func,1,8⟩:=by kernel_rfl
@[go_sem] theorem tt97:zak Go.Proofs.Tryz.prog 12 97=false:=by kernel_rfl
@[go_sem] theorem ty133:ty Go.Proofs.Tryz.prog 133=⟨.struct [(0,3),(1,3)],2,16⟩:=by kernel_rfl
@[go_sem] theorem zk133:z7 Go.Proofs.Tryz.prog 133=true:=by kernel_rfl
@[go_sem] theorem tt133:zak Go.Proofs.Tryz.prog 12 133=false:=by kernel_rfl
@[go_sem] theorem zc133:zV Go.Proofs.Tryz.prog 12 133= [.d (.int .i64 0),.d (.int .i64 0)]:=by kernel_rfl
@[go_sem] theorem ty136:ty Go.Proofs.Tryz.prog 136=⟨.slice 90,1,24⟩:=by kernel_rfl
@[go_sem] theorem ty148:ty Go.Proofs.Tryz.prog 148=⟨.arr 64 4,64,64⟩:=by kernel_rfl
@[go_sem] theorem ty150:ty Go.Proofs.Tryz.prog 150=⟨.struct [(0,9),(1,4),(2,148)],66,88⟩:=by kernel_rfl
@[go_sem] theorem zk150:z7 Go.Proofs.Tryz.prog 150=true:=by kernel_rfl
@[go_sem] theorem zc150:zV Go.Proofs.Tryz.prog 12 150= [.d (.str []),.d (.bool false)]++List.replicate 64 (.d (.bool false)):=by kernel_rfl
@[go_sem] theorem eg150:(Go.Proofs.Tryz.prog.eqGuardType Go.Proofs.Tryz.prog.depth 150)=false:=by kernel_rfl
@[go_sem] theorem ty166:ty Go.Proofs.Tryz.prog 166=⟨.slice 5,1,24⟩:=by kernel_rfl
@[go_sem] theorem zk166:z7 Go.Proofs.Tryz.prog 166=true:=by kernel_rfl
@[go_sem] theorem tt166:zak Go.Proofs.Tryz.prog 12 166=false:=by kernel_rfl
@[go_sem] theorem zc166:zV Go.Proofs.Tryz.prog 12 166= [.nils 1]:=by kernel_rfl
@[go_sem] theorem ty181:ty Go.Proofs.Tryz.prog 181=⟨.func,1,8⟩:=by kernel_rfl
@[go_sem] theorem ty198:ty Go.Proofs.Tryz.prog 198=⟨.struct [(0,3),(1,9)],2,24⟩:=by kernel_rfl
@[go_sem] theorem zk198:z7 Go.Proofs.Tryz.prog 198=true:=by kernel_rfl
@[go_sem] theorem tt198:zak Go.Proofs.Tryz.prog 12 198=false:=by kernel_rfl
@[go_sem] theorem zc198:zV Go.Proofs.Tryz.prog 12 198= [.d (.int .i64 0),.d (.str [])]:=by kernel_rfl
@[go_sem] theorem si198:(Go.Proofs.Tryz.prog.stoodInHeld 198)=false:=by kernel_rfl
@[go_sem] theorem eg198:(Go.Proofs.Tryz.prog.eqGuardType Go.Proofs.Tryz.prog.depth 198)=false:=by kernel_rfl
@[go_sem] theorem zk223:z7 Go.Proofs.Tryz.prog 223=true:=by kernel_rfl
@[go_sem] theorem tt223:zak Go.Proofs.Tryz.prog 12 223=true:=by kernel_rfl
@[go_sem] theorem zc223:zV Go.Proofs.Tryz.prog 12 223= [.d .nilp,.nils 1]:=by kernel_rfl
@[go_sem] theorem ty245:ty Go.Proofs.Tryz.prog 245=⟨.ptr 247,1,8⟩:=by kernel_rfl
@[go_sem] theorem tt245:zak Go.Proofs.Tryz.prog 12 245=false:=by kernel_rfl
@[go_sem] theorem ty247:ty Go.Proofs.Tryz.prog 247=⟨.struct [(0,64),(2,27),(4,25),(9,38)],10,152⟩:=by kernel_rfl
@[go_sem] theorem zk247:z7 Go.Proofs.Tryz.prog 247=true:=by kernel_rfl
@[go_sem] theorem tt247:zak Go.Proofs.Tryz.prog 12 247=false:=by kernel_rfl
@[go_sem] theorem zc247:zV Go.Proofs.Tryz.prog 12 247= [.nils 1,.nils 1,.d (.int .i64 0),.d (.int .i64 0),.d (.str []),.nils 2,.d (.int .i64 0),.d (.bool false),.nils 1,.d (.int .i64 0)]:=by kernel_rfl
@[go_sem] theorem ty249:ty Go.Proofs.Tryz.prog 249=⟨.func,1,8⟩:=by kernel_rfl
@[go_sem] theorem ty251:ty Go.Proofs.Tryz.prog 251=⟨.struct [(0,3),(1,3),(2,3),(3,181),(4,249)],5,40⟩:=by kernel_rfl
@[go_sem] theorem zk251:z7 Go.Proofs.Tryz.prog 251=true:=by kernel_rfl
@[go_sem] theorem tt251:zak Go.Proofs.Tryz.prog 12 251=false:=by kernel_rfl
@[go_sem] theorem zc251:zV Go.Proofs.Tryz.prog 12 251= [.d (.int .i64 0),.d (.int .i64 0),.d (.int .i64 0),.nilfn,.nilfn]:=by kernel_rfl
@[go_sem] theorem ty259:ty Go.Proofs.Tryz.prog 259=⟨.struct [(0,28),(1,64)],3,56⟩:=by kernel_rfl
@[go_sem] theorem zk259:z7 Go.Proofs.Tryz.prog 259=true:=by kernel_rfl
@[go_sem] theorem tt259:zak Go.Proofs.Tryz.prog 12 259=false:=by kernel_rfl
@[go_sem] theorem zc259:zV Go.Proofs.Tryz.prog 12 259= [.d (.int .u64 0),.nils 1,.nils 1]:=by kernel_rfl
@[go_sem] theorem ty291:ty Go.Proofs.Tryz.prog 291=⟨.slice 4,1,24⟩:=by kernel_rfl
@[go_sem] theorem ty292:ty Go.Proofs.Tryz.prog 292=⟨.arr 4 5,4,4⟩:=by kernel_rfl
@[go_sem] theorem zk292:z7 Go.Proofs.Tryz.prog 292=true:=by kernel_rfl
@[go_sem] theorem tt292:zak Go.Proofs.Tryz.prog 12 292=false:=by kernel_rfl
@[go_sem] theorem zc292:zV Go.Proofs.Tryz.prog 12 292= [.d (.int .u8 0),.d (.int .u8 0),.d (.int .u8 0),.d (.int .u8 0)]:=by kernel_rfl
@[go_sem] theorem ty297:ty Go.Proofs.Tryz.prog 297=⟨.slice 64,1,24⟩:=by kernel_rfl
@[go_sem] theorem ty305:ty Go.Proofs.Tryz.prog 305=⟨.struct [(0,25),(5,38)],6,88⟩:=by kernel_rfl
@[go_sem] theorem zk305:z7 Go.Proofs.Tryz.prog 305=true:=by kernel_rfl
@[go_sem] theorem tt305:zak Go.Proofs.Tryz.prog 12 305=false:=by kernel_rfl
@[go_sem] theorem zc305:zV Go.Proofs.Tryz.prog 12 305= [.d (.str []),.nils 2,.d (.int .i64 0),.d (.bool false),.nils 1,.d (.int .i64 0)]:=by kernel_rfl
@[go_sem] theorem ty307:ty Go.Proofs.Tryz.prog 307=⟨.func,1,8⟩:=by kernel_rfl
@[go_sem] theorem zk307:z7 Go.Proofs.Tryz.prog 307=true:=by kernel_rfl
@[go_sem] theorem zc307:zV Go.Proofs.Tryz.prog 12 307= [.nilfn]:=by kernel_rfl
@[go_sem] theorem ty315:ty Go.Proofs.Tryz.prog 315=⟨.func,1,8⟩:=by kernel_rfl
@[go_sem] theorem tt315:zak Go.Proofs.Tryz.prog 12 315=false:=by kernel_rfl
@[go_sem] theorem ty340:ty Go.Proofs.Tryz.prog 340=⟨.bst [(0,331),(0,334),(1,338)],3,12⟩:=by kernel_rfl
@[go_sem] theorem ty341:ty Go.Proofs.Tryz.prog 341=⟨.arr 256 34,256,1024⟩:=by kernel_rfl
@[go_sem] theorem ty343:ty Go.Proofs.Tryz.prog 343=⟨.struct [(0,340),(3,341)],259,1036⟩:=by kernel_rfl
@[go_sem] theorem zk343:z7 Go.Proofs.Tryz.prog 343=true:=by kernel_rfl
@[go_sem] theorem tt343:zak Go.Proofs.Tryz.prog 12 343=false:=by kernel_rfl
@[go_sem] theorem zc343:zV Go.Proofs.Tryz.prog 12 343= [.d (.int .u32 0),.d (.int .i32 0),.d (.int .u32 0)]++List.replicate 256 (.d (.int .u32 0)):=by kernel_rfl
@[go_sem] theorem ty350:ty Go.Proofs.Tryz.prog 350=⟨.slice 307,1,24⟩:=by kernel_rfl
@[go_sem] theorem ty363:ty Go.Proofs.Tryz.prog 363=⟨.map 3 4,1,8⟩:=by kernel_rfl
@[go_sem] theorem zk363:z7 Go.Proofs.Tryz.prog 363=true:=by kernel_rfl
@[go_sem] theorem tt363:zak Go.Proofs.Tryz.prog 12 363=false:=by kernel_rfl
@[go_sem] theorem zc363:zV Go.Proofs.Tryz.prog 12 363= [.nilmap]:=by kernel_rfl
attribute [go_sem] Tryz.results0 Tryz.results1 Tryz.results2 Tryz.results3 Tryz.results4 Tryz.results5 Tryz.results6 Tryz.results7 Tryz.results8 Tryz.results9 Tryz.results10 Tryz.results11 Tryz.results12 Tryz.results13 Tryz.results14 Tryz.results15 Tryz.results16 Tryz.results17 Tryz.results18 Tryz.results19 Tryz.results20 Tryz.results21 Tryz.results22 Tryz.results23 Tryz.results24 Tryz.results25 Tryz.results26 Tryz.results27 Tryz.results28 Tryz.results29 Tryz.results30 Tryz.results31 Tryz.results32 Tryz.results33 Tryz.results34 Tryz.results35 Tryz.results36 Tryz.results37 Tryz.results38 Tryz.results39
attribute [go_sem] Tryz.results40 Tryz.results41 Tryz.results42 Tryz.results43 Tryz.results44 Tryz.results45 Tryz.results46 Tryz.results47 Tryz.results48 Tryz.results49 Tryz.results50 Tryz.results51 Tryz.results52 Tryz.results53 Tryz.results54 Tryz.results55 Tryz.results56 Tryz.results57 Tryz.results58 Tryz.results59 Tryz.results60 Tryz.results61 Tryz.results62 Tryz.results63 Tryz.results64 Tryz.results65 Tryz.results66 Tryz.results67 Tryz.results68 Tryz.results69 Tryz.results70 Tryz.results71 Tryz.results72 Tryz.results73 Tryz.results74 Tryz.results75 Tryz.results76 Tryz.results77 Tryz.results78 Tryz.results79
attribute [go_sem] Tryz.results80 Tryz.results81 Tryz.results82 Tryz.results83 Tryz.results84 Tryz.results85 Tryz.results86 Tryz.results87 Tryz.results88 Tryz.results89 Tryz.results90 Tryz.results91 Tryz.results92 Tryz.results93 Tryz.results94 Tryz.results95 Tryz.results96 Tryz.results97 Tryz.results98 Tryz.results99 Tryz.results100 Tryz.results101 Tryz.results102 Tryz.results103 Tryz.results104 Tryz.results105 Tryz.results106 Tryz.results107 Tryz.results108 Tryz.results109 Tryz.results110 Tryz.results111 Tryz.results112 Tryz.results113 Tryz.results114 Tryz.results115 Tryz.results116 Tryz.results117 Tryz.results118 Tryz.results119
attribute [go_sem] Tryz.results120 Tryz.results121 Tryz.results122 Tryz.results123 Tryz.results124 Tryz.results125 Tryz.results126 Tryz.results127 Tryz.results128 Tryz.results129 Tryz.results130 Tryz.results131 Tryz.results132 Tryz.results133 Tryz.results134 Tryz.results135 Tryz.results136 Tryz.results137 Tryz.results138 Tryz.results139 Tryz.results140 Tryz.results141 Tryz.results142 Tryz.results143 Tryz.results144 Tryz.results145 Tryz.results146 Tryz.results147 Tryz.results148 Tryz.results149 Tryz.results150 Tryz.results151 Tryz.results152 Tryz.results153 Tryz.results154 Tryz.results155 Tryz.results156 Tryz.results157 Tryz.results158 Tryz.results159
attribute [go_sem] Tryz.results160 Tryz.results161 Tryz.results162 Tryz.results163 Tryz.results164 Tryz.results165 Tryz.results166 Tryz.results167 Tryz.results168 Tryz.results169 Tryz.results170 Tryz.results171 Tryz.results172 Tryz.results173 Tryz.results174 Tryz.results175 Tryz.results176 Tryz.results177 Tryz.results178 Tryz.results179 Tryz.results180 Tryz.results181 Tryz.results182 Tryz.results183 Tryz.results184 Tryz.results185 Tryz.results186 Tryz.results187 Tryz.results188 Tryz.results189 Tryz.results190 Tryz.results191 Tryz.results192 Tryz.results193 Tryz.results194 Tryz.results195 Tryz.results196 Tryz.results197 Tryz.results198 Tryz.results199
attribute [go_sem] Tryz.results200 Tryz.results201 Tryz.results202 Tryz.results203 Tryz.results204 Tryz.results205 Tryz.results206 Tryz.results207 Tryz.results208 Tryz.results209 Tryz.results210 Tryz.results211 Tryz.results212 Tryz.results213 Tryz.results214 Tryz.results215 Tryz.results216 Tryz.results217 Tryz.results218 Tryz.results219 Tryz.results220 Tryz.results221 Tryz.results222 Tryz.results223 Tryz.results224 Tryz.results225 Tryz.results226 Tryz.results227 Tryz.results228 Tryz.results229 Tryz.results230 Tryz.results231 Tryz.results232 Tryz.results233 Tryz.results234 Tryz.results235 Tryz.results236 Tryz.results237 Tryz.results238 Tryz.results239
attribute [go_sem] Tryz.results240 Tryz.results241 Tryz.results242 Tryz.results243 Tryz.results244 Tryz.results245 Tryz.results246 Tryz.results247 Tryz.results248 Tryz.results249 Tryz.results250 Tryz.results251 Tryz.results252 Tryz.results253 Tryz.results254 Tryz.results255 Tryz.results256 Tryz.results257 Tryz.results258 Tryz.results259 Tryz.results260 Tryz.results261 Tryz.results262 Tryz.results263 Tryz.results264 Tryz.results265 Tryz.results266 Tryz.results267 Tryz.results268 Tryz.results269 Tryz.results270 Tryz.results271 Tryz.results272 Tryz.results273 Tryz.results274 Tryz.results275 Tryz.results276 Tryz.results277 Tryz.results278 Tryz.results279
attribute [go_sem] Tryz.results280 Tryz.results281 Tryz.results282 Tryz.results283 Tryz.results284 Tryz.results285 Tryz.results286 Tryz.results287 Tryz.results288 Tryz.results289 Tryz.results290 Tryz.results291 Tryz.results292 Tryz.results293 Tryz.results294 Tryz.results295 Tryz.results296 Tryz.results297 Tryz.results298 Tryz.results299 Tryz.results300 Tryz.results301 Tryz.results302 Tryz.results303 Tryz.results304 Tryz.results305 Tryz.results306 Tryz.results307 Tryz.results308 Tryz.results309 Tryz.results310 Tryz.results311 Tryz.results312 Tryz.results313 Tryz.results314 Tryz.results315 Tryz.results316 Tryz.results317 Tryz.results318 Tryz.results319
attribute [go_sem] Tryz.results320 Tryz.results321 Tryz.results322 Tryz.results323 Tryz.results324 Tryz.results325 Tryz.results326 Tryz.results327 Tryz.results328 Tryz.results329 Tryz.results330 Tryz.results331 Tryz.results332 Tryz.results333 Tryz.results334 Tryz.results335 Tryz.results336 Tryz.results337 Tryz.results338 Tryz.results339 Tryz.results340 Tryz.results341 Tryz.results342 Tryz.results343 Tryz.results344 Tryz.results345 Tryz.results346 Tryz.results347 Tryz.results348 Tryz.results349 Tryz.results350 Tryz.results351 Tryz.results352 Tryz.results353 Tryz.results354 Tryz.results355 Tryz.results356 Tryz.results357 Tryz.results358 Tryz.results359
attribute [go_sem] Tryz.results360 Tryz.results361 Tryz.results362 Tryz.results363 Tryz.results364 Tryz.results365
abbrev AC (f:FuncId) (args:List AV) (r:AV):Prop:=ACall Go.Proofs.Tryz.prog f 0 args [] fun v _=>v=r
theorem mx:Go.Proofs.Tryz.prog.follows .mixedOrders=true:=by kernel_rfl
end Go.Aw
namespace Go.Proofs
open Go.Shelf
def Tryz.lays99_ren:Go.Shelf.Ren:=⟨fun|99=>164|206=>221|n=>n,fun|9=>9|4=>4|3=>3|n=>n,fun|n=>n⟩
theorem Tryz.lays99:Go.Proofs.Lays.n99 Tryz.prog Tryz.lays99_ren:= {
 mixed:=by kernel_rfl
 f99:=Tryz.func164.trans (congrArg some (by kernel_rfl))
 f206:=Tryz.func221.trans (congrArg some (by kernel_rfl))
 t3:=Tryz.underlying3
 a3:=Tryz.isAgg3
 z3:=Tryz.sizeOf3
 v3:=Tryz.zeroValue3
 t4:=Tryz.underlying4
 a4:=Tryz.isAgg4
 z4:=Tryz.sizeOf4
 v4:=Tryz.zeroValue4
 t9:=Tryz.underlying9
 a9:=Tryz.isAgg9
 z9:=Tryz.sizeOf9
 v9:=Tryz.zeroValue9 }
open Go.RowKit Go.Lib in
theorem Tryz.strings_HasPrefix (s p:ByteArray) (w:World):
  Calls Tryz.prog 164 #[.string s,.string p] w fun e w'=>e= .returned (.bool (Lib.hasPrefix s.data.toList p.data.toList))∧w'=w:=Any.strings_HasPrefix Tryz.lays99 s p w
def Tryz.lays105_ren:Go.Shelf.Ren:=⟨fun|105=>91|212=>163|99=>164|165=>165|166=>166|170=>167|169=>168|263=>219|264=>220|206=>221|240=>222|241=>223|276=>266|277=>267|n=>n,fun|9=>9|3=>3|4=>4|20=>20|0=>0|46=>200|109=>218|5=>5|72=>223|76=>227|51=>34|146=>282|53=>28|148=>284|70=>221|37=>166|75=>226|127=>286|164=>326|80=>230|n=>n,fun|n=>n⟩
theorem Tryz.lays105:Go.Proofs.Lays.n105 Tryz.prog Tryz.lays105_ren:= {
 mixed:=by kernel_rfl
 f99:=Tryz.func164.trans (congrArg some (by kernel_rfl))
 f105:=Tryz.func91.trans (congrArg some (by kernel_rfl))
 f165:=Tryz.func165.trans (congrArg some (by kernel_rfl))
 f166:=Tryz.func166.trans (congrArg some (by kernel_rfl))
 f169:=Tryz.func168.trans (congrArg some (by kernel_rfl))
 f170:=Tryz.func167.trans (congrArg some (by kernel_rfl))
 f206:=Tryz.func221.trans (congrArg some (by kernel_rfl))
 f212:=Tryz.func163.trans (congrArg some (by kernel_rfl))
 f240:=Tryz.func222.trans (congrArg some (by kernel_rfl))
 f241:=Tryz.func223.trans (congrArg some (by kernel_rfl))
 f263:=Tryz.func219.trans (congrArg some (by kernel_rfl))
 f264:=Tryz.func220.trans (congrArg some (by kernel_rfl))
 f276:=Tryz.func266.trans (congrArg some (by kernel_rfl))
 f277:=Tryz.func267.trans (congrArg some (by kernel_rfl))
 t0:=Tryz.underlying0
 a0:=Tryz.isAgg0
 z0:=Tryz.sizeOf0
 v0:=Tryz.zeroValue0
 t3:=Tryz.underlying3
 a3:=Tryz.isAgg3
 z3:=Tryz.sizeOf3
 v3:=Tryz.zeroValue3
 t4:=Tryz.underlying4
 a4:=Tryz.isAgg4
 z4:=Tryz.sizeOf4
 v4:=Tryz.zeroValue4
 t5:=Tryz.underlying5
 a5:=Tryz.isAgg5
 z5:=Tryz.sizeOf5
 v5:=Tryz.zeroValue5
 t9:=Tryz.underlying9
 a9:=Tryz.isAgg9
 z9:=Tryz.sizeOf9
 v9:=Tryz.zeroValue9
 t20:=Tryz.underlying20
 a20:=Tryz.isAgg20
 z20:=Tryz.sizeOf20
 v20:=Tryz.zeroValue20
 t37:=Tryz.underlying166
 a37:=Tryz.isAgg166
 z37:=Tryz.sizeOf166
 v37:=Tryz.zeroValue166
 t46:=Tryz.underlying200
 a46:=Tryz.isAgg200
 z46:=Tryz.sizeOf200
 v46:=Tryz.zeroValue200
 t51:=Tryz.underlying34
 a51:=Tryz.isAgg34
 z51:=Tryz.sizeOf34
 v51:=Tryz.zeroValue34
 t53:=Tryz.underlying28
 a53:=Tryz.isAgg28
 z53:=Tryz.sizeOf28
 v53:=Tryz.zeroValue28
 t70:=Tryz.underlying221
 a70:=Tryz.isAgg221
 z70:=Tryz.sizeOf221
 v70:=Tryz.zeroValue221
 t72:=Tryz.underlying223
 a72:=Tryz.isAgg223
 z72:=Tryz.sizeOf223
 v72:=Tryz.zeroValue223
 t75:=Tryz.underlying226
 a75:=Tryz.isAgg226
 z75:=Tryz.sizeOf226
 v75:=Tryz.zeroValue226
 t76:=Tryz.underlying227
 a76:=Tryz.isAgg227
 z76:=Tryz.sizeOf227
 v76:=Tryz.zeroValue227
 t109:=Tryz.underlying218
 a109:=Tryz.isAgg218
 z109:=Tryz.sizeOf218
 v109:=Tryz.zeroValue218
 t127:=Tryz.underlying286
 a127:=Tryz.isAgg286
 z127:=Tryz.sizeOf286
 v127:=Tryz.zeroValue286
 t146:=Tryz.underlying282
 a146:=Tryz.isAgg282
 z146:=Tryz.sizeOf282
 v146:=Tryz.zeroValue282
 t148:=Tryz.underlying284
 a148:=Tryz.isAgg284
 z148:=Tryz.sizeOf284
 v148:=Tryz.zeroValue284
 t164:=Tryz.underlying326
 a164:=Tryz.isAgg326
 z164:=Tryz.sizeOf326
 v164:=Tryz.zeroValue326 }
theorem Tryz.Builder_Extra_105:Builder.Extra Tryz.prog Tryz.lays105_ren:= {
 sizeBuilder:=by kernel_rfl
 liesBuilder:=by kernel_rfl
 t5:=Tryz.underlying5
 a5:=Tryz.isAgg5
 z5:=Tryz.sizeOf5
 v5:=Tryz.zeroValue5
 infoByte:=by kernel_rfl
 cellsByte:=by kernel_rfl
 sizeByte:=by kernel_rfl
 neB5:=by decide }
open Go.RowKit Go.Lib in
theorem Tryz.strings_Repeat (s:ByteArray) (c:Nat) (w:World) (hc:c≤9223372036854775807) (hlen:s.size*c≤140737488355328):
  Calls Tryz.prog 91 #[.string s,.int .i64 c] w fun e w'=>e= .returned (.string ⟨(Lib.repeatL s.data.toList c).toArray⟩)∧Below w.heap.size w w':=Any.strings_Repeat Tryz.lays105 Tryz.Builder_Extra_105 s c w hc hlen
end Go.Proofs
namespace Go.Aw
open Go Go.Proofs Go.RowKit
theorem zhw {P:Program} {f:FuncId} {args:List AV} {r:AV} {v:Value} (hen:zfy P f) (h:∀E w (vs:Array Value),Reps w E [] args vs.toList→Calls P f vs w (fun e w'=>e= .returned v∧Below w.heap.size w w')) (hr:∀w E,Rep w E [] r v):ACall P f 0 args [] (fun r' _=>r'=r):=by
 refine ⟨hen,fun E w vs hs hra=>(h E w vs hra).mono ?_⟩
 rintro e w' ⟨rfl,hb⟩
 have hno:∀b,¬Own E [] b:=fun b ⟨i,hi,_⟩=>by simp [hget] at hi
 refine ⟨v,E,r,[],rfl,rfl,⟨fun i o ho=>by simp [hget] at ho,fun i j b h1=>by simp [hget] at h1,fun b hb=>absurd hb (hno b),fun b hm=>Nat.lt_of_lt_of_le (hs.mlt b hm) hb.size,fun b hm=>Nat.lt_of_lt_of_le (hs.nlt b hm) hb.size⟩,hr w' E,?_⟩
 exact ⟨hb.os,hb.tape,hb.output,hb.size,fun k hk _=>hb.block k hk,fun b ho=> .inl ho,rfl,rfl,fun i _ hi=>by simp [hget] at hi⟩
theorem zsG (n:Nat) (hn:n≤140737488355328):ACall Tryz.prog 91 0 [.d (.str [0]),.d (.int .i64 n)] [] (fun r _=>r= .d (.str (List.replicate n 0))):=by
 refine zhw (v:= .string ⟨(List.replicate n 0).toArray⟩) (zcK Tryz.func91 (by kernel_rfl) rfl) ?_ (fun w E=>by simp [Rep,RepD])
 intro E w vs hr
 simp only [Reps,Rep,RepD] at hr
 obtain ⟨v1,r1,e1,rfl,v2,r2,rfl,rfl,rfl⟩:=hr
 have hvs:vs= #[.string ⟨#[0]⟩,.int .i64 n]:=by cases vs;simpa using e1
 subst hvs
 have:=Tryz.strings_Repeat ⟨#[0]⟩ n w (by omega) (by simpa [ByteArray.size] using hn)
 refine this.mono ?_
 rintro e w' ⟨rfl,hb⟩
 refine ⟨?_,hb⟩
 have:=Lib.repeatL_replicate 0 1 n
 simp only [List.replicate_one,Nat.mul_one,Nat.one_mul] at this
 show Ending.returned (.string ⟨(Lib.repeatL [0] n).toArray⟩)=_
 rw [this]
theorem zky (s p:List UInt8) (_:True):AC 164 [.d (.str s),.d (.str p)] (.d (.bool (p.isPrefixOf s))):=by
 refine zhw (v:= .bool (p.isPrefixOf s)) (zcK Tryz.func164 (by kernel_rfl) rfl) ?_ (fun w E=>by simp [Rep,RepD])
 intro E w vs hr
 simp only [Reps,Rep,RepD] at hr
 obtain ⟨v1,r1,e1,rfl,v2,r2,rfl,rfl,rfl⟩:=hr
 have hvs:vs= #[.string ⟨s.toArray⟩,.string ⟨p.toArray⟩]:=by cases vs;simpa using e1
 subst hvs
 have:=Tryz.strings_HasPrefix ⟨s.toArray⟩ ⟨p.toArray⟩ w
 refine this.mono ?_
 rintro e w' ⟨rfl,rfl⟩
 exact ⟨by simp [Lib.hasPrefix],Below.refl _ _⟩
@[go_sem] noncomputable def ze7:Ent Tryz.prog 164:= .m2 strT strT zky
end Go.Aw
namespace Go.Proofs.YtbmlikkofegdeaaGreatDoor
open Go Go.RowKit
theorem disable (w:World):(callFunc 326 #[]).run Tryz.prog w= .ok (.value (.tuple #[])) w:=run_call_mark0 Tryz.func326 (by kernel_rfl) (by kernel_rfl) (by kernel_rfl) .disable (by kernel_rfl) w
theorem enable (w:World):(callFunc 328 #[]).run Tryz.prog w= .ok (.value (.tuple #[])) w:=run_call_mark0 Tryz.func328 (by kernel_rfl) (by kernel_rfl) (by kernel_rfl) .enable (by kernel_rfl) w
theorem acquire (a:Addr) (w:World):(callFunc 329 #[.pointer (some a)]).run Tryz.prog w= .ok (.value (.tuple #[])) w:=run_call_marked Tryz.func329 (by kernel_rfl) (by kernel_rfl) (by kernel_rfl) .acquire (by kernel_rfl) a w
theorem releaseMerge (a:Addr) (w:World):(callFunc 331 #[.pointer (some a)]).run Tryz.prog w= .ok (.value (.tuple #[])) w:=run_call_marked Tryz.func331 (by kernel_rfl) (by kernel_rfl) (by kernel_rfl) .releaseMerge (by kernel_rfl) a w
theorem zin (a:Addr) (x:Value) (u:FrameMode) (w:World) (hc:w.cell? a=some x) (hz:w.frozen? a=false):
  CallsD Tryz.prog 314 #[.pointer (some a),.bool true] u w fun e u' w'=>u'=u∧(e= .returned (.tuple #[])∧w'=w.drew.setCell a (.int .u32 1)):=by
 have hc':w.drew.cell? a=some x:=by go_simp
 have hz':w.drew.frozen? a=false:=by go_simp
 have hst:=run_call_store (P:=Tryz.prog) Tryz.func320 (by kernel_rfl) (by kernel_rfl) (by kernel_rfl) (by kernel_rfl) (k:= .u32) (y:=1) hc' hz'
 go_enter_d Tryz.func314,Tryz.ntmps314
 go_wp2
 go_region_calls
 all_goals (go_end0;exact ⟨rfl,rfl⟩)
theorem zkU (a:Addr) (w:World) (hc:w.cell? a=some (.int .i32 1)) (hz:w.frozen? a=false):
  Calls Tryz.prog 319 #[.pointer (some a)] w fun e w'=>e= .returned (.tuple #[])∧w'=w.setCell a (.int .i32 0):=by
 have hd:=disable
 have he:=enable
 have hr:=releaseMerge
 have hadd:=run_call_add (P:=Tryz.prog) Tryz.func332 (by kernel_rfl) (by kernel_rfl) (by kernel_rfl) .i32 (by kernel_rfl) (y:= -1) (s:=0) hc hz (by simp [go_sem];rfl)
 have hcv:=run_convert_to_unsafe (P:=Tryz.prog) (src:=391) (dst:=326) Tryz.underlying391 Tryz.underlying326 (by kernel_rfl) hc
 go_enter Tryz.func319,Tryz.ntmps319
 go_wp2
 go_end0
 exact ⟨rfl,rfl⟩
theorem zhI (a:Addr) (u:FrameMode) (w:World) (hc:w.cell? a=some (.int .i32 1)) (hz:w.frozen? a=false):
  CallsD Tryz.prog 313 #[.pointer (some a)] u w fun e u' w'=>u'=u∧(e= .returned (.tuple #[])∧w'=w.setCell a (.int .i32 0)):=by
 go_enter_d Tryz.func313,Tryz.ntmps313
 go_wp2_with (go_at_call 319;refine (zkU a _ (by go_simp) (by go_simp)).mono ?_;rintro e w' ⟨rfl,rfl⟩)
 go_end0
 exact ⟨rfl,rfl⟩
theorem zoS (a:Addr) (w:World) (hc:w.cell? a=some (.int .i32 0)) (hz:w.frozen? a=false):
  Calls Tryz.prog 318 #[.pointer (some a)] w fun e w'=>e= .returned (.tuple #[])∧w'=w.setCell a (.int .i32 1):=by
 have hd:=disable
 have he:=enable
 have ha:=acquire
 have hcas:=run_call_cas_hit (P:=Tryz.prog) Tryz.func327 (by kernel_rfl) (by kernel_rfl) (by kernel_rfl) .i32 (by kernel_rfl) (y:=1) hc hz
 have hc':(w.setCell a (.int .i32 1)).cell? a=some (.int .i32 1):=World.cell?_setCell_same w a _ hc
 have hcv:=run_convert_to_unsafe (P:=Tryz.prog) (src:=391) (dst:=326) Tryz.underlying391 Tryz.underlying326 (by kernel_rfl) hc'
 go_enter Tryz.func318,Tryz.ntmps318
 go_wp2
 first|go_end0|(simp only [Exit.inBlock,Exit.then];refine bodyPost_ret (results_none rfl _ _ _) rfl ?_)|refine bodyPost_ret (results_none rfl _ _ _) rfl ?_
 exact ⟨rfl,rfl⟩
theorem zqV (a:Addr) (w:World) (hc:w.cell? a=some (.int .i32 0)) (hz:w.frozen? a=false):
  Calls Tryz.prog 312 #[.pointer (some a)] w fun e w'=>e= .returned (.tuple #[])∧w'=w.setCell a (.int .i32 1):=by
 go_enter Tryz.func312,Tryz.ntmps312
 go_wp2_with (go_at_call 318;refine (zoS a _ (by go_simp) (by go_simp)).mono ?_;rintro e w' ⟨rfl,rfl⟩)
 go_end0
 exact ⟨rfl,rfl⟩
theorem zkV (a:Addr) (x:Int) (w:World) (hc:w.cell? a=some (.int .u32 x)):
  Calls Tryz.prog 303 #[.pointer (some a)] w fun e w'=>e= .returned (.bool (x !=0))∧w'=w:=by
 have hl:=run_call_load (P:=Tryz.prog) Tryz.func311 (by kernel_rfl) (by kernel_rfl) (by kernel_rfl) .u32 (by kernel_rfl) hc
 go_enter Tryz.func303,Tryz.ntmps303
 go_wp2
 go_ret
 exact ⟨rfl,rfl⟩
set_option maxHeartbeats 1600000 in
theorem zs7 (b off:Nat) (p:Value) (w:World) (R:World→Prop)
  (h0:w.cell? ⟨b,off,none⟩=some (.int .u32 0)) (h1:w.cell? ⟨b,off+1,none⟩=some (.int .i32 0)) (f0:w.frozen? ⟨b,off,none⟩=false) (f1:w.frozen? ⟨b,off+1,none⟩=false)
  (hf:Calls Tryz.prog 291 #[p] (w.setCell ⟨b,off+1,none⟩ (.int .i32 1)) fun e w2=>e= .returned (.tuple #[])∧R w2)
  (hR:∀w2,R w2→w2.cell? ⟨b,off,none⟩=some (.int .u32 0)∧w2.cell? ⟨b,off+1,none⟩=some (.int .i32 1)∧w2.frozen? ⟨b,off,none⟩=false∧w2.frozen? ⟨b,off+1,none⟩=false):
  Calls Tryz.prog 304 #[.pointer (some ⟨b,off,none⟩),.func (.func 291) #[p] #[]] w fun e w'=>e= .returned (.tuple #[])∧
   ∃w2,R w2∧w'=(w2.drew.setCell ⟨b,off,none⟩ (.int .u32 1)).setCell ⟨b,off+1,none⟩ (.int .i32 0):=by
 have hnot:∀ (x:Bool) (w:World),(Op.unary .not (.bool x)).run Tryz.prog w= .ok (.bool (!x)) w:=fun _ _=>rfl
 have hld:(w.setCell ⟨b,off+1,none⟩ (.int .i32 1)).cell? ⟨b,off,none⟩=some (.int .u32 0):=(World.cell?_setCell_other _ ⟨b,off+1,none⟩ ⟨b,off,none⟩ _ (by simp)).trans h0
 go_enter_defers Tryz.func304,Tryz.ntmps304
 go_wp2_with (first
  |(go_at_call 312;refine (zqV ⟨b,off+1,none⟩ _ (by go_simp) (by go_simp)).mono ?_;rintro e w' ⟨rfl,rfl⟩)
  |(go_at_call 303;refine (zkV ⟨b,off,none⟩ 0 _ hld).mono ?_;rintro e w' ⟨rfl,rfl⟩)
  |(go_at_call 291;refine hf.mono ?_;rintro e w2 ⟨rfl,hr⟩))
 obtain ⟨g0,g1,g2,g3⟩:=hR w2 hr
 refine leaves_cons (f:=314) (args:= #[.pointer (some ⟨b,off,none⟩),.bool true]) (by simp) (by simp [go_sem]) ?_
 refine (zin ⟨b,off,none⟩ (.int .u32 0) .returning _ g0 g2).mono ?_
 rintro e u' w'' ⟨rfl,rfl,rfl⟩
 refine leaves_cons (f:=313) (args:= #[.pointer (some ⟨b,off+1,none⟩)]) (by simp [settle]) (by simp [go_sem]) ?_
 refine (zhI ⟨b,off+1,none⟩ _ _ ?_ (by simp [g3])).mono ?_
 ·refine (World.cell?_setCell_other _ ⟨b,off,none⟩ ⟨b,off+1,none⟩ _ (by simp)).trans ?_
  rw [World.cell?_drew]
  exact g1
 rintro e u' w'' ⟨rfl,rfl,rfl⟩
 simp only [Leaves,settle]
 exact ⟨.tuple #[],by simp [results,Tryz.results304],rfl,w2,hr,rfl⟩
set_option maxHeartbeats 1600000 in
theorem do_first (b off:Nat) (p:Value) (w:World) (R:World→Prop)
  (h0:w.cell? ⟨b,off,none⟩=some (.int .u32 0)) (h1:w.cell? ⟨b,off+1,none⟩=some (.int .i32 0)) (f0:w.frozen? ⟨b,off,none⟩=false) (f1:w.frozen? ⟨b,off+1,none⟩=false)
  (hf:Calls Tryz.prog 291 #[p] (w.setCell ⟨b,off+1,none⟩ (.int .i32 1)) fun e w2=>e= .returned (.tuple #[])∧R w2)
  (hR:∀w2,R w2→w2.cell? ⟨b,off,none⟩=some (.int .u32 0)∧w2.cell? ⟨b,off+1,none⟩=some (.int .i32 1)∧w2.frozen? ⟨b,off,none⟩=false∧w2.frozen? ⟨b,off+1,none⟩=false):
  Calls Tryz.prog 290 #[.pointer (some ⟨b,off,none⟩),.func (.func 291) #[p] #[]] w fun e w'=>e= .returned (.tuple #[])∧
   ∃w2,R w2∧w'=(w2.drew.setCell ⟨b,off,none⟩ (.int .u32 1)).setCell ⟨b,off+1,none⟩ (.int .i32 0):=by
 have hnot:∀ (x:Bool) (w:World),(Op.unary .not (.bool x)).run Tryz.prog w= .ok (.bool (!x)) w:=fun _ _=>rfl
 go_enter Tryz.func290,Tryz.ntmps290
 go_wp2_with (first
  |(go_at_call 303;refine (zkV ⟨b,off,none⟩ 0 _ h0).mono ?_;rintro e w' ⟨rfl,rfl⟩)
  |(go_at_call 304;refine (zs7 b off p _ R h0 h1 f0 f1 hf hR).mono ?_;rintro e w' ⟨rfl,w2,hr,rfl⟩))
 go_end0
 exact ⟨rfl,w2,hr,rfl⟩
end Go.Proofs.YtbmlikkofegdeaaGreatDoor
namespace Go.Aw
open Go Go.Proofs
section
variable {P : Program} {w w' : World} {E E' : Env} {h h' : AHeap}
theorem zhJ:∀ (h:AHeap) (i:Nat) (a b:AObj),hset (hset h i a) i b=hset h i b
  | [],_,_,_=>rfl
  | (k,o)::r,i,a,b=>by
    by_cases hk:k=i
    · simp [hset,hk]
    · simp [hset,hk,zhJ r]
theorem zbi {h:AHeap} {i j:Nat} {o:AObj} (hi:(hget h i).isSome):(hget (hset h i o) j).isSome=(hget h j).isSome:=by
 by_cases hj:j=i
 ·subst hj
  obtain ⟨x,hx⟩:=Option.isSome_iff_exists.1 hi
  rw [zf hx,hx]
  rfl
 ·rw [zF hj]
theorem poke (hs:SatH E h w) {i o b:Nat} {cs:List AV} (hi:hget h i=some (.var cs)) (hb:E.O i=some b) {x:AV} {v:Value} (hr:Rep w E h x v):
  Chg E h w E (hset h i (.var (cs.set o x))) (w.setCell ⟨b,o,none⟩ v) i∧SatH E (hset h i (.var (cs.set o x))) (w.setCell ⟨b,o,none⟩ v):=by
 have hob:=hs.heap i _ hi
 simp only [RepObj] at hob
 obtain ⟨b',c,T,fz,g1,g2,g3,g4⟩:=hob
 rw [hb] at g1;cases g1
 rw [zdV g2]
 have ch:=zlU hs hi (cs':=cs.set o x) (by simp) hb (.cells (c.setIfInBounds o v) T fz)
 refine ⟨ch,ch.satH hs (fun ob hob=>?_)⟩
 rw [zf hi] at hob
 cases hob
 simp only [RepObj]
 refine ⟨b,_,T,fz,hb,zdx (Array.getElem?_eq_some_iff.1 g2).1,?_,by simpa using g4⟩
 rw [Array.toList_setIfInBounds]
 exact ch.reps (g3.set hr)
theorem zg3 {i:Nat} {o:AObj} (hi:(hget h i).isSome) {b:Nat} :Own E (hset h i o) b↔Own E h b:=by
 unfold Own
 constructor
 ·rintro ⟨j,h1,h2⟩;exact ⟨j,by rwa [zbi hi] at h1,h2⟩
 ·rintro ⟨j,h1,h2⟩;exact ⟨j,by rwa [zbi hi],h2⟩
end
section
variable {h : AHeap}
theorem zuW {fl i:Nat} {cs cs2:List AV} (hi:hget h i=some (.var cs)) (c0:cs[0]?=some (.d (.int .u32 0))) (c1:cs[1]?=some (.d (.int .i32 0)))
  (d0:cs2[0]?=some (.d (.int .u32 0))) (d1:cs2[1]?=some (.d (.int .i32 1)))
  (hf:ACallAt Tryz.prog fl 291 [.vp i 0] (hset h i (.var (cs.set 1 (.d (.int .i32 1))))) (fun r h'=>r= .tup []∧h'=hset h i (.var cs2))):
  ACallAt Tryz.prog fl 290 [.vp i 0,.fn (.func 291) [.vp i 0] []] h (fun r h'=>r= .tup []∧h'=hset h i (.var ((cs2.set 0 (.d (.int .u32 1))).set 1 (.d (.int .i32 0))))):=by
 refine ⟨zcK Tryz.func290 (by kernel_rfl) rfl,fun E w vs hs hr=>?_⟩
 simp only [Reps] at hr
 obtain ⟨v0,r0,e0,q0,v1,r1,rfl,q1,rfl⟩:=hr
 simp only [Rep,Reps] at q1
 obtain ⟨fa,fb,rfl,⟨u,r2,e2,q2,rfl⟩,e3⟩:=q1
 have q0':=q0
 simp only [Rep] at q0 q2
 obtain ⟨b,cs',hi',hb,rfl⟩:=q0
 obtain ⟨b',cs'',hi'',hb',rfl⟩:=q2
 rw [hb] at hb';cases hb'
 have hfa:fa= #[.pointer (some ⟨b,0,none⟩)]:=by cases fa;simpa using e2
 have hfb:fb= #[]:=by cases fb;simpa using e3
 subst hfa hfb
 have hvs:vs= #[.pointer (some ⟨b,0,none⟩),.func (.func 291) #[.pointer (some ⟨b,0,none⟩)] #[]]:=by cases vs;simpa using e0
 subst hvs
 have look:∀ {E:Env} {h:AHeap} {w:World} {xs:List AV},SatH E h w→hget h i=some (.var xs)→E.O i=some b→∀ (o:Nat) (k:IntKind) (n:Int),xs[o]?=some (.d (.int k n))→w.cell? ⟨b,o,none⟩=some (.int k n)∧w.frozen? ⟨b,o,none⟩=false:=by
  intro E h w xs hs hi hb o k n ho
  have hob:=hs.heap i _ hi
  simp only [RepObj] at hob
  obtain ⟨b',c,T,fz,g1,g2,g3,g4⟩:=hob
  rw [hb] at g1;cases g1
  obtain ⟨v,h1,h2⟩:=Reps.get g3 ho
  simp only [Rep,RepD] at h2
  subst h2
  have h1':c[o]?=some (.int k n):=by simpa using h1
  have hlt:=(Array.getElem?_eq_some_iff.1 h1').1
  refine ⟨by rw [zae g2];exact h1',?_⟩
  rw [zc2 g2]
  have:=g4 o hlt
  simpa using this
 obtain ⟨a0,z0⟩:=look hs hi hb 0 _ _ c0
 obtain ⟨a1,z1⟩:=look hs hi hb 1 _ _ c1
 obtain ⟨ch1,hs1⟩:=poke hs hi hb (o:=1) (x:= .d (.int .i32 1)) (v:= .int .i32 1) (by simp [Rep,RepD])
 have hsome:(hget h i).isSome:=by simp [hi]
 have hp1:Rep (w.setCell ⟨b,1,none⟩ (.int .i32 1)) E (hset h i (.var (cs.set 1 (.d (.int .i32 1))))) (.vp i 0) (.pointer (some ⟨b,0,none⟩)):=ch1.rep q0'
 have hfill:=hf.2 E _ #[.pointer (some ⟨b,0,none⟩)] hs1 (by simp only [Reps];exact ⟨_,_,rfl,hp1,rfl⟩)
 let R:World→Prop:=fun w2=>∃E2,SatH E2 (hset h i (.var cs2)) w2∧EvoC fl E (hset h i (.var (cs.set 1 (.d (.int .i32 1))))) (w.setCell ⟨b,1,none⟩ (.int .i32 1)) E2 (hset h i (.var cs2)) w2∧
  (∀x y,Rep (w.setCell ⟨b,1,none⟩ (.int .i32 1)) E (hset h i (.var (cs.set 1 (.d (.int .i32 1))))) x y→Rep w2 E2 (hset h i (.var cs2)) x y)
 have hO:∀ {w2 E2},(∀x y,Rep (w.setCell ⟨b,1,none⟩ (.int .i32 1)) E (hset h i (.var (cs.set 1 (.d (.int .i32 1))))) x y→Rep w2 E2 (hset h i (.var cs2)) x y)→E2.O i=some b:=by
  intro w2 E2 hrep
  have:=hrep _ _ hp1
  simp only [Rep] at this
  obtain ⟨b2,_,_,h1,h2⟩:=this
  have:b=b2:=by
   have:=Value.pointer.inj h2
   have:=Option.some.inj this
   exact congrArg Addr.block this
  rw [h1,this]
 have hget2:hget (hset h i (.var cs2)) i=some (.var cs2):=zf hi
 refine (Go.Proofs.YtbmlikkofegdeaaGreatDoor.do_first b 0 (.pointer (some ⟨b,0,none⟩)) w R a0 a1 z0 z1 (hfill.mono ?_) ?_).mono ?_
 ·rintro e w2 ⟨v,E2,r,h2,rfl,⟨rfl,rfl⟩,g1,g2,g3,g4⟩
  simp only [Rep,Reps] at g2
  obtain ⟨vs,rfl,g5⟩:=g2
  have:vs= #[]:=by cases vs;simpa using g5
  subst this
  exact ⟨rfl,E2,g1,g3,g4⟩
 ·rintro w2 ⟨E2,g1,g2,g3⟩
  obtain ⟨x0,y0⟩:=look g1 hget2 (hO g3) 0 _ _ d0
  obtain ⟨x1,y1⟩:=look g1 hget2 (hO g3) 1 _ _ d1
  exact ⟨x0,x1,y0,y1⟩
 ·rintro e w3 ⟨rfl,w2,⟨E2,g1,g2,g3⟩,rfl⟩
  have hb2:=hO g3
  have hsd:SatH E2 (hset h i (.var cs2)) w2.drew:=g1.refit ⟨rfl,rfl,rfl,rfl,fun _ _=>rfl,fun _ _ h _ _=>h⟩ (base:=0) rfl rfl (fun _ _ h=>h) (fun b hb=>(g1.own b hb).2) g1.mlt g1.nlt
  obtain ⟨ch2,hs2⟩:=poke hsd hget2 hb2 (o:=0) (x:= .d (.int .u32 1)) (v:= .int .u32 1) (by simp [Rep,RepD])
  have hget3:hget (hset (hset h i (.var cs2)) i (.var (cs2.set 0 (.d (.int .u32 1))))) i=some (.var (cs2.set 0 (.d (.int .u32 1)))):=zf hget2
  obtain ⟨ch3,hs3⟩:=poke hs2 hget3 hb2 (o:=1) (x:= .d (.int .i32 0)) (v:= .int .i32 0) (by simp [Rep,RepD])
  have hrep3:∀x y,Rep w2 E2 (hset h i (.var cs2)) x y→Rep _ E2 _ x y:=fun x y hxy=>
   ch3.rep (ch2.rep (Rep.step (W:=w2) (W':=w2.drew) (fun _ _ h=>h) (fun _ _ _=>rfl) x y (fun j _=>GoesOn.refl E2 _ j) hxy))
  have hs2some:(hget (hset h i (.var cs2)) i).isSome:=by simp [hget2]
  have hs3some:(hget (hset (hset h i (.var cs2)) i (.var (cs2.set 0 (.d (.int .u32 1))))) i).isSome:=by simp [hget3]
  have e4:hset (hset (hset h i (.var cs2)) i (.var (cs2.set 0 (.d (.int .u32 1))))) i (.var ((cs2.set 0 (.d (.int .u32 1))).set 1 (.d (.int .i32 0))))=hset h i (.var ((cs2.set 0 (.d (.int .u32 1))).set 1 (.d (.int .i32 0)))):=by rw [zhJ,zhJ]
  refine ⟨.tuple #[],E2,.tup [],_,rfl,⟨rfl,rfl⟩,e4 ▸ hs3,by simp [Rep,Reps],?_,fun x y hxy=>e4 ▸ hrep3 x y (g3 x y (ch1.rep hxy))⟩
  have hown:∀b',b'<w.heap.size→¬Own E h b'→w2.heap[b']?=w.heap[b']?:=fun b' hb' hno=>
   (g2.keep b' (by simpa using hb') (fun ho=>hno ((zg3 hsome).1 ho))).trans (ch1.blk b' hb' (fun ⟨h1,h2⟩=>hno ⟨i,h1,h2⟩))
  have hsz:w.heap.size≤w2.heap.size:=Nat.le_trans ch1.size g2.size
  refine ⟨?_,?_,?_,?_,fun b' hb' hno=>?_,fun b' ho=>?_,g2.m,g2.n,fun j hj hjs=>?_⟩
  ·exact ch3.os.trans (ch2.os.trans (g2.os.trans ch1.os))
  ·exact ch3.tape.trans (ch2.tape.trans (g2.tape.trans ch1.tape))
  ·exact ch3.output.trans (ch2.output.trans (g2.output.trans ch1.output))
  ·exact Nat.le_trans hsz (Nat.le_trans ch2.size ch3.size)
  ·have hne:¬E2.O i=some b':=fun e=>by
    rw [hb2] at e;cases e
    exact hno ⟨i,hsome,hb⟩
   have h1:b'<w2.drew.heap.size:=Nat.lt_of_lt_of_le hb' hsz
   rw [ch3.blk b' (Nat.lt_of_lt_of_le h1 ch2.size) (fun h=>hne h.2),ch2.blk b' h1 (fun h=>hne h.2)]
   exact hown b' hb' hno
  ·rw [zg3 hsome] at ho
   have ho2:Own E2 (hset h i (.var cs2)) b':=(zg3 hsome).2 ho
   rcases g2.own b' ho2 with h1|h1
   ·exact .inl ((zg3 hsome).1 h1)
   ·exact .inr (by simpa using h1)
  ·rw [zbi hsome] at hjs
   have hj2:(hget (hset h i (.var cs2)) j).isSome:=by rwa [zbi hsome]
   obtain ⟨p1,p2⟩:=g2.go j hj hj2
   refine ⟨hjs,?_⟩
   have p3:=(ch1.goesOn j).trans p2
   have p4:=p3.trans ((ch2.goesOn j).trans (ch3.goesOn j))
   exact e4 ▸ p4
end
end Go.Aw
