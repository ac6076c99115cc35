/- What is proved: contracts of functions of this translation, walked; their plain meaning. No condition beyond those that each theorem names. -/
import Derived.Test.YteacgfebjekllaaGreatDoorMa6
import Derived.Test.YteacgfebjekllaaGreatDoorProg
import Derived.WalkKit
import Derived.LaidEql
import Derived.Stop.Asserts
import Derived.RowKitTokens
import Derived.Test.YteacgfebjekllaaGreatDoorMa5
import Derived.OneCell
import Derived.Below
set_option linter.all false
namespace Go.Ac
open Go
end Go.Ac

set_option maxRecDepth 100000
set_option maxHeartbeats 4000000
namespace Go.Ac
open Go Go.Proofs
theorem mixedz:Tryz.prog.follows .mixedOrders=true:=kr
abbrev sN:AV:=.val (.slice none 0 0)
abbrev fA (n:Nat):AV:=.val (.func (.func n) #[] #[])
def sGet:List UInt8:=[123,34,111,112,34,58,34,103,101,116,34,44,34,105,110,34,58,34,99,34,44,34,105,100,34,58,34,97,34,125]
def sGo:List UInt8:=[123,34,111,112,34,58,34,103,111,34,125]
def oM08:List AV:=[.agg [.str [105,110],bA true,fA 61],.agg [.str [105,100],bA true,fA 62],.agg [.str [102,105,101,108,100,115],bA false,fA 65]]
def oM09:List AV:=[.agg [.str [105,110],bA true,fA 61],.agg [.str [105,100],bA false,fA 62],.agg [.str [118,97,108,117,101],bA true,fA 67]]
def oM10:List AV:=[.agg [.str [105,110],bA true,fA 61],.agg [.str [105,100],bA true,fA 62],.agg [.str [118,97,108,117,101],bA true,fA 67],.agg [.str [118,101,114,115,105,111,110],bA false,fA 64]]
def oM11:List AV:=[.agg [.str [105,110],bA true,fA 61],.agg [.str [105,100],bA true,fA 62],.agg [.str [111,112,115],bA true,fA 68],.agg [.str [102,105,108,116,101,114,115],bA false,fA 69],.agg [.str [118,101,114,115,105,111,110],bA false,fA 64],.agg [.str [117,112,115,101,114,116],bA false,fA 70]]
def oM12:List AV:=[.agg [.str [105,110],bA true,fA 61],.agg [.str [105,100],bA true,fA 62],.agg [.str [111,112,115],bA true,fA 68],.agg [.str [102,105,108,116,101,114,115],bA false,fA 69],.agg [.str [118,101,114,115,105,111,110],bA false,fA 64],.agg [.str [117,112,115,101,114,116],bA false,fA 70],.agg [.str [110,101,119],bA false,fA 71],.agg [.str [102,105,101,108,100,115],bA false,fA 65]]
def oM13:List AV:=[.agg [.str [105,110],bA true,fA 61],.agg [.str [105,100],bA true,fA 62],.agg [.str [118,101,114,115,105,111,110],bA false,fA 64]]
def oM14:List AV:=[.agg [.str [105,110],bA true,fA 61],.agg [.str [102,105,108,116,101,114],bA false,fA 66],.agg [.str [115,111,114,116],bA false,fA 72],.agg [.str [115,107,105,112],bA false,fA 73],.agg [.str [108,105,109,105,116],bA false,fA 74],.agg [.str [102,105,101,108,100,115],bA false,fA 65]]
def oM15:List AV:=[.agg [.str [105,110],bA true,fA 61],.agg [.str [102,105,108,116,101,114],bA false,fA 66]]
def oM16:List AV:=[.agg [.str [105,110],bA true,fA 61],.agg [.str [112,97,116,104],bA true,fA 75],.agg [.str [102,105,108,116,101,114],bA false,fA 66]]
def oM17:List AV:=[.agg [.str [105,110],bA true,fA 61],.agg [.str [112,105,112,101],bA true,fA 76]]
def oM18:List AV:=[.agg [.str [105,110],bA true,fA 61],.agg [.str [102,105,108,116,101,114],bA false,fA 66]]
def oM19:List AV:=[.agg [.str [97,102,116,101,114],bA true,fA 77],.agg [.str [108,105,109,105,116],bA false,fA 74],.agg [.str [105,110],bA false,fA 61]]
def oM20:List AV:=[.agg [.str [115,116,101,112,115],bA true,fA 78],.agg [.str [109,111,100,101],bA false,fA 79]]
def oM21:List AV:=[.agg [.str [105,110],bA true,fA 61],.agg [.str [102,105,108,116,101,114],bA false,fA 66],.agg [.str [102,105,101,108,100,115],bA false,fA 65],.agg [.str [98,97,116,99,104],bA false,fA 80]]
def oM22:List AV:=[.agg [.str [99,117,114,115,111,114],bA true,fA 81]]
def oM23:List AV:=[.agg [.str [99,117,114,115,111,114],bA true,fA 81]]
def oM24:List AV:=[.agg [.str [105,110],bA true,fA 61],.agg [.str [109,111,115,116],bA false,fA 82],.agg [.str [115,99,104,101,109,97],bA false,fA 83]]
def oM25:List AV:=[.agg [.str [105,110],bA true,fA 61]]
def oM26:List AV:=[.agg [.str [105,110],bA true,fA 61],.agg [.str [110,97,109,101],bA true,fA 84],.agg [.str [112,97,116,104],bA true,fA 75],.agg [.str [117,110,105,113,117,101],bA false,fA 85]]
def oM27:List AV:=[.agg [.str [105,110],bA true,fA 61],.agg [.str [110,97,109,101],bA true,fA 84]]
def oIn:List (Nat×GE):=[(100008,.arr 95 3 oM08 .own),(100009,.arr 95 3 oM09 .own),(100010,.arr 95 3 oM10 .own),(100011,.arr 95 3 oM11 .own),(100012,.arr 95 3 oM12 .own),(100013,.arr 95 3 oM13 .own),(100014,.arr 95 3 oM14 .own),(100015,.arr 95 3 oM15 .own),(100016,.arr 95 3 oM16 .own),(100017,.arr 95 3 oM17 .own),(100018,.arr 95 3 oM18 .own),(100019,.arr 95 3 oM19 .own),(100020,.arr 95 3 oM20 .own),(100021,.arr 95 3 oM21 .own),(100022,.arr 95 3 oM22 .own),(100023,.arr 95 3 oM23 .own),(100024,.arr 95 3 oM24 .own),(100025,.arr 95 3 oM25 .own),(100026,.arr 95 3 oM26 .own),(100027,.arr 95 3 oM27 .own)]
def oOutA:List AV:=[.agg [.str [103,101,116],.gs 100008 0 3],.agg [.str [105,110,115,101,114,116],.gs 100009 0 3],.agg [.str [114,101,112,108,97,99,101],.gs 100010 0 4],.agg [.str [117,112,100,97,116,101],.gs 100011 0 6],.agg [.str [109,111,100,105,102,121],.gs 100012 0 8],.agg [.str [100,101,108,101,116,101],.gs 100013 0 3],.agg [.str [115,99,97,110],.gs 100014 0 6],.agg [.str [99,111,117,110,116],.gs 100015 0 2],.agg [.str [100,105,115,116,105,110,99,116],.gs 100016 0 3],.agg [.str [97,103,103,114,101,103,97,116,101],.gs 100017 0 2],.agg [.str [101,120,112,108,97,105,110],.gs 100018 0 2],.agg [.str [99,104,97,110,103,101,115],.gs 100019 0 3],.agg [.str [116,120,110],.gs 100020 0 2],.agg [.str [111,112,101,110],.gs 100021 0 4],.agg [.str [110,101,120,116],.gs 100022 0 1],.agg [.str [99,108,111,115,101],.gs 100023 0 1],.agg [.str [99,114,101,97,116,101],.gs 100024 0 3],.agg [.str [100,114,111,112],.gs 100025 0 1],.agg [.str [105,110,100,101,120],.gs 100026 0 4],.agg [.str [117,110,105,110,100,101,120],.gs 100027 0 2],.agg [.str [115,116,97,116],sN]]
def oOut:List AV:=[.agg [.str [103,101,116],.sl 3 oM08 []],.agg [.str [105,110,115,101,114,116],.sl 3 oM09 []],.agg [.str [114,101,112,108,97,99,101],.sl 3 oM10 []],.agg [.str [117,112,100,97,116,101],.sl 3 oM11 []],.agg [.str [109,111,100,105,102,121],.sl 3 oM12 []],.agg [.str [100,101,108,101,116,101],.sl 3 oM13 []],.agg [.str [115,99,97,110],.sl 3 oM14 []],.agg [.str [99,111,117,110,116],.sl 3 oM15 []],.agg [.str [100,105,115,116,105,110,99,116],.sl 3 oM16 []],.agg [.str [97,103,103,114,101,103,97,116,101],.sl 3 oM17 []],.agg [.str [101,120,112,108,97,105,110],.sl 3 oM18 []],.agg [.str [99,104,97,110,103,101,115],.sl 3 oM19 []],.agg [.str [116,120,110],.sl 3 oM20 []],.agg [.str [111,112,101,110],.sl 3 oM21 []],.agg [.str [110,101,120,116],.sl 3 oM22 []],.agg [.str [99,108,111,115,101],.sl 3 oM23 []],.agg [.str [99,114,101,97,116,101],.sl 3 oM24 []],.agg [.str [100,114,111,112],.sl 3 oM25 []],.agg [.str [105,110,100,101,120],.sl 3 oM26 []],.agg [.str [117,110,105,110,100,101,120],.sl 3 oM27 []],.agg [.str [115,116,97,116],sN]]
def oH:List (Nat×GE):=[(100008,.arr 95 3 oM08 .own),(100009,.arr 95 3 oM09 .own),(100010,.arr 95 3 oM10 .own),(100011,.arr 95 3 oM11 .own),(100012,.arr 95 3 oM12 .own),(100013,.arr 95 3 oM13 .own),(100014,.arr 95 3 oM14 .own),(100015,.arr 95 3 oM15 .own),(100016,.arr 95 3 oM16 .own),(100017,.arr 95 3 oM17 .own),(100018,.arr 95 3 oM18 .own),(100019,.arr 95 3 oM19 .own),(100020,.arr 95 3 oM20 .own),(100021,.arr 95 3 oM21 .own),(100022,.arr 95 3 oM22 .own),(100023,.arr 95 3 oM23 .own),(100024,.arr 95 3 oM24 .own),(100025,.arr 95 3 oM25 .own),(100026,.arr 95 3 oM26 .own),(100027,.arr 95 3 oM27 .own),(100028,.arr 86 2 oOutA .own)]
def O35:OutC:=.ret (.sl 2 oOut []) []
theorem call35:callable Tryz.prog 35=true:=kr
theorem x35:xfun Tryz.prog 1000 30 35 [] [] 100000=some (.ret (.gs 100028 0 21) oH):=kr
theorem frzI:∀ p ∈ oIn,hg oH p.1=some p.2/\Frzable p.2:=by
 intro p hp
 simp only [oIn,List.mem_cons,List.not_mem_nil,or_false] at hp
 rcases hp with rfl|rfl|rfl|rfl|rfl|rfl|rfl|rfl|rfl|rfl|rfl|rfl|rfl|rfl|rfl|rfl|rfl|rfl|rfl|rfl<;>exact ⟨rfl,rfl⟩
theorem mut35 (W:World):MutC Tryz.prog W 35 [] [] O35 :=
 mut_frzD [(100028,.arr 86 2 oOut .own)] (mut_frzD (r2:=.gs 100028 0 21) (h2:=[(100028,.arr 86 2 oOut .own)]) oIn (xfun_ok (W:=W) mixedz 1000 30 35 [] [] 100000 _ x35 call35 rfl) frzI rfl (by kernel_rfl))
  (fun p hp=>by obtain rfl:=List.mem_singleton.1 hp;exact ⟨rfl,rfl⟩) rfl (by kernel_rfl)
def O15g:OutC:=.ret (.tup [.agg [iA 6,iA 0,.str [],.gs 100018 0 3,.gs 100020 0 3],iA 0,iA 0]) [(100018,.arr 9 1 [.str [111,112],.str [105,110],.str [105,100]] .own),(100020,.arr 33 5 [.agg [iA 4,iA 0,.str [103,101,116],sN,sN],.agg [iA 4,iA 0,.str [99],sN,sN],.agg [iA 4,iA 0,.str [97],sN,sN]] .own)]
def O15b:OutC:=.ret (.tup [.agg [iA 6,iA 0,.str [],.gs 100010 0 1,.gs 100012 0 1],iA 0,iA 0]) [(100010,.arr 9 1 [.str [111,112]] .own),(100012,.arr 33 5 [.agg [iA 4,iA 0,.str [103,111],sN,sN]] .own)]
theorem call15:callable Tryz.prog 15=true:=kr
end Go.Ac

set_option maxRecDepth 100000
set_option maxHeartbeats 4000000
namespace Go.Ac
open Go Go.Proofs
theorem mut15g (W:World):MutC Tryz.prog W 15 [.str sGet] [] O15g:=xfun_ok (W:=W) mixedz 1000 30 15 _ [] 100000 _ (by kernel_rfl) call15 rfl
end Go.Ac

set_option maxRecDepth 100000
set_option maxHeartbeats 4000000
namespace Go.Ac
open Go Go.Proofs
theorem mut15b (W:World):MutC Tryz.prog W 15 [.str sGo] [] O15b:=xfun_ok (W:=W) mixedz 1000 30 15 _ [] 100000 _ (by kernel_rfl) call15 rfl
end Go.Ac

set_option maxRecDepth 100000
namespace Go.Proofs.YteacgfebjekllaaGreatDoor
open Go Go.Proofs Go.RowKit Go.Extern.Stop Go.Stop Go.Extern Go.Ac
theorem Tryz.valueOf27 (t:Addr) (w:World):(ReflectliteValue.unpack (.iface 54 (.pointer (some t)))).run Tryz.prog w
 = .ok (.agg #[.pointer (some ⟨9,54,none⟩),.pointer (some ⟨w.heap.size,0,none⟩),.int .u64 150]) (w.alloc (.cells #[.pointer (some t)] 54)):=kr
theorem Tryz.type27 (a:Addr) (w:World):(ReflectliteValue.methodAny (ReflectliteValue.valueError "reflectlite.Value.Type" 0) (fun t _ _ _=>ReflectliteType.toType t) #[.agg #[.pointer (some ⟨9,54,none⟩),.pointer (some a),.int .u64 150]]).run Tryz.prog w
 = .ok (.iface 113 (.agg #[.pointer (some ⟨9,54,none⟩)])) w:=kr
theorem Tryz.methodKind (h:Value) (w:World):(Go.method 573 113 (.agg #[h]) "Kind").run Tryz.prog w=.ok (421,h) w:=kr
theorem Tryz.kind27 (w:World):((ReflectliteType.abiMethod fun t=>(fun a:Nat=>Value.int IntKind.u8 (a:Int)) <$> Rtype.kind t) #[.pointer (some ⟨9,54,none⟩)]).run Tryz.prog w=.ok (.int .u8 22) w:=kr
theorem Tryz.kind25 (w:World):((ReflectliteType.abiMethod fun t=>(fun a:Nat=>Value.int IntKind.u8 (a:Int)) <$> Rtype.kind t) #[.pointer (some ⟨9,49,none⟩)]).run Tryz.prog w=.ok (.int .u8 25) w:=kr
theorem rlm (z:Sem Value) (f:TypeId->Addr->Nat->Nat->Sem Value) (v:Value) :
 ReflectliteValue.method z f #[v]=(do match <-ReflectliteValue.parts v with|none=>z|some (t,a,fl)=>f t a fl (fl % 32)):=rfl
theorem Tryz.parts27 (a:Addr) (w:World):(ReflectliteValue.parts (.agg #[.pointer (some ⟨9,54,none⟩),.pointer (some a),.int .u64 150])).run Tryz.prog w=.ok (some (54,a,150)) w:=kr
theorem Tryz.isNil27 (a p:Addr) (W:World) (ha:W.cell? a=some (.pointer (some p))) :
 (ReflectliteValue.method (ReflectliteValue.valueError "reflectlite.Value.IsNil" 0) ReflectliteValue.isNil #[.agg #[.pointer (some ⟨9,54,none⟩),.pointer (some a),.int .u64 150]]).run Tryz.prog W=.ok (.bool false) W:=by
 rw [rlm]
 simp only [Sem.run_bind,Tryz.parts27,Result.andThen]
 simp [ReflectliteValue.isNil,loadVar,isAgg,underlying,Tryz.underlying54,ha,Result.andThen]
theorem Tryz.methodElem (h:Value) (w:World):(Go.method 573 113 (.agg #[h]) "Elem").run Tryz.prog w=.ok (433,.agg #[h]) w:=kr
theorem Tryz.methodImplements (h:Value) (w:World):(Go.method 573 113 (.agg #[h]) "Implements").run Tryz.prog w=.ok (434,.agg #[h]) w:=kr
theorem Tryz.methodAssignableTo (h:Value) (w:World):(Go.method 573 113 (.agg #[h]) "AssignableTo").run Tryz.prog w=.ok (431,.agg #[h]) w:=kr
theorem Tryz.elem27 (w:World):(ReflectliteType.method ReflectliteType.elem #[.agg #[.pointer (some ⟨9,54,none⟩)]]).run Tryz.prog w=.ok (.iface 113 (.agg #[.pointer (some ⟨9,49,none⟩)])) w:=kr
theorem Tryz.implements25 (w:World):(ReflectliteType.relation "Implements" ReflectliteType.implements_ #[.agg #[.pointer (some ⟨9,49,none⟩)],.iface 113 (.agg #[.pointer (some ⟨9,52,none⟩)])]).run Tryz.prog w=.ok (.bool true) w:=kr
theorem Tryz.typeOf25 (v:Value) (w:World):(ReflectliteType.typeOf #[.iface 49 v]).run Tryz.prog w=.ok (.iface 113 (.agg #[.pointer (some ⟨9,49,none⟩)])) w:=kr
theorem Tryz.assignable25 (w:World):(ReflectliteType.relation "AssignableTo" ReflectliteType.assignableTo #[.agg #[.pointer (some ⟨9,49,none⟩)],.iface 113 (.agg #[.pointer (some ⟨9,49,none⟩)])]).run Tryz.prog w=.ok (.bool true) w:=kr
theorem Tryz.valueOf25 (a b:Value) (w:World):(ReflectliteValue.unpack (.iface 49 (.agg #[a,b]))).run Tryz.prog w
 = .ok (.agg #[.pointer (some ⟨9,49,none⟩),.pointer (some ⟨w.heap.size,0,none⟩),.int .u64 153]) (w.alloc (.cells #[a,b] 49)):=kr
theorem Tryz.elemOf27 (w:World):(Rtype.elem? 54).run Tryz.prog w=.ok (some 49) w:=kr
theorem Tryz.mk25 (p:Addr) (w:World):(ReflectliteValue.mk 49 p ReflectliteValue.flagAddr).run Tryz.prog w=.ok (.agg #[.pointer (some ⟨9,49,none⟩),.pointer (some p),.int .u64 409]) w:=kr
theorem Tryz.elemV27 (a p:Addr) (W:World) (ha:W.cell? a=some (.pointer (some p))) :
 (ReflectliteValue.method (ReflectliteValue.valueError "reflectlite.Value.Elem" 0) ReflectliteValue.elem #[.agg #[.pointer (some ⟨9,54,none⟩),.pointer (some a),.int .u64 150]]).run Tryz.prog W
  = .ok (.agg #[.pointer (some ⟨9,49,none⟩),.pointer (some p),.int .u64 409]) W:=by
 rw [rlm]
 simp only [Sem.run_bind,Tryz.parts27,Result.andThen]
 simp [ReflectliteValue.elem,loadVar,isAgg,underlying,Tryz.underlying54,ha,Result.andThen,Tryz.elemOf27,Tryz.mk25]
theorem rls (v x:Value):ReflectliteValue.set #[v,x]=(do
 let (some (dst,a,fl),some (src,b,_)):=(<-ReflectliteValue.parts v,<-ReflectliteValue.parts x)
  | unsupported (.noEntry "extern/(internal/reflectlite.Value).Set.zeroValue")
 if fl / ReflectliteValue.flagAddr % 2 == 0 then unsupported (.noEntry "extern/(internal/reflectlite.Value).Set.unaddressable")
 let val <-loadVar src b
 if <-Rtype.directlyAssignable dst src then storeVar dst a val
 else if <-Rtype.implements dst src then
  if (<-Rtype.kind src) == 20 then
   match val with
   | .nilIface=>unsupported (.noEntry "extern/reflectlite: a nil value of one interface type handed on as a value of another")
   | _=>storeVar dst a val
  else storeVar dst a (.iface src val)
 else panicString ("reflectlite.Set: value of type "++(<-Rtype.spelt src)++ " is not assignable to type "++(<-Rtype.spelt dst))
 pure (.tuple #[])):=rfl
theorem Tryz.parts25a (a:Addr) (w:World):(ReflectliteValue.parts (.agg #[.pointer (some ⟨9,49,none⟩),.pointer (some a),.int .u64 409])).run Tryz.prog w=.ok (some (49,a,409)) w:=kr
theorem Tryz.parts25 (a:Addr) (w:World):(ReflectliteValue.parts (.agg #[.pointer (some ⟨9,49,none⟩),.pointer (some a),.int .u64 153])).run Tryz.prog w=.ok (some (49,a,153)) w:=kr
theorem Tryz.direct25 (w:World):(Rtype.directlyAssignable 49 49).run Tryz.prog w=.ok true w:=kr
theorem Tryz.size25 (w:World):(sizeOf 49).run Tryz.prog w=.ok 2 w:=kr
theorem Tryz.set25 (ta b:Addr) (x y:Int) (u v:Value) (W:World) (hb:W.cell? b=some (.int .i64 x)) (hb1:W.cell? (b.add 1)=some (.int .i64 y)) (ht:W.cell? ta=some u) (hf:W.frozen? ta=false)
 (ht1:(W.setCell ta (.int .i64 x)).cell? (ta.add 1)=some v) (hf1:(W.setCell ta (.int .i64 x)).frozen? (ta.add 1)=false) :
 (ReflectliteValue.set #[.agg #[.pointer (some ⟨9,49,none⟩),.pointer (some ta),.int .u64 409],.agg #[.pointer (some ⟨9,49,none⟩),.pointer (some b),.int .u64 153]]).run Tryz.prog W
  = .ok (.tuple #[]) ((W.setCell ta (.int .i64 x)).setCell (ta.add 1) (.int .i64 y)):=by
 rw [rls]
 simp only [Sem.run_bind,Tryz.parts25a,Tryz.parts25,Result.andThen]
 have e0:b.add 0=b:=by simp [Addr.add]
 have e1:ta.add 0=ta:=by simp [Addr.add]
 simp [ReflectliteValue.flagAddr,loadVar,isAgg,underlying,Tryz.underlying49,Tryz.size25,loadCells,loadCellsFrom,e0,run_load,hb,hb1,Result.andThen,Tryz.direct25,storeVar,Value.cells,storeCells,e1]
 rw [run_store Tryz.prog W ta _ _ (by rfl)]
 simp [ht,hf]
 rw [run_store Tryz.prog _ (ta.add 1) _ _ (by rfl)]
 simp [ht1,hf1]
set_option maxHeartbeats 4000000 in
theorem as_hit (tb:Nat) (a b:Int) (u v:Value) (w:World) (hg:w.cell? ⟨0,0,none⟩=some (.iface 113 (.agg #[.pointer (some ⟨9,52,none⟩)]))) (ht0:w.cell? ⟨tb,0,none⟩=some u) (hf0:w.frozen? ⟨tb,0,none⟩=false)
 (ht1:w.cell? ⟨tb,1,none⟩=some v) (hf1:w.frozen? ⟨tb,1,none⟩=false) :
 Calls Tryz.prog 16 #[.iface 49 (.agg #[.int .i64 a,.int .i64 b]),.iface 54 (.pointer (some ⟨tb,0,none⟩))] w fun ev w'=>ev=.returned (.bool true)/\w'=(((((w.alloc (.cells #[.pointer (some ⟨tb,0,none⟩)] 54)).alloc (.cells #[.pointer (some ⟨9,54,none⟩),.pointer (some ⟨w.heap.size,0,none⟩),.int .u64 150] 70)).alloc (.cells #[.pointer (some ⟨9,54,none⟩),.pointer (some ⟨w.heap.size,0,none⟩),.int .u64 150] 70)).alloc (.cells #[.int .i64 a,.int .i64 b] 49)).setCell ⟨tb,0,none⟩ (.int .i64 a)).setCell ⟨tb,1,none⟩ (.int .i64 b):=by
 have h6:=@run_callFunc_extern Tryz.prog 29 _ (fun args=>ReflectliteValue.unpack (args.getD 0 (.tuple #[]))) Tryz.func29 (by kernel_rfl) (by kernel_rfl) (by kernel_rfl) (by kernel_rfl)
 have h7:=@run_callFunc_extern Tryz.prog 30 _ (ReflectliteValue.methodAny (ReflectliteValue.valueError "reflectlite.Value.Type" 0) (fun t _ _ _=>ReflectliteType.toType t)) Tryz.func30 (by kernel_rfl) (by kernel_rfl) (by kernel_rfl) (by kernel_rfl)
 have h8:=@run_callFunc_extern Tryz.prog 31 _ (ReflectliteValue.method (ReflectliteValue.valueError "reflectlite.Value.IsNil" 0) ReflectliteValue.isNil) Tryz.func31 (by kernel_rfl) (by kernel_rfl) (by kernel_rfl) (by kernel_rfl)
 have h27:=@run_callFunc_extern Tryz.prog 421 _ (ReflectliteType.abiMethod fun t=>do pure (.int .u8 (<-Rtype.kind t))) Tryz.func421 (by kernel_rfl) (by kernel_rfl) (by kernel_rfl) (by kernel_rfl)
 have h37:=@run_callFunc_extern Tryz.prog 433 _ (ReflectliteType.method ReflectliteType.elem) Tryz.func433 (by kernel_rfl) (by kernel_rfl) (by kernel_rfl) (by kernel_rfl)
 have h38:=@run_callFunc_extern Tryz.prog 434 _ (ReflectliteType.relation "Implements" ReflectliteType.implements_) Tryz.func434 (by kernel_rfl) (by kernel_rfl) (by kernel_rfl) (by kernel_rfl)
 have h10:=@run_callFunc_extern Tryz.prog 55 _ ReflectliteType.typeOf Tryz.func55 (by kernel_rfl) (by kernel_rfl) (by kernel_rfl) (by kernel_rfl)
 have h35:=@run_callFunc_extern Tryz.prog 431 _ (ReflectliteType.relation "AssignableTo" ReflectliteType.assignableTo) Tryz.func431 (by kernel_rfl) (by kernel_rfl) (by kernel_rfl) (by kernel_rfl)
 have h11:=@run_callFunc_extern Tryz.prog 56 _ (ReflectliteValue.method (ReflectliteValue.valueError "reflectlite.Value.Elem" 0) ReflectliteValue.elem) Tryz.func56 (by kernel_rfl) (by kernel_rfl) (by kernel_rfl) (by kernel_rfl)
 have h12:=@run_callFunc_extern Tryz.prog 57 _ ReflectliteValue.set Tryz.func57 (by kernel_rfl) (by kernel_rfl) (by kernel_rfl) (by kernel_rfl)
 have tO:=Tryz.typeOf25
 have mA:=Tryz.methodAssignableTo
 have a25:=Tryz.assignable25
 have v25:=Tryz.valueOf25
 have f6:=Tryz.valueOf27
 have f7:=Tryz.type27
 have mK:=Tryz.methodKind
 have mE:=Tryz.methodElem
 have mI:=Tryz.methodImplements
 have k27:=Tryz.kind27
 have k25:=Tryz.kind25
 have e27:=Tryz.elem27
 have i25:=Tryz.implements25
 have n8:=Tryz.isNil27 ⟨w.heap.size,0,none⟩ ⟨tb,0,none⟩ ((w.alloc (.cells #[.pointer (some ⟨tb,0,none⟩)] 54)).alloc (.cells #[.pointer (some ⟨9,54,none⟩),.pointer (some ⟨w.heap.size,0,none⟩),.int .u64 150] 70)) (by simp)
 have hlt:0<w.heap.size:=by
  rcases Nat.eq_zero_or_pos w.heap.size with h0|h
  ·simp [World.cell?,h0] at hg
  ·exact h
 have hg2:((w.alloc (.cells #[.pointer (some ⟨tb,0,none⟩)] 54)).alloc (.cells #[.pointer (some ⟨9,54,none⟩),.pointer (some ⟨w.heap.size,0,none⟩),.int .u64 150] 70)).cell? ⟨0,0,none⟩=some (.iface 113 (.agg #[.pointer (some ⟨9,52,none⟩)])):=by
  rw [World.cell?_alloc_lt _ _ ⟨0,0,none⟩ (by simp),World.cell?_alloc_lt _ _ ⟨0,0,none⟩ hlt];exact hg
 have htl:tb<w.heap.size:=by
  rcases Nat.lt_or_ge tb w.heap.size with h|h
  ·exact h
  ·simp [World.cell?,Array.getElem?_eq_none h] at ht0
 have el:=Tryz.elemV27 ⟨w.heap.size,0,none⟩ ⟨tb,0,none⟩ (((w.alloc (.cells #[.pointer (some ⟨tb,0,none⟩)] 54)).alloc (.cells #[.pointer (some ⟨9,54,none⟩),.pointer (some ⟨w.heap.size,0,none⟩),.int .u64 150] 70)).alloc (.cells #[.pointer (some ⟨9,54,none⟩),.pointer (some ⟨w.heap.size,0,none⟩),.int .u64 150] 70)) (by rw [World.cell?_alloc_lt _ _ ⟨w.heap.size,0,none⟩ (by simp;omega)];simp)
 have n01:(⟨tb,0,none⟩:Addr) ≠ ⟨tb,1,none⟩:=by simp
 have c1:((((w.alloc (.cells #[.pointer (some ⟨tb,0,none⟩)] 54)).alloc (.cells #[.pointer (some ⟨9,54,none⟩),.pointer (some ⟨w.heap.size,0,none⟩),.int .u64 150] 70)).alloc (.cells #[.pointer (some ⟨9,54,none⟩),.pointer (some ⟨w.heap.size,0,none⟩),.int .u64 150] 70)).alloc (.cells #[.int .i64 a,.int .i64 b] 49)).cell? ⟨tb,1,none⟩=some v:=(by rw [World.cell?_alloc_lt _ _ ⟨tb,1,none⟩ (by simp;omega),World.cell?_alloc_lt _ _ ⟨tb,1,none⟩ (by simp;omega),World.cell?_alloc_lt _ _ ⟨tb,1,none⟩ (by simp;omega),World.cell?_alloc_lt _ _ ⟨tb,1,none⟩ (htl)];exact ht1)
 have q1:((((w.alloc (.cells #[.pointer (some ⟨tb,0,none⟩)] 54)).alloc (.cells #[.pointer (some ⟨9,54,none⟩),.pointer (some ⟨w.heap.size,0,none⟩),.int .u64 150] 70)).alloc (.cells #[.pointer (some ⟨9,54,none⟩),.pointer (some ⟨w.heap.size,0,none⟩),.int .u64 150] 70)).alloc (.cells #[.int .i64 a,.int .i64 b] 49)).frozen? ⟨tb,1,none⟩=false:=(by rw [World.frozen?_alloc_old _ _ ⟨tb,1,none⟩ (by simp;omega),World.frozen?_alloc_old _ _ ⟨tb,1,none⟩ (by simp;omega),World.frozen?_alloc_old _ _ ⟨tb,1,none⟩ (by simp;omega),World.frozen?_alloc_old _ _ ⟨tb,1,none⟩ (Nat.ne_of_lt htl)];exact hf1)
 have st:=Tryz.set25 ⟨tb,0,none⟩ ⟨w.heap.size+1+1+1,0,none⟩ a b u v ((((w.alloc (.cells #[.pointer (some ⟨tb,0,none⟩)] 54)).alloc (.cells #[.pointer (some ⟨9,54,none⟩),.pointer (some ⟨w.heap.size,0,none⟩),.int .u64 150] 70)).alloc (.cells #[.pointer (some ⟨9,54,none⟩),.pointer (some ⟨w.heap.size,0,none⟩),.int .u64 150] 70)).alloc (.cells #[.int .i64 a,.int .i64 b] 49))
  (by rw [World.cell?_alloc_at _ _ _ _ (by simp)];rfl)
  (by show World.cell? _ ⟨w.heap.size+1+1+1,1,none⟩=_;rw [World.cell?_alloc_at _ _ _ _ (by simp)];rfl)
  (by rw [World.cell?_alloc_lt _ _ ⟨tb,0,none⟩ (by simp;omega),World.cell?_alloc_lt _ _ ⟨tb,0,none⟩ (by simp;omega),World.cell?_alloc_lt _ _ ⟨tb,0,none⟩ (by simp;omega),World.cell?_alloc_lt _ _ ⟨tb,0,none⟩ (htl)];exact ht0)
  (by rw [World.frozen?_alloc_old _ _ ⟨tb,0,none⟩ (by simp;omega),World.frozen?_alloc_old _ _ ⟨tb,0,none⟩ (by simp;omega),World.frozen?_alloc_old _ _ ⟨tb,0,none⟩ (by simp;omega),World.frozen?_alloc_old _ _ ⟨tb,0,none⟩ (Nat.ne_of_lt htl)];exact hf0)
  ((World.cell?_setCell_other _ _ _ _ n01).trans c1) (by rw [World.frozen?_setCell];exact q1)
 go_enter Tryz.func16,Tryz.ntmps16
 go_wp2
 refine wp_loop_rounds 1 ?_
 rw [rounds_succ]
 go_wp2
 go_ret
 exact ⟨rfl,rfl⟩
end Go.Proofs.YteacgfebjekllaaGreatDoor

set_option maxRecDepth 10000
namespace Go.Ac
open Go Go.Proofs Go.Proofs.YteacgfebjekllaaGreatDoor
def ErrT (W:World):Prop:=W.cell? ⟨0,0,none⟩=some (.iface 113 (.agg #[.pointer (some ⟨9,52,none⟩)]))
theorem ErrT.over {W w:World} (h:ErrT W) (o:Over W w):ErrT w:=by
 unfold ErrT at *
 unfold World.cell? at *
 have h0:0<W.heap.size:=by
  rcases Nat.eq_zero_or_pos W.heap.size with h0|h0
  ·simp [h0] at h
  ·exact h0
 simp only at h ⊢
 rw [o.heap 0 h0];exact h
theorem as_val {W:World} (hW:ErrT W) {h:List (Nat×GE)} {k:Nat} {a b:Int} {p q:Value} (hbig:bigAll h=true) (hk:hg h k=some (.box (.agg [.val p,.val q]) .own)) :
 MutC Tryz.prog W 16 [.ifc 49 (.agg [iA a,iA b]),.ifc 54 (.gp k 0)] h (.ret (.val (.bool true)) (hs h k (.box (.agg [iA a,iA b]) .own))):=by
 intro β I w vs hw hlB hi hR
 cases hR with
 | cons h1 h2 =>
 cases h2 with
 | cons h2 h3 =>
 cases h3
 cases h1 with
 | ifc h1 =>
 cases h1 with
 | agg h1 =>
 cases h1 with
 | cons ha h1 =>
 cases h1 with
 | cons hb h1 =>
 cases h1
 have ea:=ha.val_inv
 have eb:=hb.val_inv
 subst ea eb
 cases h2 with
 | ifc h2 =>
 cases h2 with
 | gp d2 =>
 have r0:=rep0H (N:=1) (args:=[]) (vs:=[]) hi (RL.nil true) (by simp) (bigAll_spec hbig)
 obtain ⟨us,U,g1,g2,g3,g4,g5,g6⟩:=hi.ge k _ hk
 have hnI:=g6 (by simp)
 have hus:us=#[p,q]:=by
  have g3':RL β (dom (hg h)) I w.heap true [.val p,.val q] us.toList:=g3
  generalize hl:us.toList=l at g3'
  cases g3' with
  | cons q1 q2 =>
   cases q2 with
   | cons q2 q3 =>
    cases q3
    have e1:=q1.val_inv
    have e2:=q2.val_inv
    subst e1 e2
    exact Array.ext' (by rw [hl])
 subst hus
 have hlt:(β k).b<w.heap.size:=(Array.getElem?_eq_some_iff.1 g2).1
 have ht0:w.cell? ⟨(β k).b,0,none⟩=some p:=by simp [World.cell?,g2]
 have ht1:w.cell? ⟨(β k).b,1,none⟩=some q:=by simp [World.cell?,g2]
 have hf0:w.frozen? ⟨(β k).b,0,none⟩=false:=by simp [World.frozen?,g2]
 have hf1:w.frozen? ⟨(β k).b,1,none⟩=false:=by simp [World.frozen?,g2]
 refine (as_hit (β k).b a b p q w (hW.over hw) ht0 hf0 ht1 hf1).mono fun ev w' ⟨he,hw'⟩=>?_
 subst hw'
 generalize hw4:((((w.alloc (.cells #[.pointer (some ⟨(β k).b,0,none⟩)] 54)).alloc (.cells #[.pointer (some ⟨9,54,none⟩),.pointer (some ⟨w.heap.size,0,none⟩),.int .u64 150] 70)).alloc (.cells #[.pointer (some ⟨9,54,none⟩),.pointer (some ⟨w.heap.size,0,none⟩),.int .u64 150] 70)).alloc (.cells #[.int .i64 a,.int .i64 b] 49))=w4
 have x4:Ext I I w w4:=by
  subst hw4
  refine ⟨fun b hb=>?_,by simp only [World.alloc,Array.size_push];omega,rfl,rfl,rfl,fun b hb=>hb,fun b hb=>⟨by have:=hi.imm b hb;simp only [World.alloc,Array.size_push];omega,fun _=>hb⟩⟩
  rw [(Adds.alloc _ _).old (by simp only [World.alloc,Array.size_push];omega),(Adds.alloc _ _).old (by simp only [World.alloc,Array.size_push];omega),(Adds.alloc _ _).old (by simp only [World.alloc,Array.size_push];omega),(Adds.alloc _ _).old hb]
 have r1:=r0.ext (dst:=none) (res:=.top) (v:=undef) x4 (fun d hd=>by cases hd) (.top _ _)
 have g2':w4.heap[(β k).b]?=some (.cells #[p,q] U (0,0)):=(x4.heap _ hlt).trans g2
 have hlt4:(β k).b<w4.heap.size:=(Array.getElem?_eq_some_iff.1 g2').1
 have hone:((w4.setCell ⟨(β k).b,0,none⟩ (.int .i64 a)).setCell ⟨(β k).b,1,none⟩ (.int .i64 b)).heap[(β k).b]?=some (.cells #[.int .i64 a,.int .i64 b] U (0,0)):=by
  simp [World.setCell,Array.getElem?_modify,g2']
 have hT:Turns w4 ((w4.setCell ⟨(β k).b,0,none⟩ (.int .i64 a)).setCell ⟨(β k).b,1,none⟩ (.int .i64 b)) (β k).b :=
  ⟨fun i hne=>(Go.RowKit.Below.heap_setCell _ ⟨(β k).b,1,none⟩ _ i hne).trans (Go.RowKit.Below.heap_setCell w4 ⟨(β k).b,0,none⟩ _ i hne),by simp [World.setCell],rfl,rfl,rfl⟩
 have r2:=r1.modify (k:=k) (g':=.box (.agg [iA a,iA b]) .own) (dst:=none) (X:=.top) (v:=undef) hk hT (fun d hd=>by cases hd) hnI trivial trivial (fun x=>not_compat_box) (by simp [GE.st]) (fun K=>by
  refine ⟨#[.int .i64 a,.int .i64 b],U,g1,hone,?_,?_,(fun e=>by cases e),fun _=>hnI⟩
  ·exact .cons (.val _ _) (.cons (.val _ _) (.nil _))
  ·intro u hu
   simp at hu
   rcases hu with rfl|rfl<;>rfl) (fun K=>.top _ _)
 have e1:hput (hg h) k (some (.box (.agg [iA a,iA b]) .own))=hg (hs h k (.box (.agg [iA a,iA b]) .own)):=by
  funext i;rw [hg_hs];simp only [hput]
 have inv2:=r2.inv
 obtain ⟨f1,f2,f3,f4,f5,f6,f7,f8,f9⟩:=r2.fr
 have e2:(SS.mk (tset (tset (AS.mk (argT 0 []) h).den.t none .top) none .top) (hput (AS.mk (argT 0 []) h).den.h k (some (.box (.agg [iA a,iA b]) .own)))).h=hg (hs h k (.box (.agg [iA a,iA b]) .own)):=e1
 rw [e2] at inv2
 refine ⟨β,I,.bool true,he,.val _ _,inv2,⟨f1,f2,f3,f4,f5,f6,f7,?_,?_⟩⟩
 ·intro i g hi1;exact f8 i g ((congrFun e1 i).trans hi1)
 ·intro i p hp;obtain ⟨q1,q2,q3⟩:=f9 i p hp;exact ⟨q1,(congrArg Option.isSome (congrFun e1 i)).symm.trans q2,q3⟩
end Go.Ac

set_option maxRecDepth 100000
set_option maxHeartbeats 4000000
namespace Go.Ac
open Go Go.Proofs
def rGet:AV:=.agg [iA 1,.str [99],.str [97],iA 0,iA 0,.str [],sN,sN,iA 0,iA 0,iA 0,.str [],sN,sN,iA 0,iA 0,.str [],sN,sN,bA false,bA false,iA 6,iA 0,.str [],sN,sN,iA 6,iA 0,.str [],sN,sN,iA 6,iA 0,.str [],sN,sN,iA 0,iA 0,.str [],iA 0,iA 0,.str [],sN,sN,iA 0,sN,iA 0,iA 0,iA 0,iA 0,iA 0,iA 0,.str [],sN,sN,.str [],bA false]
def O11:OutC:=.ret (.tup [rGet,iA 0,iA (-1)]) []
def O16:OutC:=.ret (.val (.bool true)) [(100015,.box (.agg [iA 161,iA (-1)]) .own)]
def O11b:OutC:=.ret (.tup [.agg [iA 0,.str [],.str [],iA 0,iA 0,.str [],sN,sN,iA 0,iA 0,iA 0,.str [],sN,sN,iA 0,iA 0,.str [],sN,sN,bA false,bA false,iA 0,iA 0,.str [],sN,sN,iA 0,iA 0,.str [],sN,sN,iA 0,iA 0,.str [],sN,sN,iA 0,iA 0,.str [],iA 0,iA 0,.str [],sN,sN,iA 0,sN,iA 0,iA 0,iA 0,iA 0,iA 0,iA 0,.str [],sN,sN,.str [],bA false],iA 161,iA (-1)]) []
def sBad:List UInt8:=[123,34,111,107,34,58,102,97,108,115,101,44,34,101,114,114,111,114,34,58,34,111,112,34,44,34,97,116,34,58,50,125]
def O12:OutC:=.ret (.tup [.str sGet,iA 0]) []
def O14:OutC:=.ret (.str sBad) []
theorem call11:callable Tryz.prog 11=true:=kr
theorem call12:callable Tryz.prog 12=true:=kr
theorem call14:callable Tryz.prog 14=true:=kr
theorem call7:callable Tryz.prog 7=true:=kr
theorem m11g (W:World):MutC Tryz.prog W 11 [.str sGet] [] O11 :=
 mut_of_sfun (as':=[Ans.ev 9999590]) (cs:=[MutC Tryz.prog W 35 [] [] O35,MutC Tryz.prog W 15 [.str sGet] [] O15g]) mixedz call11 rfl (show sfun Tryz.prog W {tl:=[15,35]} 1000 30 11 [.str sGet] [] 100000 [Ans.ev 10000000,Ans.call O15g,Ans.ev 10000000,Ans.call O35,Ans.ev 10000000] []=_ by kernel_rfl) ⟨mut35 W,mut15g W,trivial⟩
theorem m11b (W:World) (hW:ErrT W):MutC Tryz.prog W 11 [.str sGo] [] O11b :=
 mut_of_sfun (as':=[Ans.ev 9999999]) (cs:=[MutC Tryz.prog W 16 [.ifc 49 (.agg [iA 161,iA (-1)]),.ifc 54 (.gp 100015 0)] [(100015,.box (.agg [iA 0,iA 0]) .own)] O16,MutC Tryz.prog W 35 [] [] O35,MutC Tryz.prog W 15 [.str sGo] [] O15b]) mixedz call11 rfl (show sfun Tryz.prog W {tl:=[15,35,16]} 1000 30 11 [.str sGo] [] 100000 [Ans.ev 10000000,Ans.call O15b,Ans.ev 10000000,Ans.call O35,Ans.ev 10000000,Ans.call O16,Ans.ev 10000000] []=_ by kernel_rfl)
  ⟨as_val (k:=100015) hW rfl rfl,mut35 W,mut15b W,trivial⟩
theorem m12 (W:World):MutC Tryz.prog W 12 [rGet] [] O12 :=
 mut_of_sfun (as':=[Ans.ev 9999601]) (cs:=[MutC Tryz.prog W 11 [.str sGet] [] O11,MutC Tryz.prog W 35 [] [] O35]) mixedz call12 rfl (show sfun Tryz.prog W {tl:=[35,11]} 1000 30 12 [rGet] [] 100000 [Ans.ev 10000000,Ans.call O35,Ans.ev 10000000,Ans.call O11,Ans.ev 10000000] []=_ by kernel_rfl) ⟨m11g W,mut35 W,trivial⟩
theorem m14 (W:World):MutC Tryz.prog W 14 [iA 161,iA 2] [] O14:=xfun_ok mixedz 1000 30 14 _ [] 100000 _ (by kernel_rfl) call14 rfl
theorem live7 (W:World) (hW:ErrT W):MutC Tryz.prog W 7 [] [] (.ret (bA true) []) :=
 mut_of_sfun (as':=[Ans.ev 9999998]) (cs:=[MutC Tryz.prog W 14 [iA 161,iA 2] [] O14,MutC Tryz.prog W 12 [rGet] [] O12,MutC Tryz.prog W 11 [.str sGo] [] O11b,MutC Tryz.prog W 11 [.str sGet] [] O11]) mixedz call7 rfl
  (show sfun Tryz.prog W {tl:=[11,12,14]} 1000 30 7 [] [] 100000 [.ev 10000000,.call O11,.ev 10000000,.call O11b,.ev 10000000,.call O12,.ev 10000000,.call O14,.ev 10000000] []=_ by kernel_rfl) ⟨m14 W,m12 W,m11b W hW,m11g W,trivial⟩
end Go.Ac

