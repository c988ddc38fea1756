/- Ends: a part. Conditions: none. -/
import Derived.RowKitTokens
import Derived.Stop.Asserts
import Derived.Test.YtmanpggemmgnnaaGreatDoorA32
set_option linter.all false
set_option maxHeartbeats 8000000
set_option maxRecDepth 1000000
namespace Go.Proofs.YtmanpggemmgnnaaGreatDoor
noncomputable section
open Go Go.RowKit Go.Extern.Stop Go.Stop Go.Extern Tryz
def Ņ:=@World.block_lt_of_cell?
def ń:=@World.frozen?_alloc_old
def Ń:=@World.cell?_alloc_lt
def ł:=@run_callFunc_extern
def Ł:=@Sem.run_bind
def yo{p:Prop}(h:p:=by kernel_rfl):p:=h
namespace Ea
def aAw t w:
 Calls Tq.prog 71 #[.nilIface,t] w λe U=>e=.returned (.bool false)/\U=w:=by
 go_enter Tq.func71,ntmps71;go_wp2;go_ret;exact⟨rfl,rfl⟩
def AQ t w:(ReflectliteValue.unpack (.iface 137 (.pointer (some t)))).run Tq.prog w
 =.ok (.agg #[.pointer (some ⟨10,137,none⟩),.pointer (some ⟨w.heap.size,0,none⟩),.int .u64 150]) (w.alloc (.cells #[.pointer (some t)] 137)):=yo
def Nz a w:(ReflectliteValue.methodAny (ReflectliteValue.valueError "reflectlite.Value.Type" 0) (λt _ _ _=>ReflectliteType.toType t) #[.agg #[.pointer (some ⟨10,137,none⟩),.pointer (some a),.int .u64 150]]).run Tq.prog w
 =.ok (.iface 216 (.agg #[.pointer (some ⟨10,137,none⟩)])) w:=yo
def yJ h w:(Go.method 476 216 (.agg #[h]) "Kind").run Tq.prog w=.ok (291,h) w:=yo
def NA w:((ReflectliteType.abiMethod λt=>Functor.map (λa:Nat=>Value.int IntKind.u8 (a:Int)) (Rtype.kind t)) #[.pointer (some ⟨10,137,none⟩)]).run Tq.prog w=.ok (.int .u8 22) w:=yo
def NB w:((ReflectliteType.abiMethod λt=>Functor.map (λa:Nat=>Value.int IntKind.u8 (a:Int)) (Rtype.kind t)) #[.pointer (some ⟨10,135,none⟩)]).run Tq.prog w=.ok (.int .u8 22) w:=yo
def rlm z f v:
 ReflectliteValue.method z f #[v]=(do match<-ReflectliteValue.parts v with|none=>z|some (t,a,fl)=>f t a fl (fl%32)):=rfl
def HY a w:(ReflectliteValue.parts (.agg #[.pointer (some ⟨10,137,none⟩),.pointer (some a),.int .u64 150])).run Tq.prog w=.ok (some (137,a,150)) w:=yo
def HZ a p W(ha:W.cell? a=some (.pointer (some p))):
 (ReflectliteValue.method (ReflectliteValue.valueError "reflectlite.Value.IsNil" 0) ReflectliteValue.isNil #[.agg #[.pointer (some ⟨10,137,none⟩),.pointer (some a),.int .u64 150]]).run Tq.prog W=.ok (.bool false) W:=by
 rw[rlm];simp only[Ł,HY,Result.andThen];simp[ReflectliteValue.isNil,loadVar,isAgg,underlying,underlying137,ha,Result.andThen]
def yK h w:(Go.method 476 216 (.agg #[h]) "Elem").run Tq.prog w=.ok (301,.agg #[h]) w:=yo
def nJ h w:(Go.method 476 216 (.agg #[h]) "Implements").run Tq.prog w=.ok (302,.agg #[h]) w:=yo
def lg h w:(Go.method 476 216 (.agg #[h]) "AssignableTo").run Tq.prog w=.ok (299,.agg #[h]) w:=yo
def NC w:(ReflectliteType.method ReflectliteType.elem #[.agg #[.pointer (some ⟨10,137,none⟩)]]).run Tq.prog w=.ok (.iface 216 (.agg #[.pointer (some ⟨10,135,none⟩)])) w:=yo
def tK w:(ReflectliteType.relation "Implements" ReflectliteType.implements_ #[.agg #[.pointer (some ⟨10,135,none⟩)],.iface 216 (.agg #[.pointer (some ⟨10,133,none⟩)])]).run Tq.prog w=.ok (.bool true) w:=yo
def Qp v w:(ReflectliteType.typeOf #[.iface 135 v]).run Tq.prog w=.ok (.iface 216 (.agg #[.pointer (some ⟨10,135,none⟩)])) w:=yo
def EC w:(ReflectliteType.relation "AssignableTo" ReflectliteType.assignableTo #[.agg #[.pointer (some ⟨10,135,none⟩)],.iface 216 (.agg #[.pointer (some ⟨10,135,none⟩)])]).run Tq.prog w=.ok (.bool true) w:=yo
def Ny e w:(ReflectliteValue.unpack (.iface 135 (.pointer (some e)))).run Tq.prog w
 =.ok (.agg #[.pointer (some ⟨10,135,none⟩),.pointer (some ⟨w.heap.size,0,none⟩),.int .u64 150]) (w.alloc (.cells #[.pointer (some e)] 135)):=yo
def Qs w:(Rtype.elem? 137).run Tq.prog w=.ok (some 135) w:=yo
def aHW p w:(ReflectliteValue.mk 135 p ReflectliteValue.flagAddr).run Tq.prog w=.ok (.agg #[.pointer (some ⟨10,135,none⟩),.pointer (some p),.int .u64 406]) w:=yo
def VF a p W(ha:W.cell? a=some (.pointer (some p))):
 (ReflectliteValue.method (ReflectliteValue.valueError "reflectlite.Value.Elem" 0) ReflectliteValue.elem #[.agg #[.pointer (some ⟨10,137,none⟩),.pointer (some a),.int .u64 150]]).run Tq.prog W
   =.ok (.agg #[.pointer (some ⟨10,135,none⟩),.pointer (some p),.int .u64 406]) W:=by
 rw[rlm];simp only[Ł,HY,Result.andThen];simp[ReflectliteValue.elem,loadVar,isAgg,underlying,underlying137,ha,Result.andThen,Qs,aHW]
def rls v x:ReflectliteValue.set #[v,x]=(do
 let (some (dst,a,fl),some (src,b,_)):=(<-ReflectliteValue.parts v,<-ReflectliteValue.parts x)
  |unsupported (.noEntry "extern/(internal/reflectlite.Value).Set.zeroValue")
 if fl / ReflectliteValue.flagAddr%2==0 then unsupported (.noEntry "extern/(internal/reflectlite.Value).Set.unaddressable")
 let val<-loadVar src b
 if<-Rtype.directlyAssignable dst src then storeVar dst a val
 else if<-Rtype.implements dst src then
  if(<-Rtype.kind src)==20 then
   match val with
   | .nilIface=>unsupported (.noEntry "extern/reflectlite: a nil value of one interface type handed on as a value of another")
   |_=>storeVar dst a val
  else storeVar dst a (.iface src val)
 else panicString ("reflectlite.Set: value of type "++(<-Rtype.spelt src)++ " is not assignable to type "++(<-Rtype.spelt dst))
 pure (.tuple #[])):=rfl
def Qq a w:(ReflectliteValue.parts (.agg #[.pointer (some ⟨10,135,none⟩),.pointer (some a),.int .u64 406])).run Tq.prog w=.ok (some (135,a,406)) w:=yo
def VE a w:(ReflectliteValue.parts (.agg #[.pointer (some ⟨10,135,none⟩),.pointer (some a),.int .u64 150])).run Tq.prog w=.ok (some (135,a,150)) w:=yo
def Qt w:(Rtype.directlyAssignable 135 135).run Tq.prog w=.ok true w:=yo
def aDu ta b e old W(hb:W.cell? b=some (.pointer (some e)))(ht:W.cell? ta=some old)(hf:W.frozen? ta=false):
 (ReflectliteValue.set #[.agg #[.pointer (some ⟨10,135,none⟩),.pointer (some ta),.int .u64 406],.agg #[.pointer (some ⟨10,135,none⟩),.pointer (some b),.int .u64 150]]).run Tq.prog W
   =.ok (.tuple #[]) (W.setCell ta (.pointer (some e))):=by
 rw[rls];simp only[Ł,Qq,VE,Result.andThen];simp[ReflectliteValue.flagAddr,loadVar,isAgg,underlying,underlying135,hb,Result.andThen,Qt,storeVar,Value.cells,storeCells,Addr.add];rw[run_store Tq.prog W ta _ _ (by rfl)];simp[ht,hf]
def Vy e t b old w(hb:w.cell? b=some (.pointer (some t)))(ht0:w.cell? t=some old)(Kf:w.frozen? t=false):
 Calls Tq.prog 119 #[.iface 135 (.pointer (some e)),.iface 137 (.pointer (some t)),.agg #[.pointer (some ⟨10,137,none⟩),.pointer (some b),.int .u64 150],.iface 216 (.agg #[.pointer (some ⟨10,135,none⟩)])] w
  λev U=>ev=.returned (.bool true)/\U=((w.alloc (.cells #[.pointer (some ⟨10,137,none⟩),.pointer (some b),.int .u64 150] 179)).alloc (.cells #[.pointer (some e)] 135)).setCell t (.pointer (some e)):=by
 have h6:=@ł Tq.prog 116 _ (λargs=>ReflectliteValue.unpack (args.getD 0 (.tuple #[]))) Tq.func116 yo yo yo yo;have DV:=@ł Tq.prog 121 _ ReflectliteType.typeOf Tq.func121 yo yo yo yo;have h35:=@ł Tq.prog 299 _ (ReflectliteType.relation "AssignableTo" ReflectliteType.assignableTo) Tq.func299 yo yo yo yo;have h11:=@ł Tq.prog 161 _ (ReflectliteValue.method (ReflectliteValue.valueError "reflectlite.Value.Elem" 0) ReflectliteValue.elem) Tq.func161 yo yo yo yo;have PO:=@ł Tq.prog 162 _ ReflectliteValue.set Tq.func162 yo yo yo yo;have tO:=Qp;have mA:=lg;have a25:=EC;have v25:=Ny;have Hb:b.block<w.heap.size:=Ņ w b hb;have htl:t.block<w.heap.size:=Ņ w t ht0;have el:=VF b t (w.alloc (.cells #[.pointer (some ⟨10,137,none⟩),.pointer (some b),.int .u64 150] 179)) (by rw[Ń _ _ b Hb];exact hb);have st:=aDu t ⟨w.heap.size+1,0,none⟩ e old ((w.alloc (.cells #[.pointer (some ⟨10,137,none⟩),.pointer (some b),.int .u64 150] 179)).alloc (.cells #[.pointer (some e)] 135))
  (by rw[World.cell?_alloc_at _ _ _ _ (by simp)];rfl)
  (by rw[Ń _ _ t (by simp;omega),Ń _ _ t htl];exact ht0)
  (by rw[ń _ _ t (by simp;omega),ń _ _ t (iu htl)];exact Kf)
 go_enter Tq.func119,ntmps119;go_wp2;refine wp_loop_rounds 1 ?_;rw[rounds_succ];go_wp2;go_ret;exact⟨rfl,rfl⟩
end Ea
