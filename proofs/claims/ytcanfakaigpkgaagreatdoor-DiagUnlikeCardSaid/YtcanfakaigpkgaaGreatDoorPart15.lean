/-
  Of the proof that the law DiagUnlike answers true at every two values: a part, without conditions of its own.
-/
import Derived.Test.YtcanfakaigpkgaaGreatDoorPart11
set_option linter.unusedVariables false
set_option linter.unusedSimpArgs false
set_option maxRecDepth 100000
set_option maxHeartbeats 8000000
namespace Go.Proofs.YtcanfakaigpkgaaGreatDoor.D
open Go Go.RowKit Go.Extern.Stop Go.Stop Go.Extern Limb
theorem zFM(t:Addr)(w:World):(ReflectliteValue.unpack (.iface 116 (.pointer (some t)))).run Tryz.prog w
  = .ok (.agg #[.pointer (some ⟨22,116,none⟩),.pointer (some ⟨w.heap.size,0,none⟩),.int .u64 150]) (w.alloc (.cells #[.pointer (some t)] 116)):=by kernel_rfl
theorem zJN(a:Addr)(w:World):(ReflectliteValue.methodAny (ReflectliteValue.valueError "reflectlite.Value.Type" 0) (fun t _ _ _=>ReflectliteType.toType t) #[.agg #[.pointer (some ⟨22,116,none⟩),.pointer (some a),.int .u64 150]]).run Tryz.prog w
  = .ok (.iface 246 (.agg #[.pointer (some ⟨22,116,none⟩)])) w:=by kernel_rfl
theorem zFf(h:Value)(w:World):(Go.method 468 246 (.agg #[h]) "Kind").run Tryz.prog w=.ok (268,h) w:=by kernel_rfl
theorem zJV(w:World):((ReflectliteType.abiMethod fun t=>(fun a:Nat=>Value.int IntKind.u8 (a:Int)) <$> Rtype.kind t) #[.pointer (some ⟨22,116,none⟩)]).run Tryz.prog w=.ok (.int .u8 22) w:=by kernel_rfl
theorem zJL(w:World):((ReflectliteType.abiMethod fun t=>(fun a:Nat=>Value.int IntKind.u8 (a:Int)) <$> Rtype.kind t) #[.pointer (some ⟨22,81,none⟩)]).run Tryz.prog w=.ok (.int .u8 22) w:=by kernel_rfl
theorem rlm(z:Sem Value)(f:TypeId->Addr->Nat->Nat->Sem Value)(v:Value):
  ReflectliteValue.method z f #[v]=(do match <-ReflectliteValue.parts v with|none=>z|some (t,a,fl)=>f t a fl (fl % 32)):=rfl
theorem zE9(a:Addr)(w:World):(ReflectliteValue.parts (.agg #[.pointer (some ⟨22,116,none⟩),.pointer (some a),.int .u64 150])).run Tryz.prog w=.ok (some (116,a,150)) w:=by kernel_rfl
theorem zI8(a p:Addr)(W:World)(ha:W.cell? a=some (.pointer (some p))):
  (ReflectliteValue.method (ReflectliteValue.valueError "reflectlite.Value.IsNil" 0) ReflectliteValue.isNil #[.agg #[.pointer (some ⟨22,116,none⟩),.pointer (some a),.int .u64 150]]).run Tryz.prog W=.ok (.bool false) W:=by
 rw[rlm];simp only[Sem.run_bind,zE9,Result.andThen];simp[ReflectliteValue.isNil,loadVar,isAgg,underlying,Tryz.underlying116,ha,Result.andThen]
theorem zFF(h:Value)(w:World):(Go.method 468 246 (.agg #[h]) "Elem").run Tryz.prog w=.ok (280,.agg #[h]) w:=by kernel_rfl
theorem zC8(h:Value)(w:World):(Go.method 468 246 (.agg #[h]) "Implements").run Tryz.prog w=.ok (281,.agg #[h]) w:=by kernel_rfl
theorem zCA(h:Value)(w:World):(Go.method 468 246 (.agg #[h]) "AssignableTo").run Tryz.prog w=.ok (278,.agg #[h]) w:=by kernel_rfl
theorem zJA(w:World):(ReflectliteType.method ReflectliteType.elem #[.agg #[.pointer (some ⟨22,116,none⟩)]]).run Tryz.prog w=.ok (.iface 246 (.agg #[.pointer (some ⟨22,81,none⟩)])) w:=by kernel_rfl
theorem zEy(w:World):(ReflectliteType.relation "Implements" ReflectliteType.implements_ #[.agg #[.pointer (some ⟨22,81,none⟩)],.iface 246 (.agg #[.pointer (some ⟨22,35,none⟩)])]).run Tryz.prog w=.ok (.bool true) w:=by kernel_rfl
theorem zGP(v:Value)(w:World):(ReflectliteType.typeOf #[.iface 81 v]).run Tryz.prog w=.ok (.iface 246 (.agg #[.pointer (some ⟨22,81,none⟩)])) w:=by kernel_rfl
theorem zEm(w:World):(ReflectliteType.relation "AssignableTo" ReflectliteType.assignableTo #[.agg #[.pointer (some ⟨22,81,none⟩)],.iface 246 (.agg #[.pointer (some ⟨22,81,none⟩)])]).run Tryz.prog w=.ok (.bool true) w:=by kernel_rfl
theorem zFQ(e:Addr)(w:World):(ReflectliteValue.unpack (.iface 81 (.pointer (some e)))).run Tryz.prog w
  = .ok (.agg #[.pointer (some ⟨22,81,none⟩),.pointer (some ⟨w.heap.size,0,none⟩),.int .u64 150]) (w.alloc (.cells #[.pointer (some e)] 81)):=by kernel_rfl
theorem zG1(w:World):(Rtype.elem? 116).run Tryz.prog w=.ok (some 81) w:=by kernel_rfl
theorem zNW(p:Addr)(w:World):(ReflectliteValue.mk 81 p ReflectliteValue.flagAddr).run Tryz.prog w=.ok (.agg #[.pointer (some ⟨22,81,none⟩),.pointer (some p),.int .u64 406]) w:=by kernel_rfl
theorem zIw(a p:Addr)(W:World)(ha:W.cell? a=some (.pointer (some p))):
  (ReflectliteValue.method (ReflectliteValue.valueError "reflectlite.Value.Elem" 0) ReflectliteValue.elem #[.agg #[.pointer (some ⟨22,116,none⟩),.pointer (some a),.int .u64 150]]).run Tryz.prog W
   = .ok (.agg #[.pointer (some ⟨22,81,none⟩),.pointer (some p),.int .u64 406]) W:=by
 rw[rlm];simp only[Sem.run_bind,zE9,Result.andThen];simp[ReflectliteValue.elem,loadVar,isAgg,underlying,Tryz.underlying116,ha,Result.andThen,zG1,zNW]
theorem rls(v x:Value):ReflectliteValue.set #[v,x]=(do
  let (some (dst,a,fl),some (src,b,_)):=(<-ReflectliteValue.parts v,<-ReflectliteValue.parts x)
   | unsupported (.noEntry "extern/(internal/reflectlite.Value).Set.zeroValue")
  if fl / ReflectliteValue.flagAddr % 2 == 0 then unsupported (.noEntry "extern/(internal/reflectlite.Value).Set.unaddressable")
  let val <-loadVar src b
  if <-Rtype.directlyAssignable dst src then storeVar dst a val
  else if <-Rtype.implements dst src then
   if (<-Rtype.kind src) == 20 then
    match val with
    | .nilIface=>unsupported (.noEntry "extern/reflectlite: a nil value of one interface type handed on as a value of another")
    | _=>storeVar dst a val
   else storeVar dst a (.iface src val)
  else panicString ("reflectlite.Set: value of type " ++ (<-Rtype.spelt src) ++ " is not assignable to type " ++ (<-Rtype.spelt dst))
  pure (.tuple #[])):=rfl
theorem zHg(a:Addr)(w:World):(ReflectliteValue.parts (.agg #[.pointer (some ⟨22,81,none⟩),.pointer (some a),.int .u64 406])).run Tryz.prog w=.ok (some (81,a,406)) w:=by kernel_rfl
theorem zJd(a:Addr)(w:World):(ReflectliteValue.parts (.agg #[.pointer (some ⟨22,81,none⟩),.pointer (some a),.int .u64 150])).run Tryz.prog w=.ok (some (81,a,150)) w:=by kernel_rfl
theorem zGx(w:World):(Rtype.directlyAssignable 81 81).run Tryz.prog w=.ok true w:=by kernel_rfl
theorem zLZ(ta b e:Addr)(old:Value)(W:World)(hb:W.cell? b=some (.pointer (some e)))(ht:W.cell? ta=some old)(hf:W.frozen? ta=false):
  (ReflectliteValue.set #[.agg #[.pointer (some ⟨22,81,none⟩),.pointer (some ta),.int .u64 406],.agg #[.pointer (some ⟨22,81,none⟩),.pointer (some b),.int .u64 150]]).run Tryz.prog W
   = .ok (.tuple #[]) (W.setCell ta (.pointer (some e))):=by
 rw[rls];simp only[Sem.run_bind,zHg,zJd,Result.andThen];simp[ReflectliteValue.flagAddr,loadVar,isAgg,underlying,Tryz.underlying81,hb,Result.andThen,zGx,storeVar,Value.cells,storeCells,Addr.add];rw[run_store Tryz.prog W ta _ _ (by rfl)];simp[ht,hf]
theorem zP0(e t:Addr)(old:Value)(w:World)(hg:w.cell? ⟨12,0,none⟩=some (.iface 246 (.agg #[.pointer (some ⟨22,35,none⟩)])))(ht0:w.cell? t=some old)(hf0:w.frozen? t=false):
  Calls Tryz.prog 70 #[.iface 81 (.pointer (some e)),.iface 116 (.pointer (some t))] w fun ev w'=>ev=.returned (.bool true)/\w'=((((w.alloc (.cells #[.pointer (some t)] 116)).alloc (.cells #[.pointer (some ⟨22,116,none⟩),.pointer (some ⟨w.heap.size,0,none⟩),.int .u64 150] 181)).alloc (.cells #[.pointer (some ⟨22,116,none⟩),.pointer (some ⟨w.heap.size,0,none⟩),.int .u64 150] 181)).alloc (.cells #[.pointer (some e)] 81)).setCell t (.pointer (some e)):=by
 have h6:=@run_callFunc_extern Tryz.prog 119 _ (fun args=>ReflectliteValue.unpack (args.getD 0 (.tuple #[]))) Tryz.func119 (by kernel_rfl) (by kernel_rfl) (by kernel_rfl) (by kernel_rfl);have h7:=@run_callFunc_extern Tryz.prog 120 _ (ReflectliteValue.methodAny (ReflectliteValue.valueError "reflectlite.Value.Type" 0) (fun t _ _ _=>ReflectliteType.toType t)) Tryz.func120 (by kernel_rfl) (by kernel_rfl) (by kernel_rfl) (by kernel_rfl);have h8:=@run_callFunc_extern Tryz.prog 121 _ (ReflectliteValue.method (ReflectliteValue.valueError "reflectlite.Value.IsNil" 0) ReflectliteValue.isNil) Tryz.func121 (by kernel_rfl) (by kernel_rfl) (by kernel_rfl) (by kernel_rfl);have h27:=@run_callFunc_extern Tryz.prog 268 _ (ReflectliteType.abiMethod fun t=>do pure (.int .u8 (<-Rtype.kind t))) Tryz.func268 (by kernel_rfl) (by kernel_rfl) (by kernel_rfl) (by kernel_rfl);have h37:=@run_callFunc_extern Tryz.prog 280 _ (ReflectliteType.method ReflectliteType.elem) Tryz.func280 (by kernel_rfl) (by kernel_rfl) (by kernel_rfl) (by kernel_rfl);have h38:=@run_callFunc_extern Tryz.prog 281 _ (ReflectliteType.relation "Implements" ReflectliteType.implements_) Tryz.func281 (by kernel_rfl) (by kernel_rfl) (by kernel_rfl) (by kernel_rfl);have h10:=@run_callFunc_extern Tryz.prog 117 _ ReflectliteType.typeOf Tryz.func117 (by kernel_rfl) (by kernel_rfl) (by kernel_rfl) (by kernel_rfl);have h35:=@run_callFunc_extern Tryz.prog 278 _ (ReflectliteType.relation "AssignableTo" ReflectliteType.assignableTo) Tryz.func278 (by kernel_rfl) (by kernel_rfl) (by kernel_rfl) (by kernel_rfl);have h11:=@run_callFunc_extern Tryz.prog 172 _ (ReflectliteValue.method (ReflectliteValue.valueError "reflectlite.Value.Elem" 0) ReflectliteValue.elem) Tryz.func172 (by kernel_rfl) (by kernel_rfl) (by kernel_rfl) (by kernel_rfl);have h12:=@run_callFunc_extern Tryz.prog 173 _ ReflectliteValue.set Tryz.func173 (by kernel_rfl) (by kernel_rfl) (by kernel_rfl) (by kernel_rfl);have tO:=zGP;have mA:=zCA
 have a25:=zEm;have v25:=zFQ;have f6:=zFM;have f7:=zJN;have mK:=zFf;have mE:=zFF;have mI:=zC8;have k27:=zJV;have k25:=zJL;have e27:=zJA;have i25:=zEy;have n8:=zI8 ⟨w.heap.size,0,none⟩ t ((w.alloc (.cells #[.pointer (some t)] 116)).alloc (.cells #[.pointer (some ⟨22,116,none⟩),.pointer (some ⟨w.heap.size,0,none⟩),.int .u64 150] 181)) (by simp)
 have hlt:12<w.heap.size:=by
  rcases Nat.lt_or_ge 12 w.heap.size with h|h
  ·exact h
  ·simp[World.cell?,Array.getElem?_eq_none h] at hg
 have hg2:((w.alloc (.cells #[.pointer (some t)] 116)).alloc (.cells #[.pointer (some ⟨22,116,none⟩),.pointer (some ⟨w.heap.size,0,none⟩),.int .u64 150] 181)).cell? ⟨12,0,none⟩=some (.iface 246 (.agg #[.pointer (some ⟨22,35,none⟩)])):=by
  rw[World.cell?_alloc_lt _ _ ⟨12,0,none⟩ (by simp;omega),World.cell?_alloc_lt _ _ ⟨12,0,none⟩ hlt];exact hg
 have htl:t.block<w.heap.size:=by
  rcases Nat.lt_or_ge t.block w.heap.size with h|h
  ·exact h
  ·simp[World.cell?,Array.getElem?_eq_none h] at ht0
 have el:=zIw ⟨w.heap.size,0,none⟩ t (((w.alloc (.cells #[.pointer (some t)] 116)).alloc (.cells #[.pointer (some ⟨22,116,none⟩),.pointer (some ⟨w.heap.size,0,none⟩),.int .u64 150] 181)).alloc (.cells #[.pointer (some ⟨22,116,none⟩),.pointer (some ⟨w.heap.size,0,none⟩),.int .u64 150] 181)) (by rw[World.cell?_alloc_lt _ _ ⟨w.heap.size,0,none⟩ (by simp;omega)];simp)
 have st:=zLZ t ⟨w.heap.size+1+1+1,0,none⟩ e old ((((w.alloc (.cells #[.pointer (some t)] 116)).alloc (.cells #[.pointer (some ⟨22,116,none⟩),.pointer (some ⟨w.heap.size,0,none⟩),.int .u64 150] 181)).alloc (.cells #[.pointer (some ⟨22,116,none⟩),.pointer (some ⟨w.heap.size,0,none⟩),.int .u64 150] 181)).alloc (.cells #[.pointer (some e)] 81))
  (by rw[World.cell?_alloc_at _ _ _ _ (by simp)];rfl)
  (by rw[World.cell?_alloc_lt _ _ t (by simp;omega),World.cell?_alloc_lt _ _ t (by simp;omega),World.cell?_alloc_lt _ _ t (by simp;omega),World.cell?_alloc_lt _ _ t htl];exact ht0)
  (by rw[World.frozen?_alloc_old _ _ t (by simp;omega),World.frozen?_alloc_old _ _ t (by simp;omega),World.frozen?_alloc_old _ _ t (by simp;omega),World.frozen?_alloc_old _ _ t (Nat.ne_of_lt htl)];exact hf0)
 go_enter Tryz.func70,Tryz.ntmps70
 go_wp2;refine wp_loop_rounds 1 ?_;rw[rounds_succ];go_wp2;go_ret;exact⟨rfl,rfl⟩
end Go.Proofs.YtcanfakaigpkgaaGreatDoor.D
