/-
  Of the proof that the law DiagUnlike answers true at every two values: a part, without conditions of its own.
-/
import Derived.Test.YtcanfakaigpkgaaGreatDoorPart08
import Derived.LaidEql
import Derived.Stop.Asserts
import Derived.RowKitTokens
import Derived.Test.YtcanfakaigpkgaaGreatDoorPart07
import Derived.Test.YtcanfakaigpkgaaGreatDoorPart09
set_option linter.unusedVariables false
set_option linter.unusedSimpArgs false
set_option maxRecDepth 100000
set_option maxHeartbeats 8000000
namespace Go.Proofs.YtcanfakaigpkgaaGreatDoor.D
open Go Go.RowKit Go.Extern.Stop Go.Stop Go.Extern Limb
abbrev isC:TypeId->Sem Value:=fun t=>do Extern.Rtype.noPackHeld "Comparable" t;pure (.bool (<-typeInfo t).comparable)
theorem zH7(v:Value)(w:World):(Extern.ReflectliteType.typeOf #[.iface 339 v]).run Tryz.prog w=.ok (.iface 246 (.agg #[.pointer (some ⟨22,339,none⟩)])) w:=by kernel_rfl
theorem zDS(w:World):((Extern.ReflectliteType.method isC) #[.agg #[.pointer (some ⟨22,339,none⟩)]]).run Tryz.prog w=.ok (.bool true) w:=by kernel_rfl
theorem zB2(v:Value)(w:World):(Go.method 468 246 v "Comparable").run Tryz.prog w=.ok (279,v) w:=by kernel_rfl
theorem zNe:(Tryz.prog.info? 339).map (·.comparable)=some true:=by kernel_rfl
theorem zNi:(Tryz.prog.info? 357).map (·.size)=some 1:=by kernel_rfl
theorem zPz(v:Value)(xT:TypeId)(w:World):(Instr.typeAssert (.iface 339 v) xT 248 true).run Tryz.prog w=.ok (.tuple #[.nilIface,.bool false]) w:=run_typeAssert_lacksB Tryz.underlying248 (by kernel_rfl) (by kernel_rfl) v xT w
theorem zFU(v:Value)(xT:TypeId)(w:World):(Instr.typeAssert (.iface 339 v) xT 251 true).run Tryz.prog w=.ok (.tuple #[.nilIface,.bool false]) w:=run_typeAssert_lacksB Tryz.underlying251 (by kernel_rfl) (by kernel_rfl) v xT w
theorem zET(v:Value)(xT:TypeId)(w:World):(Instr.typeAssert (.iface 339 v) xT 253 true).run Tryz.prog w=.ok (.tuple #[.nilIface,.bool false]) w:=run_typeAssert_lacksB Tryz.underlying253 (by kernel_rfl) (by kernel_rfl) v xT w
theorem zP5(v:Value)(xT:TypeId)(w:World):(Instr.typeAssert (.iface 81 v) xT 248 true).run Tryz.prog w=.ok (.tuple #[.nilIface,.bool false]) w:=run_typeAssert_lacksB Tryz.underlying248 (by kernel_rfl) (by kernel_rfl) v xT w
theorem zE0(v:Value)(xT:TypeId)(w:World):(Instr.typeAssert (.iface 81 v) xT 251 true).run Tryz.prog w=.ok (.tuple #[.iface 81 v,.bool true]) w:=run_typeAssert_hasB Tryz.underlying251 (by kernel_rfl) v xT w
theorem zDU(v:Value)(w:World):(Go.method 468 81 v "Unwrap").run Tryz.prog w=.ok (273,v) w:=by kernel_rfl
theorem zDq(pb:Nat)(b:Addr)(w:World)(h1:w.cell? ⟨pb,0,none⟩=some (.iface 339 (.pointer (some b)))):
  Calls Tryz.prog 69 #[.iface 81 (.pointer (some ⟨pb,0,none⟩)),.iface 339 (.pointer (some b))] w fun e w'=>e=.returned (.bool true)/\w'=w:=by
 obtain⟨i,hi,hcmp⟩:=Option.map_eq_some_iff.1 zNe;obtain⟨j,hj,hjs⟩:=Option.map_eq_some_iff.1 zNi;have h8:=@run_callFunc_extern Tryz.prog 117 _ Extern.ReflectliteType.typeOf Tryz.func117 (by kernel_rfl) (by kernel_rfl) (by kernel_rfl) (by kernel_rfl);have h32:=@run_callFunc_extern Tryz.prog 279 _ (Extern.ReflectliteType.method isC) Tryz.func279 (by kernel_rfl) (by kernel_rfl) (by kernel_rfl) (by kernel_rfl);have tT:=zH7;have cT:=zDS;have mR:=zB2;have nE:=zPz;have uE:=zFU;have vE:=zET;have nW:=zP5;have uW:=zE0;have mU:=zDU;have hty:=run_eql_iface_types (P:=Tryz.prog) 81 339 (.pointer (some ⟨pb,0,none⟩)) (.pointer (some b)) Tryz.underlying35 (by decide) w;have heq:=run_eql_iface_ptr_same (P:=Tryz.prog) w b Tryz.underlying35 Tryz.underlying339 hi hcmp hj;go_enter Tryz.func69,Tryz.ntmps69
 go_wp2;refine wp_loop_rounds 2 ?_;rw[rounds_succ];go_wp2;rw[rounds_succ];go_wp2;go_ret;exact⟨rfl,rfl⟩
theorem zC1(pb:Nat)(b a:Addr)(ca cb:Array Value)(ta tb:TypeId)(w:World)(h1:w.cell? ⟨pb,0,none⟩=some (.iface 339 (.pointer (some a))))(hne:a≠b)(ha:w.heap[a.block]?=some (.cells ca ta (0,0)))(hb:w.heap[b.block]?=some (.cells cb tb (0,0))):
  Calls Tryz.prog 69 #[.iface 81 (.pointer (some ⟨pb,0,none⟩)),.iface 339 (.pointer (some b))] w fun e w'=>e=.returned (.bool false)/\w'=w:=by
 obtain⟨i,hi,hcmp⟩:=Option.map_eq_some_iff.1 zNe;obtain⟨j,hj,hjs⟩:=Option.map_eq_some_iff.1 zNi;have h8:=@run_callFunc_extern Tryz.prog 117 _ Extern.ReflectliteType.typeOf Tryz.func117 (by kernel_rfl) (by kernel_rfl) (by kernel_rfl) (by kernel_rfl);have h32:=@run_callFunc_extern Tryz.prog 279 _ (Extern.ReflectliteType.method isC) Tryz.func279 (by kernel_rfl) (by kernel_rfl) (by kernel_rfl) (by kernel_rfl);have tT:=zH7;have cT:=zDS;have mR:=zB2;have nE:=zPz;have uE:=zFU;have vE:=zET;have nW:=zP5;have uW:=zE0;have mU:=zDU;have hty:=run_eql_iface_types (P:=Tryz.prog) 81 339 (.pointer (some ⟨pb,0,none⟩)) (.pointer (some b)) Tryz.underlying35 (by decide) w;have heq:=run_eql_iface_ptr_other (P:=Tryz.prog) w Tryz.underlying35 Tryz.underlying339 hi hcmp hj (by rw[hjs];decide) hne ha hb;go_enter Tryz.func69,Tryz.ntmps69
 go_wp2;refine wp_loop_rounds 2 ?_;rw[rounds_succ];go_wp2;rw[rounds_succ];go_wp2;go_ret;exact⟨rfl,rfl⟩
end Go.Proofs.YtcanfakaigpkgaaGreatDoor.D
namespace Go.Proofs.YtcanfakaigpkgaaGreatDoor.D
open Go Go.RowKit
def PS(B q:Nat)(neg less:Bool)(L:List UInt8)(whole power:Nat)(w:World):Prop:=
 B<=q/\∃ v,Blk w q #[.bool neg,.bool less,v,.int .i64 (whole:Int),.int .i64 (power:Int)] 236/\Own B w v L/\v.ownBlock≠some q
theorem zGH(B q:Nat)(neg less:Bool)(L:List UInt8)(whole power:Nat)(c:UInt8)(ahead:Bool)(w:World)(h:PS B q neg less L whole power w)(hBw:B<=w.heap.size)(hL:L.length<=100)(hw:whole<=100):
  Calls Tryz.prog 206 #[.pointer (some ⟨q,0,none⟩),.int .u8 (c.toNat:Int),.bool ahead] w fun e w'=>e=.returned (.tuple #[])/\PS B q neg less (L ++ [c]) (if ahead then whole+1 else whole) power w'/\Below B w w':=by
 obtain⟨i0,hi,hz0,hz1,hz2⟩:=zDg;have HI:=zz hi;obtain⟨hBq,v,hq,hown,hne⟩:=h;have hcc:Lib.byteCells (L ++ [c])=Lib.byteCells L ++ [.int .u8 (c.toNat:Int)]:=by simp[Lib.byteCells]
 generalize (c.toNat:Int)=x at hcc ⊢;have c2:=hq.cell 2;have f2:=hq.free 2;clear hi;go_enter Tryz.func206,Tryz.ntmps206
 go_wp2_with (at_builtin;refine wpList_append_own _ rfl _ _ 47 rfl B 5 i0 (.int .u8 0) 1 1 Tryz.underlying47 HI.out hz0 hz1 hz2 rfl (by decide) _ _ _ rfl (World.ownsRow.alloc hown _) ⟨w.heap.size,0,none⟩ 1 1 [.int .u8 x] rfl rfl ?c1 ?c2 ?c3 ?c4 ?c5 ?_)
 case c1=>
  intro j u hj
  match j,hj with
  | 0,hj=>simp at hj;subst hj;simp[Addr.add]
 case c2=>intro u hu;simp at hu;subst hu;rfl
 case c3=>unfold maxLen;omega
 case c4=>omega
 case c5=>simp;omega
 intro v' w2 hown' hgrow _;have hlt:q<w.heap.size:=hq.lt
 have hq2:Blk w2 q #[.bool neg,.bool less,v,.int .i64 (whole:Int),.int .i64 (power:Int)] 236:=by
  unfold Blk at *;rw[hgrow.block q (by simp;omega) (fun e=>hne e.symm),Lib.alloc_old w _ q hlt];exact hq
 have hne':v'.ownBlock≠some q:=by
  intro e;have h1:=(World.ownsRow.lt hown' q e);obtain⟨hl,h0|⟨g,cap,cur,hv,hBg,hg,r⟩⟩:=hown'
  ·omega
  ·rw[hv] at e;simp[Value.ownBlock] at e;subst e;unfold Blk at hq2;rw[hg] at hq2;simp at hq2
 have hb2:Below B w w2:=((zK B w).alloc hBw _).grown hgrow (by simp;omega) (fun k hk=>(World.ownsRow.lt hown k hk).1)
 have hO2:Own B w2 v' (L ++ [c]):=by
  unfold Own;rw[List.length_append,hcc];exact hown'
 have hq3:=hq2.set 2 v'
 have hO3:Own B (w2.setCell ⟨q,2,none⟩ v') v' (L ++ [c]):=by
  obtain⟨hl,h0|⟨g,cap,cur,hv,hBg,hg,r⟩⟩:=hO2
  ·exact⟨hl,.inl h0⟩
  ·refine⟨hl,.inr ⟨g,cap,cur,hv,hBg,?_,r⟩⟩;rw[Below.heap_setCell _ _ _ _ (by intro e;apply hne';rw[hv];simp at e;subst e;rfl)];exact hg
 have hb3:=hb2.setCell (p:=⟨q,2,none⟩) hBq v'
 have hfin:∀ wh:Nat,Own B ((w2.setCell ⟨q,2,none⟩ v').setCell ⟨q,3,none⟩ (.int .i64 (wh:Int))) v' (L ++ [c]):=by
  intro wh;obtain⟨hl,h0|⟨g,cap,cur,hv,hBg,hg,r⟩⟩:=hO3
  ·exact⟨hl,.inl h0⟩
  ·refine⟨hl,.inr ⟨g,cap,cur,hv,hBg,?_,r⟩⟩;rw[Below.heap_setCell _ _ _ _ (by intro e;apply hne';rw[hv];simp at e;subst e;rfl)];exact hg
 have d2:=hq2.cell 2;have g2:=hq2.free 2;have d3:=hq3.cell 3;have g3:=hq3.free 3;simp at d3
 have hv':∀ x,v'≠.agg x:=by
  intro x e;rcases hown'.2 with ⟨h,_⟩|⟨g,cap,cur,h,_⟩ <;> rw[h] at e <;> simp at e
 obtain⟨a1,a2,a3,rfl⟩:∃ a1 a2 a3,v'=.slice a1 a2 a3:=by
  rcases hown'.2 with ⟨h,_⟩|⟨g,cap,cur,h,_⟩
  ·exact⟨_,_,_,h⟩
  ·exact⟨_,_,_,h⟩
 have hwr:IntKind.i64.wrap ((whole:Int)+1)=((whole+1:Nat):Int):=by rw[zY _ (by omega)];simp
 have HFA:Hid (PS B q neg less (L ++ [c]) whole power (w2.setCell ⟨q,2,none⟩ (.slice a1 a2 a3))):=zz ⟨hBq,_,hq3,hO3,hne'⟩;have HFB:Hid (PS B q neg less (L ++ [c]) (whole+1) power ((w2.setCell ⟨q,2,none⟩ (.slice a1 a2 a3)).setCell ⟨q,3,none⟩ (.int .i64 ((whole+1:Nat):Int)))):=zz ⟨hBq,_,hq3.set 3 _,hfin _,hne'⟩;have HB3:=zz hb3;have HB4:=zz (hb3.setCell (p:=⟨q,3,none⟩) hBq (.int .i64 ((whole+1:Nat):Int)));clear hown' hgrow hown hq hq2 hq3 hO2 hO3 hb2 hb3 hfin c2 f2 hv' hne' hne hcc;cases ahead
 ·go_wp2;go_end0
  exact⟨rfl,HFA.out,HB3.out⟩
 ·go_wp2;go_end0
  exact⟨rfl,HFB.out,HB4.out⟩
def PN(B q:Nat)(st:Int)(c:UInt8)(st':Int)(neg less less':Bool)(L L':List UInt8)(whole whole' power power':Nat):Prop:=
 ∀ w,PS B q neg less L whole power w->B<=w.heap.size->Calls Tryz.prog 163 #[.pointer (some ⟨q,0,none⟩),.int .i8 st,.int .u8 (c.toNat:Int)] w fun e w'=>e=.returned (.tuple #[.int .i8 st',.bool true])/\PS B q neg less' L' whole' power' w'/\Below B w w'
theorem zDl(w:World)(c:Int)(h:48<=c/\c<=57):Calls Tryz.prog 139 #[.int .u8 c] w fun e w'=>e=.returned (.bool true)/\w'=w:=by
 obtain⟨h1,h2⟩:=h;go_enter Tryz.func139,Tryz.ntmps139
 go_wp2;go_ret;exact⟨rfl,rfl⟩
theorem zHZ(w:World)(c:Int)(h:c<48 \/ 57<c)(h0:0<=c):Calls Tryz.prog 139 #[.int .u8 c] w fun e w'=>e=.returned (.bool false)/\w'=w:=by
 rcases h with h|h
 ·go_enter Tryz.func139,Tryz.ntmps139
  go_wp2;go_ret;exact⟨rfl,rfl⟩
 ·have h1:48<=c:=by omega
  have h2:¬ c<=57:=by omega
  go_enter Tryz.func139,Tryz.ntmps139
  go_wp2;go_ret;exact⟨rfl,rfl⟩
theorem zEz(B q:Nat)(neg less:Bool)(L:List UInt8)(whole power:Nat)(hL:L.length<=100)(hw:whole<=100):PN B q 0 49 3 neg less less L (L ++ [49]) whole (whole+1) power power:=by
 intro w h hBw;change Calls _ _ #[_,_,.int .u8 49] _ _;have HA:=zz (zGH B q neg less L whole power 49 true w h hBw hL hw);clear h;go_enter Tryz.func163,Tryz.ntmps163
 go_wp2_with fail
 refine HA.out.mono ?_;rintro r w1 ⟨rfl,hp,hb⟩;have HP:=zz hp;have HB:=zz hb;clear hp hb;go_wp2_with fail
 refine (zDl w1 49 (by decide)).mono ?_;rintro r w2 ⟨rfl,rfl⟩;go_wp2;exact bodyPost_ret (v:=.tuple #[.int .i8 3,.bool true]) (by simp[results,Tryz.results163,go_sem]) rfl ⟨rfl,HP.out,HB.out⟩
theorem zGw(B q:Nat)(neg less:Bool)(L:List UInt8)(whole power:Nat)(hL:L.length<=100)(hw:whole<=100):PN B q 3 53 3 neg less less L (L ++ [53]) whole (whole+1) power power:=by
 intro w h hBw;change Calls _ _ #[_,_,.int .u8 53] _ _;have HA:=zz (zGH B q neg less L whole power 53 true w h hBw hL hw);clear h;go_enter Tryz.func163,Tryz.ntmps163
 go_wp2_with fail
 refine (zDl w 53 (by decide)).mono ?_;rintro r w2 ⟨rfl,rfl⟩;go_wp2_with fail
 refine HA.out.mono ?_;rintro r w1 ⟨rfl,hp,hb⟩;have HP:=zz hp;have HB:=zz hb;clear hp hb;go_wp2;exact bodyPost_ret (v:=.tuple #[.int .i8 3,.bool true]) (by simp[results,Tryz.results163,go_sem]) rfl ⟨rfl,HP.out,HB.out⟩
theorem zGI(B q:Nat)(neg less:Bool)(L:List UInt8)(whole power:Nat):PN B q 3 46 4 neg less less L L whole whole power power:=by
 intro w h hBw;change Calls _ _ #[_,_,.int .u8 46] _ _;have HP:=zz h;have HB:=zz (zK B w);clear h;go_enter Tryz.func163,Tryz.ntmps163
 go_wp2_with fail
 refine (zHZ w 46 (by decide) (by decide)).mono ?_;rintro r w2 ⟨rfl,rfl⟩;go_wp2;exact bodyPost_ret (v:=.tuple #[.int .i8 4,.bool true]) (by simp[results,Tryz.results163,go_sem]) rfl ⟨rfl,HP.out,HB.out⟩
theorem zHn(B q:Nat)(neg less:Bool)(L:List UInt8)(whole power:Nat):PN B q 3 101 6 neg less less L L whole whole power power:=by
 intro w h hBw;change Calls _ _ #[_,_,.int .u8 101] _ _;have HP:=zz h;have HB:=zz (zK B w);clear h;go_enter Tryz.func163,Tryz.ntmps163
 go_wp2_with fail
 refine (zHZ w 101 (by decide) (by decide)).mono ?_;rintro r w2 ⟨rfl,rfl⟩;go_wp2;exact bodyPost_ret (v:=.tuple #[.int .i8 6,.bool true]) (by simp[results,Tryz.results163,go_sem]) rfl ⟨rfl,HP.out,HB.out⟩
theorem zGM(B q:Nat)(neg less:Bool)(L:List UInt8)(whole power:Nat)(hL:L.length<=100)(hw:whole<=100):PN B q 4 48 5 neg less less L (L ++ [48]) whole whole power power:=by
 intro w h hBw;change Calls _ _ #[_,_,.int .u8 48] _ _;have HA:=zz (zGH B q neg less L whole power 48 false w h hBw hL hw);clear h;go_enter Tryz.func163,Tryz.ntmps163
 go_wp2_with fail
 refine HA.out.mono ?_;rintro r w1 ⟨rfl,hp,hb⟩;have HP:=zz hp;have HB:=zz hb;clear hp hb;go_wp2_with fail
 refine (zDl w1 48 (by decide)).mono ?_;rintro r w2 ⟨rfl,rfl⟩;go_wp2;exact bodyPost_ret (v:=.tuple #[.int .i8 5,.bool true]) (by simp[results,Tryz.results163,go_sem]) rfl ⟨rfl,HP.out,HB.out⟩
theorem zGv(B q:Nat)(neg less:Bool)(L:List UInt8)(whole power:Nat):PN B q 6 45 7 neg less true L L whole whole power power:=by
 intro w h hBw;change Calls _ _ #[_,_,.int .u8 45] _ _;obtain⟨hBq,v,hq,hown,hne⟩:=h;have c1:=hq.cell 1;have f1:=hq.free 1
 have hO:Own B (w.setCell ⟨q,1,none⟩ (.bool true)) v L:=by
  obtain⟨hl,h0|⟨g,cap,cur,hv,hBg,hg,r⟩⟩:=hown
  ·exact⟨hl,.inl h0⟩
  ·refine⟨hl,.inr ⟨g,cap,cur,hv,hBg,?_,r⟩⟩;rw[Below.heap_setCell _ _ _ _ (by intro e;apply hne;rw[hv];simp at e;subst e;rfl)];exact hg
 have HP:Hid (PS B q neg true L whole power (w.setCell ⟨q,1,none⟩ (.bool true))):=zz ⟨hBq,v,hq.set 1 _,hO,hne⟩;have HB:=zz ((zK B w).setCell (p:=⟨q,1,none⟩) hBq (.bool true));clear hq hown hO hne;go_enter Tryz.func163,Tryz.ntmps163
 go_wp2;exact bodyPost_ret (v:=.tuple #[.int .i8 7,.bool true]) (by simp[results,Tryz.results163,go_sem]) rfl ⟨rfl,HP.out,HB.out⟩
theorem zIL(B q:Nat)(neg less:Bool)(L:List UInt8)(whole:Nat):PN B q 7 49 8 neg less less L L whole whole 0 1:=by
 intro w h hBw;change Calls _ _ #[_,_,.int .u8 49] _ _;obtain⟨hBq,v,hq,hown,hne⟩:=h;have c4:w.cell? ⟨q,4,none⟩=some (.int .i64 0):=hq.cell 4;have f4:=hq.free 4
 have hO:Own B (w.setCell ⟨q,4,none⟩ (.int .i64 1)) v L:=by
  obtain⟨hl,h0|⟨g,cap,cur,hv,hBg,hg,r⟩⟩:=hown
  ·exact⟨hl,.inl h0⟩
  ·refine⟨hl,.inr ⟨g,cap,cur,hv,hBg,?_,r⟩⟩;rw[Below.heap_setCell _ _ _ _ (by intro e;apply hne;rw[hv];simp at e;subst e;rfl)];exact hg
 have HP:Hid (PS B q neg less L whole 1 (w.setCell ⟨q,4,none⟩ (.int .i64 1))):=zz ⟨hBq,v,hq.set 4 _,hO,hne⟩;have HB:=zz ((zK B w).setCell (p:=⟨q,4,none⟩) hBq (.int .i64 1));clear hq hown hO hne;go_enter Tryz.func163,Tryz.ntmps163
 go_wp2_with fail
 refine (zDl _ 49 (by decide)).mono ?_;rintro r w2 ⟨rfl,rfl⟩;go_wp2;exact bodyPost_ret (v:=.tuple #[.int .i8 8,.bool true]) (by simp[results,Tryz.results163,go_sem]) rfl ⟨rfl,HP.out,HB.out⟩
end Go.Proofs.YtcanfakaigpkgaaGreatDoor.D
namespace Go.Proofs.YtcanfakaigpkgaaGreatDoor.D
open Go Go.RowKit Limb
def Put(L t L':List UInt8):Prop:=(L'=L ++ t \/ 1048576<L'.length)/\L.length<=L'.length
theorem Put.refl(L:List UInt8):Put L [] L:=⟨.inl (List.append_nil _).symm,zQ _⟩
theorem Put.trans{L t u L1 L2:List UInt8}(h:Put L t L1)(k:Put L1 u L2):Put L (t ++ u) L2:=by
 refine⟨?_,zJ h.2 k.2⟩;rcases k.1 with k1|k1
 ·rcases h.1 with h1|h1
  ·left;rw[k1,h1,List.append_assoc]
  ·right;exact Nat.lt_of_lt_of_le h1 k.2
 ·exact .inr k1
def Wq(B p:Nat)(L:List UInt8)(w:World):Prop:=Wr B p 1048576 L w/\L.length<=137438953472
theorem zK1(B p:Nat)(L:List UInt8)(w:World)(h:Wq B p L w)(k n cap:Nat)(ss:Nat->List UInt8)(c:Array Value)(fr:Nat × Nat)(hk:w.heap[k]?=some (.cells c 9 fr))(hkp:k≠p)(hc:∀ i,i<n->c[i]?=some (.string (zAc (ss i))))(hn:n<=1000)(hlen:∀ i,i<n->(ss i).length<=68719476736)(hB:B<=w.heap.size):
  Calls Tryz.prog 39 #[.pointer (some ⟨p,0,none⟩),.slice (some ⟨k,0,none⟩) n cap] w fun e w'=>e=.returned (.tuple #[])/\(∃ L',Put L (zCZ ss n) L'/\Wq B p L' w')/\Wk B p w w':=by
 have HW:=zz h;have HC:=zz hc;have HK:=zz hk;have HL:=zz hlen;clear h hc hk hlen;go_enter Tryz.func39,Tryz.ntmps39
 go_wp2;go_loopw [5,8] (fun _ i wr=>∃ (j:Nat) (T:List UInt8),j<=n/\i=.int .i64 j/\Hid (Put L (zCZ ss j) T)/\Hid (Wq B p T wr)/\Hid (Wk B p w wr)) (fun _ i _=>n - (intOf i).toNat)
 case atStart=>exact⟨0,L,by omega,rfl,zz (Put.refl L),HW,zz (Wk.refl _ _ _)⟩
 case round=>
  obtain⟨j,T,hj,rfl,HP,HWr,HF⟩:=hrel;clear HW;by_cases h1:j<n
  ·have g1:(j:Int)<(n:Int):=by omega
   have hcell:wr.cell? ⟨k,j,none⟩=some (.string (zAc (ss j))):=by
    have e:=HF.out.2.2 k (Array.getElem?_eq_some_iff.1 HK.out).1 hkp (fun c' fr' he=>by rw[HK.out] at he;simp at he);rw[HK.out] at e;rw[Lib.cell_of_heap e];exact HC.out j h1
   have c2:=HWr.out.1.at2;have HQ:Hid (∀ w',Wr B p 1048576 T w'->Calls Tryz.prog 14 #[.pointer (some ⟨p,0,none⟩)] w' fun e w''=>e=.returned (.int .i64 T.length)/\w''=w'):=zz (fun w' h=>zDf B p _ w' h);have HE:Hid (zCZ ss (j+1)=zCZ ss j ++ ss j):=zz rfl;have hsj:=HL.out j h1;by_cases h2:T.length<=1048576
   ·have g2:(T.length:Int)<=1048576:=by omega
    have h47:T.length+(ss j).length<=140737488355328:=by omega
    have HT2:=zz h2;have HS2:=zz hsj;clear h2 hsj;go_upto_region 3 with fail
    go_quiet ((go_at_call 14;exact Calls.quiet_of_same (HQ.out _ (HWr.out.1.drewN _))))
    have HWq:=zz (HWr.out.1.drewN nq);have HFq:=zz (HF.out.drewN nq);clear HWr HF c2 hcell;generalize wr.drewN nq=w1 at HWq HFq ⊢;go_wp2_with fail
    refine (zAY (zP3 1048576) B p T (ss j) w1 HWq.out h47 (by have:=HFq.out.1.size;omega)).mono ?_;rintro e w2 ⟨rfl,hb2,hk2⟩;have HW2:Hid (Wq B p (T ++ ss j) w2):=zz ⟨.inr hb2,by rw[List.length_append];have:=HT2.out;have:=HS2.out;omega⟩;have HP2:Hid (Put L (zCZ ss (j+1)) (T ++ ss j)):=zz (by rw[HE.out];exact HP.out.trans ⟨.inl rfl,by rw[List.length_append];omega⟩);have HF2:=zz (HFq.out.trans hk2);clear hb2 hk2 HWq HFq;go_wp2;go_roundw
    case rel=>exact⟨j+1,_,by omega,by simp,HP2,HW2,HF2⟩
    case measure=>simp[intOf];omega
   ·have g2:¬ (T.length:Int)<=1048576:=by omega
    have HP2:Hid (Put L (zCZ ss (j+1)) T):=zz ⟨.inr (by omega),HP.out.2⟩;clear h2 hsj;go_upto_region 3 with fail
    go_quiet ((go_at_call 14;exact Calls.quiet_of_same (HQ.out _ (HWr.out.1.drewN _))))
    have HWq:Hid (Wq B p T (wr.drewN nq)):=zz ⟨HWr.out.1.drewN nq,HWr.out.2⟩;have HFq:=zz (HF.out.drewN nq);clear HWr HF c2 hcell;generalize wr.drewN nq=w1 at HWq HFq ⊢;go_wp2;go_roundw
    case rel=>exact⟨j+1,_,by omega,by simp,HP2,HWq,HFq⟩
    case measure=>simp[intOf];omega
  ·obtain rfl:j=n:=by omega
   have g1:¬ (j:Int)<(j:Int):=by omega
   go_wp2;go_end0
   exact⟨rfl,⟨T,HP.out,HWr.out⟩,HF.out⟩
theorem Wq.below{B p:Nat}{L:List UInt8}{w w':World}(h:Wq B p L w)(hb:Below w.heap.size w w'):Wq B p L w':=⟨BIs.below h.1 hb,h.2⟩
theorem Wk.alloc2{B p:Nat}{w:World}(hB:B<=w.heap.size)(o:Obj):Wk B p w (w.alloc o):=Wk.of_below ((zK _ _).alloc (zQ _) _) hB
theorem Wq.lt{B p:Nat}{L:List UInt8}{w:World}(h:Wq B p L w):p<w.heap.size:=by
 obtain⟨q,hb⟩:=h.1.at_;exact hb.lt
def zCQ(fn:FuncId)(args:Array Value)(B p:Nat)(L t:List UInt8)(w:World):Prop:=
 Calls Tryz.prog fn args w fun e w'=>e=.returned (.tuple #[])/\(∃ L',Put L t L'/\Wq B p L' w')/\Wk B p w w'
theorem zJz(B p:Nat)(L s:List UInt8)(w:World)(h:Wq B p L w)(hl:s.length<=68719476736)(hB:B<=w.heap.size):
  Calls Tryz.prog 39 #[.pointer (some ⟨p,0,none⟩),.slice (some ⟨w.heap.size,0,none⟩) 1 1] (w.alloc (.cells #[.string (zAc s)] 9)) fun e w'=>e=.returned (.tuple #[])/\(∃ L',Put L s L'/\Wq B p L' w')/\Wk B p w w':=by
 have hc:zCZ (fun _=>s) 1=s:=rfl
 refine (zK1 B p L _ (h.below ((zK _ _).alloc (zQ _) _)) w.heap.size 1 1 (fun _=>s) _ _ (Blk.new w #[.string (zAc s)] 9) (by have:=h.lt;omega) (fun i hi=>by
  have h0:i=0:=by omega
  subst h0;rfl) (by omega) (fun _ _=>hl) (by simp;omega)).mono ?_
 rintro e w' ⟨rfl,h1,h2⟩;rw[hc] at h1;exact⟨rfl,h1,(Wk.alloc2 hB _).trans h2⟩
theorem zP9(B p:Nat)(L s0 s1 s2:List UInt8)(w:World)(h:Wq B p L w)(h0:s0.length<=68719476736)(h1:s1.length<=68719476736)(h2:s2.length<=68719476736)(hB:B<=w.heap.size):
  Calls Tryz.prog 39 #[.pointer (some ⟨p,0,none⟩),.slice (some ⟨w.heap.size,0,none⟩) 3 3] (w.alloc (.cells #[.string (zAc s0),.string (zAc s1),.string (zAc s2)] 9)) fun e w'=>e=.returned (.tuple #[])/\(∃ L',Put L (s0 ++ s1 ++ s2) L'/\Wq B p L' w')/\Wk B p w w':=by
 have hc:zCZ (fun i=>if i=0 then s0 else if i=1 then s1 else s2) 3=s0 ++ s1 ++ s2:=rfl
 refine (zK1 B p L _ (h.below ((zK _ _).alloc (zQ _) _)) w.heap.size 3 3 (fun i=>if i=0 then s0 else if i=1 then s1 else s2) _ _ (Blk.new w #[.string (zAc s0),.string (zAc s1),.string (zAc s2)] 9) (by have:=h.lt;omega) (fun i hi=>by
  match i,hi with
  | 0,_=>rfl
  | 1,_=>rfl
  | 2,_=>rfl) (by omega) (fun i _=>by split;exact h0;split;exact h1;exact h2) (by simp;omega)).mono ?_
 rintro e w' ⟨rfl,h3,h4⟩;rw[hc] at h3;exact⟨rfl,h3,(Wk.alloc2 hB _).trans h4⟩
end Go.Proofs.YtcanfakaigpkgaaGreatDoor.D
