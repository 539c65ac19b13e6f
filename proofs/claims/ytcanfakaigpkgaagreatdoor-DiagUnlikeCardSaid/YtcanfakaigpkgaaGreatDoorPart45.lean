/-
  Of the proof that the law DiagUnlike answers true at every two values: a part, without conditions of its own.
-/
import Derived.Test.YtcanfakaigpkgaaGreatDoorPart44
import Derived.Test.YtcanfakaigpkgaaGreatDoorTie
import Derived.LaidHandle
import Derived.Lib.LaidTab
import Derived.Stop.LaidTwo
import Derived.Test.YtcanfakaigpkgaaGreatDoorCards
import Derived.Lay
import Derived.ReadAgain
import Derived.SizedLaws
import Derived.Deep.DeepHandedRow
set_option linter.unusedVariables false
set_option linter.unusedSimpArgs false
set_option maxRecDepth 100000
set_option maxHeartbeats 8000000
namespace Go.Proofs.YtcanfakaigpkgaaGreatDoor.D
open Go Go.RowKit Go.ChangeShapes Go.WideShapes Go.ChangeAt Limb
abbrev zEI:List (String × DataW Unit):=Rows.diagUnlikeRow.laid
def onL(n:String):List (String × DataW Unit):=(zEI.filter fun x=>x.2.handleName?.isNone).filter fun x=>x.1 == n
def zPB:List Int:=[0,1,28,2,29,14,24,3,30,22,20,15,25,17,4,8,31,27,13,23,21,19,16,7,26,12,18,6,11,5,10,9]
def zOR:List Int:=[0,1,56,2,57,49,28,3,61,58,42,50,38,29,17,4,62,47,59,36,45,43,51,22,53,39,33,30,24,18,12,5,63,55,48,27,60,41,37,16,46,35,44,21,52,32,23,11,54,26,40,15,34,20,31,10,25,14,19,9,13,8,7,6]
theorem zQG:onL "math/bits.deBruijn32tab" = [("math/bits.deBruijn32tab",Lib.tabData .u8 zPB)]:=by kernel_rfl
theorem zQF:onL "math/bits.deBruijn64tab" = [("math/bits.deBruijn64tab",Lib.tabData .u8 zOR)]:=by kernel_rfl
theorem g32:Tryz.prog.globalNamed "math/bits.deBruijn32tab" = some 21:=by kernel_rfl
theorem g64:Tryz.prog.globalNamed "math/bits.deBruijn64tab" = some 17:=by kernel_rfl
theorem gS:Tryz.prog.globalNamed "crucible/ieee.shapes" = some 13:=by kernel_rfl
theorem gT:Tryz.prog.globalNamed "errors.errorType" = some 12:=by kernel_rfl
theorem gH:Tryz.prog.globalNamed "crucible/escape.shorts" = some 11:=by kernel_rfl
theorem tyP:(Tryz.prog.globals[14]?).map (·.type)=some 287:=by kernel_rfl
theorem tyH:(Tryz.prog.globals[11]?).map (·.type)=some 137:=by kernel_rfl
theorem zPw:Tryz.prog.cellsOf 287=20:=by kernel_rfl
theorem zPK:Tryz.prog.cellsOf 136=2:=by kernel_rfl
theorem zQI:(Tryz.prog.globals[21]?).map (·.type)=some 329:=by kernel_rfl
theorem zQH:(Tryz.prog.globals[17]?).map (·.type)=some 324:=by kernel_rfl
theorem tyS:(Tryz.prog.globals[13]?).map (·.type)=some 215:=by kernel_rfl
theorem onS:onL "crucible/ieee.shapes" = [("crucible/ieee.shapes",Rows.laid_crucible_ieee_shapes)]:=by kernel_rfl
theorem zPd:Tryz.prog.cellsOf 144=3:=by kernel_rfl
theorem onP:onL "internal/strconv.uint64pow10" = [("internal/strconv.uint64pow10",Lib.tabData .u64 Lib.pow10Tab)]:=by kernel_rfl
theorem onH:onL "crucible/escape.shorts" = [("crucible/escape.shorts",Rows.laid_crucible_escape_shorts)]:=by kernel_rfl
theorem zPJ:Tryz.prog.cellsOf 3=1:=by kernel_rfl
theorem zKS:Tryz.prog.cellsOf 5=1:=by kernel_rfl
theorem zOO:Tryz.prog.cellsOf 329=32:=by kernel_rfl
theorem zOb:Tryz.prog.cellsOf 324=64:=by kernel_rfl
theorem zF1{W:World}{n:Nat}{t:TypeId}{k:IntKind}{cs:List Value}{off:Nat}{z:Int}{y:DataW Unit × List MemPlace}(ht:Tryz.prog.underlying t=some (.int k))
  (h:DataW.trod (fun _=>()) Tryz.prog W 0 (fun _=>true) false n t ((cs.drop off).take 1)=some y) (hy:y.1=.lit (.int k z)):cs[off]?=some (.int k z):=by
 obtain⟨z',hc,hx,_⟩:=DataW.trod_int ht h;subst hx;simp only[DataW.lit.injEq,Lit.int.injEq,true_and] at hy;subst hy;have:=congrArg (·[0]?) hc
 simpa[List.getElem?_take,List.getElem?_drop] using this
theorem zJX{W:World}(h:laidMet Tryz.prog [("crucible/ieee.shapes",Rows.laid_crucible_ieee_shapes)] W):
  W.cell? ⟨13,6,none⟩=some (.int .i64 52)/\W.cell? ⟨13,7,none⟩=some (.int .i64 (-1074))/\W.cell? ⟨13,8,none⟩=some (.int .i64 11):=by
 obtain⟨ps,⟨g,t,cs,fuel,p,q,hg,ht,hvar,hd,_,_⟩,_⟩:=h;obtain rfl:=Option.some.inj (gS.symm.trans hg);obtain rfl:=Option.some.inj (tyS.symm.trans ht);obtain⟨xs,m,_,hx,hl,hlen,hel⟩:=DataW.trod_array Tryz.underlying215 hd;have h2:=hel 2 (by decide);simp only[zPd] at h2;have hx1:=congrArg Prod.fst hx;simp only[Rows.laid_crucible_ieee_shapes,DataW.agg.injEq] at hx1
 cases hx2:xs[2]? with
 | none=>rw[List.getElem?_eq_none_iff] at hx2;omega
 | some x2=>
  rw[hx2] at h2;have hd2:(xs.map (·.1))[2]?=some x2.1:=by simp[hx2]
  rw[<-hx1] at hd2;simp only[zx,zk,Option.some.injEq] at hd2;obtain⟨y0,y1,y2,n,hy,_,e0,e1,e2⟩:=Deep.trod_struct3 Tryz.underlying144 h2;have hy1:=congrArg Prod.fst hy;rw[<-hd2] at hy1;simp only[DataW.agg.injEq,List.cons.injEq,and_true] at hy1;obtain⟨i0,i1,i2⟩:=hy1;simp only[zPJ,List.drop_zero] at e0 e1 e2;have c0:=zF1 (off:=0) Tryz.underlying3 e0 i0.symm;have c1:=zF1 (off:=1) Tryz.underlying3 e1 i1.symm;have c2:=zF1 (off:=2) Tryz.underlying3 e2 i2.symm;rw[List.getElem?_take,List.getElem?_drop] at c0 c1 c2;refine⟨?_,?_,?_⟩
  ·have:=World.var?_cell gS hvar 6;rw[this];simpa using c0
  ·have:=World.var?_cell gS hvar 7;rw[this];simpa using c1
  ·have:=World.var?_cell gS hvar 8;rw[this];simpa using c2
theorem zK9{W:World}(h:laidMet Tryz.prog [("crucible/escape.shorts",Rows.laid_crucible_escape_shorts)] W):
  ∀ j,j<8->W.cell? ⟨11,j*2,none⟩=some (.int .u8 ((zIz j).toNat:Int))/\W.cell? ⟨11,j*2+1,none⟩=some (.int .u8 ((zC2 j).toNat:Int)):=by
 obtain⟨ps,⟨g,t,cs,fuel,p,q,hg,ht,hvar,hd,_,_⟩,_⟩:=h;obtain rfl:=Option.some.inj (gH.symm.trans hg);obtain rfl:=Option.some.inj (tyH.symm.trans ht);obtain⟨xs,m,_,hx,hl,hlen,hel⟩:=DataW.trod_array Tryz.underlying137 hd;have hx1:=congrArg Prod.fst hx;simp only[Rows.laid_crucible_escape_shorts,DataW.agg.injEq] at hx1
 have key:∀ (j:Nat) (a b:Int),j<8->(xs.map (·.1))[j]?=some (.agg [.lit (.int .u8 a),.lit (.int .u8 b)]) ->
   W.cell? ⟨11,j*2,none⟩=some (.int .u8 a)/\W.cell? ⟨11,j*2+1,none⟩=some (.int .u8 b):=by
  intro j a b hj hd2;have h2:=hel j hj;simp only[zPK] at h2;rw[List.getElem?_map] at hd2
  cases hx2:xs[j]? with
  | none=>rw[hx2] at hd2;cases hd2
  | some x2=>
   rw[hx2] at h2 hd2;simp only[Option.map_some,Option.some.injEq] at hd2;obtain⟨y0,y1,n,hy,_,e0,e1⟩:=trod_struct2 Tryz.underlying136 h2;have hy1:=congrArg Prod.fst hy;rw[hd2] at hy1;simp only[DataW.agg.injEq,List.cons.injEq,and_true] at hy1;obtain⟨i0,i1⟩:=hy1;simp only[zKS,List.drop_zero] at e0 e1;have c0:=zF1 (off:=0) Tryz.underlying5 e0 i0.symm;have c1:=zF1 (off:=1) Tryz.underlying5 e1 i1.symm;rw[List.getElem?_take,List.getElem?_drop] at c0 c1;refine⟨?_,?_⟩
   ·have:=World.var?_cell gH hvar (j*2);rw[this];simpa using c0
   ·have:=World.var?_cell gH hvar (j*2+1);rw[this];simpa using c1
 rw[<-hx1] at key;intro j hj
 match j,hj with
 | 0,_=>exact key 0 _ _ (by decide) rfl
 | 1,_=>exact key 1 _ _ (by decide) rfl
 | 2,_=>exact key 2 _ _ (by decide) rfl
 | 3,_=>exact key 3 _ _ (by decide) rfl
 | 4,_=>exact key 4 _ _ (by decide) rfl
 | 5,_=>exact key 5 _ _ (by decide) rfl
 | 6,_=>exact key 6 _ _ (by decide) rfl
 | 7,_=>exact key 7 _ _ (by decide) rfl
theorem zMu:∀ i,i<64->zOR.getD i 0=((Lib.deBruijn64tab.getD i 0:Nat):Int):=by decide
theorem zQJ:((List.range Tryz.prog.types.size).filter fun t=>Tryz.prog.rowNamed t [101,114,114,111,114])=[35]:=by kernel_rfl
theorem rtT:(Tryz.prog.cutTypes.find? (·.1 == "internal/reflectlite.rtype")).map (·.2)=some 246:=by kernel_rfl
theorem zQL:("errors.errorType",(Rows.laid_errors_errorType:DataW Unit)) ∈ zEI.filter fun x=>x.2.handleName?.isSome:=by
 have h:(zEI.filter fun x=>x.2.handleName?.isSome)=[("errors.errorType",Rows.laid_errors_errorType)]:=by kernel_rfl
 rw[h];exact List.mem_singleton.2 rfl
theorem zNG{W:World}(h:handlesMet Tryz.prog (zEI.filter fun x=>x.2.handleName?.isSome) W):
  W.cell? ⟨12,0,none⟩=some (.iface 246 (.agg #[.pointer (some ⟨22,35,none⟩)])):=by
 obtain⟨name,u,ty,e1,e2,e3,e4,e5⟩:=h _ zQL;have en:name=[101,114,114,111,114]:=(Option.some.inj e1).symm;subst en;obtain rfl:=Option.some.inj (rtT.symm.trans e2);have hm:ty ∈ (List.range Tryz.prog.types.size).filter fun t=>Tryz.prog.rowNamed t [101,114,114,111,114]:=List.mem_filter.2 ⟨List.mem_range.2 e3,e4⟩
 rw[zQJ] at hm;obtain rfl:=List.mem_singleton.1 hm;have hh:typeHandle Tryz.prog 35=.pointer (some ⟨22,35,none⟩):=by kernel_rfl
 rw[hh] at e5
 simpa using World.var?_cell gT e5 0
theorem zIh{P:Program}{W:World}{ti tp te ts:TypeId}{ms:Array (String × TypeId)}{f:Field}{nm:String}
  (hi:P.underlying ti=some (.interface ms)) (hrow:∀ u,P.typeName? 3 u=some nm->u=tp)
  (hp:P.underlying tp=some (.pointer te)) (he:P.underlying te=some (.struct #[f])) (hft:f.type=ts) (hfo:f.offset=0) (hs:P.underlying ts=some .string) (hc:P.cellsOf te=1) (hcs:P.cellsOf ts=1) :
  ∀ (l:List (String × Nat × List UInt8)) (ps:List MemPlace),(∀ x ∈ l,P.globalNamed x.1=some x.2.1/\(P.globals[x.2.1]?).map (·.type)=some ti) ->
   DataW.LaidVars P W (l.map fun x=>(x.1,.iface nm (.ptr (.agg [.lit (.string x.2.2)])))) ps->ps.Nodup ->
   (∀ b off,MemPlace.cell b off ∈ ps->(∃ c t,W.heap[b]?=some (.cells c t (0,0)))/\∀ u v,W.cell? ⟨b,off,none⟩=some (.iface u v)->Value.okWide P W .any 0 u v) ->
   ∃ es:List Addr,es.length=l.length/\(∀ (i:Nat) (x:String × Nat × List UInt8) (a:Addr),l[i]?=some x->es[i]?=some a->W.cell? ⟨x.2.1,0,none⟩=some (.iface tp (.pointer (some a))))/\es.Nodup /\
    ∀ a ∈ es,MemPlace.cell a.block a.off ∈ ps/\a.spot=none
 | [],ps,_,_,_,_=>⟨[],rfl,fun i x a h _=>by simp at h,List.nodup_nil,fun a h=>by cases h⟩
 | x :: l,ps,hl,hv,hnd,hrows=>by
  obtain⟨g,t,cs,fuel,p,q,hg,ht,hvar,hd,hq,rfl⟩:=hv;obtain⟨k1,k2⟩:=hl x (List.mem_cons_self ..);obtain rfl:=Option.some.inj (k1.symm.trans hg);obtain rfl:=Option.some.inj (k2.symm.trans ht);obtain⟨l0⟩:=cs
  have ok0:∀ u v,l0=[.iface u v]->Value.okWide P W .any 0 u v:=fun u v e=>by
   subst e;exact (hrows x.2.1 0 (by simp[MemPlace.row])).2 u v (by simpa using World.var?_cell hg hvar 0)
  obtain⟨a0,s0,rfl,hc0,hs0,hz0,rfl⟩:=errorString_of_trod hi hrow hp he hft hfo hs hc hcs hd ok0;obtain⟨es,e1,e2,e3,e4⟩:=zIh hi hrow hp he hft hfo hs hc hcs l q (fun y hy=>hl y (List.mem_cons_of_mem _ hy)) hq (List.Nodup.sublist (List.sublist_append_right _ _) hnd) (fun b off hm=>hrows b off (List.mem_append_right _ hm));have hsp:a0.spot=none:=World.cell?_spot hc0;refine⟨a0 :: es,by simp[e1],?_,List.nodup_cons.2 ⟨fun hm=>?_,e3⟩,?_⟩
  ·intro i y a hy ha
   cases i with
   | zero=>
    simp only[zk,Option.some.injEq] at hy ha;subst hy ha
    simpa using World.var?_cell hg hvar 0
   | succ i=>exact e2 i y a (by simpa using hy) (by simpa using ha)
  ·have h1:=(e4 a0 hm).1;have h2:=(List.nodup_append.1 hnd).2.2 (.cell a0.block a0.off) (by simp[MemPlace.row]) _ h1;exact h2 rfl
  ·intro a ha;rcases List.mem_cons.1 ha with rfl|ha
   ·exact⟨by simp[MemPlace.row],hsp⟩
   ·exact⟨List.mem_append_right _ (e4 a ha).1,(e4 a ha).2⟩
def zOs:List (String × Nat × List UInt8):=[("crucible/api.ErrArg",1,[97,110,32,97,114,103,117,109,101,110,116,32,116,104,97,116,32,109,97,121,32,110,111,116,32,98,101]),("crucible/api.ErrNil",2,[97,110,32,111,98,106,101,99,116,32,116,104,97,116,32,105,115,32,110,111,116,32,116,104,101,114,101]),("crucible/api.ErrInput",3,[110,111,32,100,111,99,117,109,101,110,116,32,111,102,32,105,116,115,32,102,111,114,109,97,116]),("crucible/api.ErrRep",4,[97,32,118,97,108,117,101,32,116,104,97,116,32,116,104,101,32,102,111,114,109,97,116,32,104,97,115,32,110,111,116]),("crucible/api.ErrLimit",0,[97,32,108,105,109,105,116]),("crucible/api.ErrNone",5,[110,111,32,115,117,99,104,32,116,104,105,110,103]),("crucible/api.ErrBusy",6,[116,111,111,32,109,97,110,121,32,115,101,115,115,105,111,110,115]),("crucible/api.ErrHandle",7,[110,111,32,115,117,99,104,32,115,101,115,115,105,111,110]),("crucible/api.ErrKey",8,[97,110,111,116,104,101,114,32,107,101,121]),("crucible/api.ErrStopped",9,[115,116,111,112,112,101,100]),("crucible/api.ErrScript",10,[110,111,32,115,99,114,105,112,116])]
theorem onE:((zEI.filter fun x=>x.2.handleName?.isNone).filter fun x=>(zOs.map (·.1)).contains x.1)=zOs.map fun x=>(x.1,.iface "*errors.errorString" (.ptr (.agg [.lit (.string x.2.2)]))):=by kernel_rfl
theorem zQD:∀ x ∈ zOs,Tryz.prog.globalNamed x.1=some x.2.1/\(Tryz.prog.globals[x.2.1]?).map (·.type)=some 35:=by
 have h:(zOs.all fun x=>(Tryz.prog.globalNamed x.1 == some x.2.1) && ((Tryz.prog.globals[x.2.1]?).map (·.type) == some 35))=true:=by kernel_rfl
 intro x hx;have:=List.all_eq_true.1 h x hx;simp only[Bool.and_eq_true,beq_iff_eq] at this;exact this
theorem zPL : "*" ++ "errors.errorString" = "*errors.errorString" := by decide
theorem zQC(u:TypeId)(h:Tryz.prog.typeName? 3 u=some "*errors.errorString"):u=339:=
 typeName_ptr_named (nm := "errors.errorString") (by rw[zPL];kernel_rfl) (by kernel_rfl) (by decide) u (by rw[zPL];exact h)
theorem zPo:Tryz.prog.cellsOf 357=1:=by kernel_rfl
theorem zMj:Tryz.prog.cellsOf 9=1:=by kernel_rfl
theorem zOz{W:World}(h:laidMetH Tryz.prog zEI W)(hs:21<W.heap.size):GQ W/\zNm W/\∃ e,zCB e W:=by
 obtain⟨h1,h2⟩:=laidMetH_iff.1 h
 have t32:laidMet Tryz.prog [("math/bits.deBruijn32tab",Lib.tabData .u8 zPB)] W:=by
  have:=h1.filter (fun x=>x.1 == "math/bits.deBruijn32tab");rw[<-zQG];exact this
 have t64:laidMet Tryz.prog [("math/bits.deBruijn64tab",Lib.tabData .u8 zOR)] W:=by
  have:=h1.filter (fun x=>x.1 == "math/bits.deBruijn64tab");rw[<-zQF];exact this
 have tS:laidMet Tryz.prog [("crucible/ieee.shapes",Rows.laid_crucible_ieee_shapes)] W:=by
  have:=h1.filter (fun x=>x.1 == "crucible/ieee.shapes");rw[<-onS];exact this
 have tP:laidMet Tryz.prog [("internal/strconv.uint64pow10",Lib.tabData .u64 Lib.pow10Tab)] W:=by
  have:=h1.filter (fun x=>x.1 == "internal/strconv.uint64pow10");rw[<-onP];exact this
 have tH:laidMet Tryz.prog [("crucible/escape.shorts",Rows.laid_crucible_escape_shorts)] W:=by
  have:=h1.filter (fun x=>x.1 == "crucible/escape.shorts");rw[<-onH];exact this
 have tE:=h1.filter (fun x=>(zOs.map (·.1)).contains x.1);rw[onE] at tE;have i32:=Lib.tabIs_of_head g32 zQI Tryz.underlying329 Tryz.underlying5 zKS zOO t32;have i64:=Lib.tabIs_of_head g64 zQH Tryz.underlying324 Tryz.underlying5 zKS zOb t64;have iP:=Lib.tabIs_of_head gP tyP Tryz.underlying287 Tryz.underlying24 zBL zPw tP;have c32:=i32.cell g32 1 (by decide);have c22:=i64.cell g64 22 (by decide);have c44:=i64.cell g64 44 (by decide);obtain⟨c6,c7,c8⟩:=zJX tS;refine⟨⟨⟨⟨⟨⟨hs,c6,c7,c8⟩,⟨hs,c22,c44⟩,c32⟩,fun i hi=>?_⟩,iP⟩,zK9 tH⟩,?_⟩
 ·rw[i64.cell g64 i hi,zMu i hi]
 obtain⟨ps,hv,hnd,hrows⟩:=tE;obtain⟨es,e1,e2,e3,e4⟩:=zIh Tryz.underlying35 zQC Tryz.underlying339 Tryz.underlying357 rfl rfl Tryz.underlying9 zPo zMj zOs ps zQD hv hnd hrows;have hlen:es.length=11:=e1
 have hget:∀ i,i<11->es[i]?=some (es.getD i ⟨0,0,none⟩):=fun i hi=>by
  rw[zw,zZ (by omega)];rfl
 have key:∀ i x,i<11->zOs[i]?=some x->W.cell? ⟨x.2.1,0,none⟩=some (ev (fun i=>es.getD i ⟨0,0,none⟩) i):=fun i x hi hx=>e2 i x _ hx (hget i hi)
 refine⟨⟨⟨_,_,key 0 _ (by decide) rfl⟩,⟨_,_,key 4 _ (by decide) rfl⟩⟩,fun i=>es.getD i ⟨0,0,none⟩,key 0 _ (by decide) rfl,key 1 _ (by decide) rfl,key 2 _ (by decide) rfl,key 3 _ (by decide) rfl,key 4 _ (by decide) rfl,key 5 _ (by decide) rfl,key 6 _ (by decide) rfl,key 7 _ (by decide) rfl,key 8 _ (by decide) rfl,key 9 _ (by decide) rfl,key 10 _ (by decide) rfl,?_,?_,zNG h2⟩
 ·intro i j hi hj hne heq;have hi':i<es.length:=by omega
  have hj':j<es.length:=by omega
  have a1:=hget i hi;have a2:=hget j hj;have heq':es.getD i ⟨0,0,none⟩=es.getD j ⟨0,0,none⟩:=heq;rw[heq',<-a2,zZ hi',zZ hj',Option.some.injEq] at a1;have hp:=List.pairwise_iff_getElem.1 e3;rcases Nat.lt_trichotomy i j with h|h|h
  ·exact hp i j hi' hj' h a1
  ·exact hne h
  ·exact hp j i hj' hi' h a1.symm
 ·intro i hi;have hm:es.getD i ⟨0,0,none⟩ ∈ es:=List.mem_of_getElem? (hget i hi);exact (hrows _ _ (e4 _ hm).1).1
end Go.Proofs.YtcanfakaigpkgaaGreatDoor.D
namespace Go.Proofs.YtcanfakaigpkgaaGreatDoor.D
open Go Go.RowKit Limb
theorem zOc(c:Array Value)(hc:c.size=16)(a b:Array Value)(ha:a.size=8)(hb:b.size=8):
  Instr.fill (fun i=>some (i*8,8)) c [(0,.agg a),(1,.agg b)]=some (a ++ b):=by
 obtain⟨c⟩:=c;obtain⟨a⟩:=a;obtain⟨b⟩:=b
 match c,hc,a,ha,b,hb with
 | [_,_,_,_,_,_,_,_,_,_,_,_,_,_,_,_],_,[_,_,_,_,_,_,_,_],_,[_,_,_,_,_,_,_,_],_=>simp[Instr.fill,Value.cells]
theorem zLW(i0:TypeInfo)(z:Value)(h8:i0.size=8)(a b:Array Value)(ha:a.size=8)(hb:b.size=8):
  Instr.fill (fun i=>some (i*i0.size,i0.size)) ((Array.range (2*i0.size)).map (z.cells[· % z.cells.size]!)) [(0,.agg a),(1,.agg b)]=some (a ++ b):=by
 rw[h8];exact zOc _ (by simp) a b ha hb
theorem zOp(w:World)(N b:Nat)(c1 c2:Array Value)(f g:VT)(h:Blk w b (c1 ++ c2) 31)(h1:c1.size=8)(h2:c2.size=8)(hf:zAl w N f (.agg c1)/\f.wide)(hg:zAl w N g (.agg c2)/\g.wide):
  LvR w N (some ⟨b,0,none⟩) 2 (fun i=>if i=0 then c1 else c2) (fun i=>if i=0 then f else g):=by
 refine⟨fun _=>⟨b,0,rfl,h.lt,fun i hi=>?_⟩,fun i hi=>?_⟩
 ·rcases (by omega:i=0 \/ i=1) with rfl|rfl
  ·refine⟨by simpa using h1,fun j hj=>?_⟩;rw[h.cell];simp only[if_true,Nat.zero_mul,Nat.zero_add];rw[Array.getElem?_append_left (by omega)]
  ·refine⟨by simpa using h2,fun j hj=>?_⟩;rw[h.cell,Array.getElem?_append_right (by omega)];show c2[_]?=c2[j]?;congr 1;omega
 ·rcases (by omega:i=0 \/ i=1) with rfl|rfl
  ·simpa using hf
  ·simpa using hg
theorem zG4(w:World)(hG:GQ w)(hE:zNm w)(f g:VT)(v u:Value)(hT:zAl w w.heap.size f v)(hU:zAl w w.heap.size g u)(hf:f.wide)(hg:g.wide)
  (hL:∀ w',Below w.heap.size w w'->Calls Tryz.prog 4 #[] w' fun r w''=>r=.returned (.bool true)/\Below w'.heap.size w' w'') :
  Calls Tryz.prog 3 #[v,u] w fun r w'=>r=.returned (.bool true)/\Below w.heap.size w w':=by
 obtain⟨a,kind,mb,mn,mc,kb,kn,kc,rfl⟩:=hT.cells;obtain⟨a2,kind2,mb2,mn2,mc2,kb2,kn2,kc2,rfl⟩:=hU.cells;obtain⟨i0,hi0,hz0,hs0,hb0⟩:=zEd;have HT:=zz hT;have HU:=zz hU;have HW:=zz (And.intro hf hg);have HG:=zz hG;have HE:=zz hE;have HI0:=zz (And.intro hi0 (And.intro hz0 hs0));obtain⟨w2,hw2⟩:∃ w2,w2=(w.alloc (.cells (zAh a kind (.slice mb mn mc) (.slice kb kn kc)) 31)).alloc (.cells (zAh a2 kind2 (.slice mb2 mn2 mc2) (.slice kb2 kn2 kc2)) 31):=⟨_,rfl⟩;have hb2:Below w.heap.size w w2:=by rw[hw2];exact ((zK _ _).alloc (zQ _) _).alloc (by simp) _
 have h0:Blk w2 w.heap.size (zAh a kind (.slice mb mn mc) (.slice kb kn kc)) 31:=by rw[hw2];exact (Blk.new _ _ _).alloc _
 have h1:Blk w2 (w.heap.size+1) (zAh a2 kind2 (.slice mb2 mn2 mc2) (.slice kb2 kn2 kc2)) 31:=by
  have:=Blk.new (w.alloc (.cells (zAh a kind (.slice mb mn mc) (.slice kb kn kc)) 31)) (zAh a2 kind2 (.slice mb2 mn2 mc2) (.slice kb2 kn2 kc2)) 31;rw[show (w.alloc (.cells (zAh a kind (.slice mb mn mc) (.slice kb kn kc)) 31)).heap.size=w.heap.size+1 by simp] at this;rw[hw2];exact this
 have HB2:=zz hb2;have HX2:=zz h0;have HY2:=zz h1;have HW2:=zz hw2;have HLV:=zz (hL w2 hb2);clear hT hU hf hg hG hE hi0 hz0 hs0 hb0 hb2 h0 h1 hw2 hL;go_enter Tryz.func3,Tryz.ntmps3
 go_upto_region 1 with fail
 change Code.wp _ _ _ _ ((w.alloc (.cells (zAh a kind (.slice mb mn mc) (.slice kb kn kc)) 31)).alloc (.cells (zAh a2 kind2 (.slice mb2 mn2 mc2) (.slice kb2 kn2 kc2)) 31));rw[<-HW2.out];go_wp2_with fail
 refine HLV.out.mono ?_;rintro r w3 ⟨rfl,hb3⟩;have HB3:=zz (HB2.out.trans (hb3.mono HB2.out.size));have HX3:=zz (HX2.out.below hb3 HX2.out.lt);have HY3:=zz (HY2.out.below hb3 HY2.out.lt);clear hb3 HLV;obtain⟨w4,hw4⟩:∃ w4,w4=w3.alloc (.cells ((zAh a kind (.slice mb mn mc) (.slice kb kn kc)) ++ (zAh a2 kind2 (.slice mb2 mn2 mc2) (.slice kb2 kn2 kc2))) 31):=⟨_,rfl⟩;have hb4:Below w3.heap.size w3 w4:=by rw[hw4];exact (zK _ _).alloc (zQ _) _
 have h4:Blk w4 w3.heap.size ((zAh a kind (.slice mb mn mc) (.slice kb kn kc)) ++ (zAh a2 kind2 (.slice mb2 mn2 mc2) (.slice kb2 kn2 kc2))) 31:=by rw[hw4];exact Blk.new _ _ _
 have HS3:=zz (show w.heap.size<=w3.heap.size from HB3.out.size);have HB4:=zz (HB3.out.trans (hb4.mono HB3.out.size));have HX4:=zz (HX3.out.below hb4 HX3.out.lt);have HY4:=zz (HY3.out.below hb4 HY3.out.lt);clear hb4;have HLR:Hid (LvR w4 w.heap.size (some ⟨w3.heap.size,0,none⟩) 2 (fun i=>if i=0 then zAh a kind (.slice mb mn mc) (.slice kb kn kc) else zAh a2 kind2 (.slice mb2 mn2 mc2) (.slice kb2 kn2 kc2)) (fun i=>if i=0 then f else g)):=zz (zOp w4 _ _ _ _ f g h4 rfl rfl ⟨zAl.below HB4.out _ _ HT.out,HW.out.1⟩ ⟨zAl.below HB4.out _ _ HU.out,HW.out.2⟩);have HV:=zz (zIt w4 w.heap.size HB4.out.size _ 2 2 _ _ HLR.out (by omega));have HW4:=zz hw4;clear h4 hw4 HLR;go_upto_region 3 with fail
 refine wp_region_lit ?_;refine wpList_load_row rfl 31 _ rfl (w.heap.size) rfl 31 _ (0,0) _ HX3.out Tryz.underlying31 rfl (by kernel_rfl) ?_;refine wpList_load_row rfl 31 _ rfl (w.heap.size+1) rfl 31 _ (0,0) _ HY3.out Tryz.underlying31 rfl (by kernel_rfl) ?_;refine wpList_buildSlice rfl 29 31 2 _ rfl ((zAh a kind (.slice mb mn mc) (.slice kb kn kc)) ++ (zAh a2 kind2 (.slice mb2 mn2 mc2) (.slice kb2 kn2 kc2))) i0 _ Tryz.underlying29 HI0.out.1 HI0.out.2.1 (by rw[HI0.out.2.2];decide) (by rw[HI0.out.2.2];decide) (by rw[Array.toList_map];exact zLW i0 _ HI0.out.2.2 (zAh a kind (.slice mb mn mc) (.slice kb kn kc)) (zAh a2 kind2 (.slice mb2 mn2 mc2) (.slice kb2 kn2 kc2)) rfl rfl) ?_;rw[<-HW4.out];go_wp2_with fail
 refine HV.out.mono ?_;rintro r w5 ⟨⟨B,rfl,hB⟩,hb5⟩
 cases B with
 | true=>
  have HB5:=zz (HB4.out.trans (hb5.mono HB4.out.size));have HX5:=zz (HX4.out.below hb5 HX4.out.lt);have HY5:=zz (HY4.out.below hb5 HY4.out.lt);clear hb5 HV hB;go_wp2;go_ret
  exact⟨rfl,HB5.out⟩
 | false=>
  have HSM:Hid (f.small 65538/\g.small 65538):=zz ⟨hB rfl 0 (by omega),hB rfl 1 (by omega)⟩;have HB5:=zz (HB4.out.trans (hb5.mono HB4.out.size));have HX5:=zz (HX4.out.below hb5 HX4.out.lt);have HY5:=zz (HY4.out.below hb5 HY4.out.lt);clear hb5 HV hB;have HS1:=zz (zFd w5 (HG.out.step HB5.out) (HE.out.step HB5.out HG.out.size) f 65538 _ (zAl.mono HB5.out.size _ _ (zAl.below HB5.out _ _ HT.out)) HSM.out.1 (by omega));go_upto_region 5 with fail
  refine wp_region_lit ?_;refine wpList_load_row rfl 31 _ rfl (w.heap.size) rfl 31 _ (0,0) _ HX5.out Tryz.underlying31 rfl (by kernel_rfl) ?_;go_wp2_with fail
  refine HS1.out.mono ?_;rintro r w6 ⟨⟨rfl,hgd1⟩|⟨s6,t6,v6,rfl⟩,hb6⟩
  ·have HGD1:=zz hgd1;have HB6:=zz (HB5.out.trans (hb6.mono HB5.out.size));have HX6:=zz (HX5.out.below hb6 HX5.out.lt);have HY6:=zz (HY5.out.below hb6 HY5.out.lt);clear hb6 HS1 hgd1;have HS2:=zz (zFd w6 (HG.out.step HB6.out) (HE.out.step HB6.out HG.out.size) g 65538 _ (zAl.mono HB6.out.size _ _ (zAl.below HB6.out _ _ HU.out)) HSM.out.2 (by omega));go_upto_region 6 with fail
   refine wp_region_lit ?_;refine wpList_load_row rfl 31 _ rfl (w.heap.size+1) rfl 31 _ (0,0) _ HY6.out Tryz.underlying31 rfl (by kernel_rfl) ?_;go_wp2_with fail
   refine HS2.out.mono ?_;rintro r w7 ⟨⟨rfl,hgd2⟩|⟨s7,t7,v7,rfl⟩,hb7⟩
   ·have HGD2:=zz hgd2;have HB7:=zz (HB6.out.trans (hb7.mono HB6.out.size));have HX7:=zz (HX6.out.below hb7 HX6.out.lt);have HY7:=zz (HY6.out.below hb7 HY6.out.lt);clear hb7 HS2 hgd2;by_cases hs:f.same g
    ·have HSV:=zz (zFr f g w7 w.heap.size _ _ 65538 HB7.out.size (zAl.below HB7.out _ _ HT.out) (zAl.below HB7.out _ _ HU.out) HSM.out.1 HSM.out.2 HGD1.out HGD2.out);rw[show g.txt zBM=f.txt zBM from ((zHU f g HGD1.out HGD2.out).1.2 hs).symm];generalize zAc (f.txt zBM)=X;have HSM2:=zz hs;clear hs;have x0:w7.cell? ⟨w.heap.size,0,none⟩=some (.int .i8 kind):=HX7.out.cell 0;have x1:w7.cell? ⟨w.heap.size,1,none⟩=some (.int .u64 (a.n:Int)):=HX7.out.cell 1;have x2:w7.cell? ⟨w.heap.size,2,none⟩=some (.bool a.neg):=HX7.out.cell 2;have x3:w7.cell? ⟨w.heap.size,3,none⟩=some (.slice mb mn mc):=HX7.out.cell 3;have x4:w7.cell? ⟨w.heap.size,4,none⟩=some (.int .u64 (a.bits:Int)):=HX7.out.cell 4;have x5:w7.cell? ⟨w.heap.size,5,none⟩=some (.int .i8 a.ext):=HX7.out.cell 5;have x6:w7.cell? ⟨w.heap.size,6,none⟩=some (.string (zAc a.text)):=HX7.out.cell 6;have x7:w7.cell? ⟨w.heap.size,7,none⟩=some (.slice kb kn kc):=HX7.out.cell 7;have y0:w7.cell? ⟨w.heap.size+1,0,none⟩=some (.int .i8 kind2):=HY7.out.cell 0;have y1:w7.cell? ⟨w.heap.size+1,1,none⟩=some (.int .u64 (a2.n:Int)):=HY7.out.cell 1;have y2:w7.cell? ⟨w.heap.size+1,2,none⟩=some (.bool a2.neg):=HY7.out.cell 2;have y3:w7.cell? ⟨w.heap.size+1,3,none⟩=some (.slice mb2 mn2 mc2):=HY7.out.cell 3;have y4:w7.cell? ⟨w.heap.size+1,4,none⟩=some (.int .u64 (a2.bits:Int)):=HY7.out.cell 4;have y5:w7.cell? ⟨w.heap.size+1,5,none⟩=some (.int .i8 a2.ext):=HY7.out.cell 5;have y6:w7.cell? ⟨w.heap.size+1,6,none⟩=some (.string (zAc a2.text)):=HY7.out.cell 6;have y7:w7.cell? ⟨w.heap.size+1,7,none⟩=some (.slice kb2 kn2 kc2):=HY7.out.cell 7;go_wp2_with fail
     refine HSV.out.mono ?_;rintro r w8 ⟨⟨B,rfl,hB⟩,hb8⟩;obtain rfl:B=true:=hB.2 HSM2.out;clear hB x0 x1 x2 x3 x4 x5 x6 x7 y0 y1 y2 y3 y4 y5 y6 y7;have HB8:=zz (HB7.out.trans (hb8.mono HB7.out.size));have HX8:=zz (HX7.out.below hb8 HX7.out.lt);have HY8:=zz (HY7.out.below hb8 HY7.out.lt);clear hb8 HSV;have HCP:=zz (zCm f g w8 w.heap.size _ _ 65538 (HG.out.step HB8.out).y.v.g.s HB8.out.size (zAl.below HB8.out _ _ HT.out) (zAl.below HB8.out _ _ HU.out) HSM.out.1 HSM.out.2);have x0:w8.cell? ⟨w.heap.size,0,none⟩=some (.int .i8 kind):=HX8.out.cell 0;have x1:w8.cell? ⟨w.heap.size,1,none⟩=some (.int .u64 (a.n:Int)):=HX8.out.cell 1;have x2:w8.cell? ⟨w.heap.size,2,none⟩=some (.bool a.neg):=HX8.out.cell 2;have x3:w8.cell? ⟨w.heap.size,3,none⟩=some (.slice mb mn mc):=HX8.out.cell 3;have x4:w8.cell? ⟨w.heap.size,4,none⟩=some (.int .u64 (a.bits:Int)):=HX8.out.cell 4;have x5:w8.cell? ⟨w.heap.size,5,none⟩=some (.int .i8 a.ext):=HX8.out.cell 5;have x6:w8.cell? ⟨w.heap.size,6,none⟩=some (.string (zAc a.text)):=HX8.out.cell 6;have x7:w8.cell? ⟨w.heap.size,7,none⟩=some (.slice kb kn kc):=HX8.out.cell 7;have y0:w8.cell? ⟨w.heap.size+1,0,none⟩=some (.int .i8 kind2):=HY8.out.cell 0;have y1:w8.cell? ⟨w.heap.size+1,1,none⟩=some (.int .u64 (a2.n:Int)):=HY8.out.cell 1;have y2:w8.cell? ⟨w.heap.size+1,2,none⟩=some (.bool a2.neg):=HY8.out.cell 2;have y3:w8.cell? ⟨w.heap.size+1,3,none⟩=some (.slice mb2 mn2 mc2):=HY8.out.cell 3;have y4:w8.cell? ⟨w.heap.size+1,4,none⟩=some (.int .u64 (a2.bits:Int)):=HY8.out.cell 4;have y5:w8.cell? ⟨w.heap.size+1,5,none⟩=some (.int .i8 a2.ext):=HY8.out.cell 5;have y6:w8.cell? ⟨w.heap.size+1,6,none⟩=some (.string (zAc a2.text)):=HY8.out.cell 6;have y7:w8.cell? ⟨w.heap.size+1,7,none⟩=some (.slice kb2 kn2 kc2):=HY8.out.cell 7
     go_wp2_with fail
     refine HCP.out.mono ?_;rintro r w9 ⟨⟨c,rfl,hc⟩,hb9⟩;have hc0:=hc HGD1.out HGD2.out;obtain rfl:c=0:=by rw[hc0];exact (zHU f g HGD1.out HGD2.out).2.2 HSM2.out
     clear hc0 hc x0 x1 x2 x3 x4 x5 x6 x7 y0 y1 y2 y3 y4 y5 y6 y7;have HB9:=zz (HB8.out.trans (hb9.mono HB8.out.size));clear hb9;go_wp2;go_ret;exact⟨rfl,HB9.out⟩
    ·have HSV:=zz (zFr f g w7 w.heap.size _ _ 65538 HB7.out.size (zAl.below HB7.out _ _ HT.out) (zAl.below HB7.out _ _ HU.out) HSM.out.1 HSM.out.2 HGD1.out HGD2.out)
     have hne:((zAc (f.txt zBM)).toList == (zAc (g.txt zBM)).toList)=false:=by
      rw[zCq,zCq,beq_eq_false_iff_ne];exact fun h=>hs ((zHU f g HGD1.out HGD2.out).1.1 h)
     generalize zAc (f.txt zBM)=X at hne ⊢;generalize zAc (g.txt zBM)=Y at hne ⊢;have HSM2:=zz hs;clear hs;have x0:w7.cell? ⟨w.heap.size,0,none⟩=some (.int .i8 kind):=HX7.out.cell 0;have x1:w7.cell? ⟨w.heap.size,1,none⟩=some (.int .u64 (a.n:Int)):=HX7.out.cell 1;have x2:w7.cell? ⟨w.heap.size,2,none⟩=some (.bool a.neg):=HX7.out.cell 2;have x3:w7.cell? ⟨w.heap.size,3,none⟩=some (.slice mb mn mc):=HX7.out.cell 3;have x4:w7.cell? ⟨w.heap.size,4,none⟩=some (.int .u64 (a.bits:Int)):=HX7.out.cell 4;have x5:w7.cell? ⟨w.heap.size,5,none⟩=some (.int .i8 a.ext):=HX7.out.cell 5;have x6:w7.cell? ⟨w.heap.size,6,none⟩=some (.string (zAc a.text)):=HX7.out.cell 6;have x7:w7.cell? ⟨w.heap.size,7,none⟩=some (.slice kb kn kc):=HX7.out.cell 7;have y0:w7.cell? ⟨w.heap.size+1,0,none⟩=some (.int .i8 kind2):=HY7.out.cell 0;have y1:w7.cell? ⟨w.heap.size+1,1,none⟩=some (.int .u64 (a2.n:Int)):=HY7.out.cell 1;have y2:w7.cell? ⟨w.heap.size+1,2,none⟩=some (.bool a2.neg):=HY7.out.cell 2;have y3:w7.cell? ⟨w.heap.size+1,3,none⟩=some (.slice mb2 mn2 mc2):=HY7.out.cell 3;have y4:w7.cell? ⟨w.heap.size+1,4,none⟩=some (.int .u64 (a2.bits:Int)):=HY7.out.cell 4;have y5:w7.cell? ⟨w.heap.size+1,5,none⟩=some (.int .i8 a2.ext):=HY7.out.cell 5;have y6:w7.cell? ⟨w.heap.size+1,6,none⟩=some (.string (zAc a2.text)):=HY7.out.cell 6;have y7:w7.cell? ⟨w.heap.size+1,7,none⟩=some (.slice kb2 kn2 kc2):=HY7.out.cell 7;go_wp2_with fail
     refine HSV.out.mono ?_;rintro r w8 ⟨⟨B,rfl,hB⟩,hb8⟩;obtain rfl:B=false:=Bool.eq_false_iff.2 (fun h=>HSM2.out (hB.1 h));clear hB x0 x1 x2 x3 x4 x5 x6 x7 y0 y1 y2 y3 y4 y5 y6 y7;have HB8:=zz (HB7.out.trans (hb8.mono HB7.out.size));have HX8:=zz (HX7.out.below hb8 HX7.out.lt);have HY8:=zz (HY7.out.below hb8 HY7.out.lt);clear hb8 HSV;have HCP:=zz (zCm f g w8 w.heap.size _ _ 65538 (HG.out.step HB8.out).y.v.g.s HB8.out.size (zAl.below HB8.out _ _ HT.out) (zAl.below HB8.out _ _ HU.out) HSM.out.1 HSM.out.2);have x0:w8.cell? ⟨w.heap.size,0,none⟩=some (.int .i8 kind):=HX8.out.cell 0;have x1:w8.cell? ⟨w.heap.size,1,none⟩=some (.int .u64 (a.n:Int)):=HX8.out.cell 1;have x2:w8.cell? ⟨w.heap.size,2,none⟩=some (.bool a.neg):=HX8.out.cell 2;have x3:w8.cell? ⟨w.heap.size,3,none⟩=some (.slice mb mn mc):=HX8.out.cell 3;have x4:w8.cell? ⟨w.heap.size,4,none⟩=some (.int .u64 (a.bits:Int)):=HX8.out.cell 4;have x5:w8.cell? ⟨w.heap.size,5,none⟩=some (.int .i8 a.ext):=HX8.out.cell 5;have x6:w8.cell? ⟨w.heap.size,6,none⟩=some (.string (zAc a.text)):=HX8.out.cell 6;have x7:w8.cell? ⟨w.heap.size,7,none⟩=some (.slice kb kn kc):=HX8.out.cell 7;have y0:w8.cell? ⟨w.heap.size+1,0,none⟩=some (.int .i8 kind2):=HY8.out.cell 0;have y1:w8.cell? ⟨w.heap.size+1,1,none⟩=some (.int .u64 (a2.n:Int)):=HY8.out.cell 1;have y2:w8.cell? ⟨w.heap.size+1,2,none⟩=some (.bool a2.neg):=HY8.out.cell 2;have y3:w8.cell? ⟨w.heap.size+1,3,none⟩=some (.slice mb2 mn2 mc2):=HY8.out.cell 3;have y4:w8.cell? ⟨w.heap.size+1,4,none⟩=some (.int .u64 (a2.bits:Int)):=HY8.out.cell 4;have y5:w8.cell? ⟨w.heap.size+1,5,none⟩=some (.int .i8 a2.ext):=HY8.out.cell 5;have y6:w8.cell? ⟨w.heap.size+1,6,none⟩=some (.string (zAc a2.text)):=HY8.out.cell 6;have y7:w8.cell? ⟨w.heap.size+1,7,none⟩=some (.slice kb2 kn2 kc2):=HY8.out.cell 7
     go_wp2_with fail
     refine HCP.out.mono ?_;rintro r w9 ⟨⟨c,rfl,hc⟩,hb9⟩;have hc0:=hc HGD1.out HGD2.out;have hcz:(c == 0)=false:=by rw[beq_eq_false_iff_ne,hc0];exact fun h=>HSM2.out ((zHU f g HGD1.out HGD2.out).2.1 h)
     clear hc0 hc x0 x1 x2 x3 x4 x5 x6 x7 y0 y1 y2 y3 y4 y5 y6 y7;have HB9:=zz (HB8.out.trans (hb9.mono HB8.out.size));clear hb9;go_wp2;go_ret;exact⟨rfl,HB9.out⟩
   ·have HB7:=zz (HB6.out.trans (hb7.mono HB6.out.size));have HX7:=zz (HX6.out.below hb7 HX6.out.lt);have HY7:=zz (HY6.out.below hb7 HY6.out.lt);clear hb7 HS2;go_wp2;go_ret;exact⟨rfl,HB7.out⟩
  ·have HB6:=zz (HB5.out.trans (hb6.mono HB5.out.size));have HX6:=zz (HX5.out.below hb6 HX5.out.lt);have HY6:=zz (HY5.out.below hb6 HY5.out.lt);clear hb6 HS1;have HS2:=zz (zFd w6 (HG.out.step HB6.out) (HE.out.step HB6.out HG.out.size) g 65538 _ (zAl.mono HB6.out.size _ _ (zAl.below HB6.out _ _ HU.out)) HSM.out.2 (by omega));go_upto_region 6 with fail
   refine wp_region_lit ?_;refine wpList_load_row rfl 31 _ rfl (w.heap.size+1) rfl 31 _ (0,0) _ HY6.out Tryz.underlying31 rfl (by kernel_rfl) ?_;go_wp2_with fail
   refine HS2.out.mono ?_;rintro r w7 ⟨⟨rfl,hgd2⟩|⟨s7,t7,v7,rfl⟩,hb7⟩
   ·have HB7:=zz (HB6.out.trans (hb7.mono HB6.out.size));have HX7:=zz (HX6.out.below hb7 HX6.out.lt);have HY7:=zz (HY6.out.below hb7 HY6.out.lt);clear hb7 HS2;go_wp2;go_ret;exact⟨rfl,HB7.out⟩
   ·have HB7:=zz (HB6.out.trans (hb7.mono HB6.out.size));have HX7:=zz (HX6.out.below hb7 HX6.out.lt);have HY7:=zz (HY6.out.below hb7 HY6.out.lt);clear hb7 HS2;go_wp2;go_ret;exact⟨rfl,HB7.out⟩
end Go.Proofs.YtcanfakaigpkgaaGreatDoor.D
namespace Go.Proofs.YtcanfakaigpkgaaGreatDoor.D
open Go Go.RowKit Go.ChangeShapes Go.WideShapes Go.ChangeAt Limb
theorem own:ownKnob Tryz.prog.godebug=none:=by kernel_rfl
theorem g21:Tryz.prog.globals.size=22:=by kernel_rfl
def TV(t:TypeId):Prop:=t=31 \/ t=23 \/ t=24 \/ t=28 \/ t=22 \/ t=9 \/ t=29 \/ t=4 \/ t=26 \/ t=139
theorem zPV:Kids Tryz.prog TV where
 pointer:=by rintro t e (rfl|rfl|rfl|rfl|rfl|rfl|rfl|rfl|rfl|rfl) h <;> simp[Tryz.underlying31,Tryz.underlying23,Tryz.underlying24,Tryz.underlying28,Tryz.underlying22,Tryz.underlying9,Tryz.underlying29,Tryz.underlying4,Tryz.underlying26,Tryz.underlying139] at h
 slice:=by
  rintro t e (rfl|rfl|rfl|rfl|rfl|rfl|rfl|rfl|rfl|rfl) h <;> simp[Tryz.underlying31,Tryz.underlying23,Tryz.underlying24,Tryz.underlying28,Tryz.underlying22,Tryz.underlying9,Tryz.underlying29,Tryz.underlying4,Tryz.underlying26,Tryz.underlying139] at h
  ·exact .inl h.symm
  ·exact .inr (.inr (.inr (.inr (.inr (.inr (.inr (.inr (.inr (h.symm)))))))))
 array:=by rintro t e n (rfl|rfl|rfl|rfl|rfl|rfl|rfl|rfl|rfl|rfl) h <;> simp[Tryz.underlying31,Tryz.underlying23,Tryz.underlying24,Tryz.underlying28,Tryz.underlying22,Tryz.underlying9,Tryz.underlying29,Tryz.underlying4,Tryz.underlying26,Tryz.underlying139] at h
 struct:=by
  rintro t fs (rfl|rfl|rfl|rfl|rfl|rfl|rfl|rfl|rfl|rfl) h <;> simp[Tryz.underlying31,Tryz.underlying23,Tryz.underlying24,Tryz.underlying28,Tryz.underlying22,Tryz.underlying9,Tryz.underlying29,Tryz.underlying4,Tryz.underlying26,Tryz.underlying139] at h
  ·subst h;refine⟨fun f hf=>?_,by kernel_rfl,fun j f hf=>?_⟩
   ·simp only[List.mem_cons,List.not_mem_nil,or_false] at hf;rcases hf with rfl|rfl|rfl|rfl|rfl|rfl|rfl
    ·exact .inr (.inl rfl)
    ·exact .inr (.inr (.inl rfl))
    ·exact .inr (.inr (.inr (.inl rfl)))
    ·exact .inr (.inr (.inl rfl))
    ·exact .inr (.inr (.inr (.inr (.inl rfl))))
    ·exact .inr (.inr (.inr (.inr (.inr (.inl rfl)))))
    ·exact .inr (.inr (.inr (.inr (.inr (.inr (.inl rfl))))))
   ·match j with
    | 0=>simp at hf;subst hf;rfl
    | 1=>simp at hf;subst hf;simp[zBF,zBL,zCx,zCD,zBA,zBy,zBx,zB1]
    | 2=>simp at hf;subst hf;simp[zBF,zBL,zCx,zCD,zBA,zBy,zBx,zB1]
    | 3=>simp at hf;subst hf;simp[zBF,zBL,zCx,zCD,zBA,zBy,zBx,zB1]
    | 4=>simp at hf;subst hf;simp[zBF,zBL,zCx,zCD,zBA,zBy,zBx,zB1]
    | 5=>simp at hf;subst hf;simp[zBF,zBL,zCx,zCD,zBA,zBy,zBx,zB1]
    | 6=>simp at hf;subst hf;simp[zBF,zBL,zCx,zCD,zBA,zBy,zBx,zB1]
    | j+7=>simp at hf
  ·subst h;refine⟨fun f hf=>?_,by kernel_rfl,fun j f hf=>?_⟩
   ·simp only[List.mem_cons,List.not_mem_nil,or_false] at hf;rcases hf with rfl|rfl
    ·exact .inr (.inr (.inr (.inr (.inr (.inr (.inr (.inl rfl)))))))
    ·exact .inr (.inr (.inr (.inr (.inr (.inr (.inr (.inr (.inl rfl))))))))
   ·match j with
    | 0=>simp at hf;subst hf;rfl
    | 1=>simp at hf;subst hf;simp[zBF,zBL,zCx,zCD,zBA,zBy,zBx,zB1]
    | j+2=>simp at hf
 map:=by rintro t k e (rfl|rfl|rfl|rfl|rfl|rfl|rfl|rfl|rfl|rfl) h <;> simp[Tryz.underlying31,Tryz.underlying23,Tryz.underlying24,Tryz.underlying28,Tryz.underlying22,Tryz.underlying9,Tryz.underlying29,Tryz.underlying4,Tryz.underlying26,Tryz.underlying139] at h
theorem zOY:∀ t e,TV t->Tryz.prog.underlying t=some (.slice e)->0<Tryz.prog.cellsOf e:=by
 rintro t e (rfl|rfl|rfl|rfl|rfl|rfl|rfl|rfl|rfl|rfl) h <;> simp[Tryz.underlying31,Tryz.underlying23,Tryz.underlying24,Tryz.underlying28,Tryz.underlying22,Tryz.underlying9,Tryz.underlying29,Tryz.underlying4,Tryz.underlying26,Tryz.underlying139] at h
 ·subst h;rw[zJI];omega
 ·subst h;rw[zHR];omega
section
variable {H:Type} {enc:TypeId × Value->H} {w:World} {held:Bool}
theorem zDt{base:Nat}{sp:Nat->Bool}{w':World}:∀ {ts:List TypeId} {vs:List Value} {ds:List (DataW H)} {ps:List MemPlace},DataW.TrodAll enc Tryz.prog w base sp held ts vs ds ps->(∀ p ∈ ps,w.sameAt w' p)->DataW.TrodAll enc Tryz.prog w' base sp held ts vs ds ps
 | [],[],[],_,h,_=>h
 | _ :: _,_ :: _,_ :: _,_,⟨p,q,⟨n,hn⟩,h2,e⟩,hs=>⟨p,q,⟨n,DataW.trod_carry n _ _ _ hn (fun x hx=>hs x (by rw[e];exact List.mem_append_left _ hx))⟩,zDt h2 (fun x hx=>hs x (by rw[e];exact List.mem_append_right _ hx)),e⟩
theorem zIJ{ts:List TypeId}{vs:List Value}{ds:List (DataW H)}{ps:List MemPlace}{w':World}(hT:∀ t ∈ ts,TV t)(h:DataW.TrodAll enc Tryz.prog w 0 (fun _=>true) true ts vs ds ps)(hb:Below w.heap.size w w'):
  DataW.TrodAll enc Tryz.prog w' 0 (fun b=>decide (b<w.heap.size)) true ts vs ds ps:=by
 have hlt:=DataW.TrodAll.lt h;refine zDt (DataW.TrodAll.respare zPV zOY hT h (fun p hp=>by simpa using hlt p hp)) (fun p hp=>?_);have hl:=hlt p hp
 cases p with
 | cell b o=>exact hb.cell (p:=⟨b,o,none⟩) hl
 | map b=>exact hb.block b hl
end
def zQd(c:Array Value):Obj->Obj
 | .cells _ t frozen=>.cells c t frozen
 | o=>o
abbrev zC0:List (String × DataW Unit):=zEI.filter fun x=>x.2.handleName?.isNone
noncomputable def zHx (os:Os):World:=
 { World.holding Tryz.prog os ⟨#[],#[],[]⟩ with heap:=(World.holding Tryz.prog os ⟨#[],#[],[]⟩).heap.modify 12 (zQd #[.iface 246 (.agg #[.pointer (some ⟨22,35,none⟩)])]) }
noncomputable def zA6 (os:Os):World:=(zHx os).layVars Tryz.prog zC0
theorem zF5(os:Os):(zA6 os).os=os:=by
 unfold zA6;rw[World.layVars_os];rfl
theorem zQs(os:Os):(zHx os).layFits Tryz.prog zC0 []=true:=by kernel_rfl
theorem zOQ(os:Os):(zHx os).layIfaces Tryz.prog zC0 (zA6 os)=true:=by kernel_rfl
theorem zOL(os:Os):(zEI.filter fun x=>x.2.handleName?.isSome).all (handleAtB Tryz.prog (zA6 os))=true:=by kernel_rfl
end Go.Proofs.YtcanfakaigpkgaaGreatDoor.D
