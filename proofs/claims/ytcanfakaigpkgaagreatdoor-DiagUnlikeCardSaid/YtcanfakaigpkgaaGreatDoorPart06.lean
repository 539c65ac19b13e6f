/-
  Of the proof that the law DiagUnlike answers true at every two values: a part, without conditions of its own.
-/
import Derived.Test.YtcanfakaigpkgaaGreatDoorPart04
import Derived.WalkLawsBesides
import Derived.Lib.Builder
import Derived.Lib.AppendStr
import Derived.Lib.UnsafeStr
import Derived.Shelf.RegionOpenPlain
import Derived.Laws.Externs
import Derived.Laws.IdiomCopy
set_option linter.unusedVariables false
set_option linter.unusedSimpArgs false
set_option maxRecDepth 100000
set_option maxHeartbeats 8000000
namespace Go.Proofs.YtcanfakaigpkgaaGreatDoor.D
open Go Go.RowKit Limb
attribute [local go_sem high] zAI zAg
theorem zPq(S:List UInt8)(a:Nat):(ch S a).toNat.toUInt8=S.getD a 0:=by
 unfold ch b8;rw[Int.toNat_natCast];simp
theorem zPb:∀ (L:List UInt8) (c:UInt8),c ∈ L->0<=Lib.indexByte L c:=by
 intro L
 induction L with
 | nil=>intro c h;cases h
 | cons b r ih=>
  intro c h;simp only[Lib.indexByte]
  split
  ·omega
  ·rename_i hb
   have hm:c ∈ r:=by
    rcases List.mem_cons.1 h with e|e
    ·subst e;simp at hb
    ·exact e
   have:=ih c hm
   split
   ·rename_i h1;simp at h1;omega
   ·omega
theorem zQh:∀ (L:List UInt8) (c:UInt8),c ∉ L->Lib.indexByte L c=-1:=by
 intro L
 induction L with
 | nil=>intro c _;rfl
 | cons b r ih=>
  intro c h
  have hb:(b == c)=false:=by
   rw[beq_eq_false_iff_ne];rintro rfl;exact h (by simp)
  have:=ih c (fun e=>h (by simp[e]));simp[Lib.indexByte,hb,this]
theorem zPu(L S:List UInt8)(a:Nat)(h:S.getD a 0 ∈ L):∃ q:Int,0<=q/\∀ w,Calls Tryz.prog 58 #[.string (zAc L),.int .u8 (ch S a)] w fun e w'=>e=.returned (.int .i64 q)/\w'=w:=
 ⟨_,zPb L _ h,fun w=>by have:=Tryz.strings_IndexByte (zAc L) (ch S a) w;rwa [zPq] at this⟩
theorem zQb(L S:List UInt8)(a:Nat)(h:S.getD a 0 ∉ L)(w:World):Calls Tryz.prog 58 #[.string (zAc L),.int .u8 (ch S a)] w fun e w'=>e=.returned (.int .i64 (-1))/\w'=w:=by
 have:=Tryz.strings_IndexByte (zAc L) (ch S a) w;rw[zPq] at this;have e:(zAc L).data.toList=L:=rfl;rw[e,zQh L _ h] at this;exact this
theorem zBu(w:World)(p:Nat)(S:List UInt8)(a:Nat)(op:Bool)(h:Rd w p S a op)(L:List UInt8)(ha:a<S.length)(hc:S.getD a 0 ∈ L):
  Calls Tryz.prog 56 #[.pointer (some ⟨p,0,none⟩),.string (zAc L)] w fun e w'=>e=.returned (.bool true)/\∃ n,w'=w.drewN n:=by
 have c0:=h.at0;have c1:=h.at1;have g1:(a:Int)<(S.length:Int):=by omega
 obtain⟨q,hq,hC⟩:=zPu L S a hc;have HC:=zz hC;have g2:decide (0<=q)=true:=by simpa using hq
 clear h hc hC;go_enter Tryz.func56,Tryz.ntmps56
 go_wp2;go_quiet ((go_at_call 58;exact Calls.quiet_of_same (HC.out _)))
 go_wp2;go_ret;exact⟨rfl,_,rfl⟩
theorem zAT(w:World)(p:Nat)(S:List UInt8)(a:Nat)(op:Bool)(h:Rd w p S a op)(L:List UInt8)(hc:a<S.length->S.getD a 0 ∉ L):
  Calls Tryz.prog 56 #[.pointer (some ⟨p,0,none⟩),.string (zAc L)] w fun e w'=>e=.returned (.bool false)/\∃ n,w'=w.drewN n:=by
 have c0:=h.at0;have c1:=h.at1;clear h;by_cases ha:a<S.length
 ·have g1:(a:Int)<(S.length:Int):=by omega
  have HC:=zz (zQb L S a (hc ha));clear hc;go_enter Tryz.func56,Tryz.ntmps56
  go_wp2;go_quiet ((go_at_call 58;exact Calls.quiet_of_same (HC.out _)))
  go_wp2;go_ret;exact⟨rfl,_,rfl⟩
 ·have g1:decide ((a:Int)<(S.length:Int))=false:=by simp;omega
  have g2:decide (a<S.length)=false:=by simp;omega
  have g3:S.length<=a:=by omega
  clear hc;go_enter Tryz.func56,Tryz.ntmps56
  go_wp2;go_quiet (fail)
  go_wp2;go_ret;exact⟨rfl,_,rfl⟩
theorem zOh(w:World)(p:Value)(a:Int):
  Calls Tryz.prog 30 #[p,.int .i64 a] w fun e w'=>w'=w/\e=.panicked [{ v:=.iface 66 (.agg #[.int .i64 3,.int .i64 a]),recovered:=false }]:=by
 go_enter Tryz.func30,Tryz.ntmps30
 go_wp2;exact⟨rfl,rfl,rfl⟩
end Go.Proofs.YtcanfakaigpkgaaGreatDoor.D
namespace Go.Proofs.YtcanfakaigpkgaaGreatDoor.D
open Go Go.RowKit Limb
attribute [local go_sem high] zAI zAg
theorem zQp{S W:List UInt8}{a i:Nat}(h:S.getD a 0=W.getD i 0):ch S a=ch W i:=by unfold ch;rw[h]
theorem Rs.drewN{w w1:World}{p:Nat}{S:List UInt8}{a:Nat}{op:Bool}(h:Rs p S a op w w1)(n:Nat):Rs p S a op w (w1.drewN n):=⟨h.1.drewN n,h.2.drewN n⟩
theorem zDL(w:World)(p:Nat)(S:List UInt8)(a:Nat)(op:Bool)(h:Rd w p S a op)(W:List UInt8)(hl:a+W.length<=S.length)(hS:S.length<=1099511627776)(hW:∀ i,i<W.length->S.getD (a+i) 0=W.getD i 0):
  Calls Tryz.prog 95 #[.pointer (some ⟨p,0,none⟩),.string (zAc W)] w fun e w'=>e=.returned (.tuple #[])/\Rs p S (a+W.length) op w w':=by
 have HW:=zz hW;have HR:=zz h;clear hW h;go_enter Tryz.func95,Tryz.ntmps95
 go_wp2;go_loopw [4,7] (fun _ i wr=>∃ k:Nat,k<=W.length/\i=.int .i64 k/\Rs p S (a+k) op w wr) (fun _ i _=>W.length - (intOf i).toNat)
 case atStart=>exact⟨0,by omega,rfl,Rs.refl HR.out⟩
 case round=>
  obtain⟨k,hk,rfl,hr⟩:=hrel;have HRs:=zz hr;clear hr;by_cases h1:k<W.length
  ·have g1:(k:Int)<(W.length:Int):=by omega
   go_wp2_with fail
   refine (zKZ wr p S (a+k) op HRs.out.1 (by omega) hS (ch W k) (zQp (HW.out k h1))).mono ?_;rintro e w1 ⟨rfl,h2⟩;have H2:=zz (HRs.out.trans h2);clear h2;go_wp2;go_roundw
   case rel=>exact⟨k+1,by omega,by simp,H2.out⟩
   case measure=>simp[intOf];omega
  ·obtain rfl:k=W.length:=by omega
   go_wp2;go_end0
   exact⟨rfl,HRs.out⟩
def zEQ(code a:Int):Value:=.iface 66 (.agg #[.int .i64 code,.int .i64 a])
theorem zMT(w:World)(p:Nat)(S:List UInt8)(a:Nat)(op:Bool)(h:Rd w p S a op)(c:UInt8)(r:List UInt8)(hc:a<S.length->S.getD a 0≠c):
  Calls Tryz.prog 95 #[.pointer (some ⟨p,0,none⟩),.string (zAc (c :: r))] w fun e w'=>e=.panicked [{ v:=zEQ 3 a,recovered:=false }]/\Rs p S a op w w':=by
 have HR:=zz h
 have hx:a<S.length->ch S a≠ch (c :: r) 0:=by
  intro h1 h2;apply hc h1;unfold ch b8 at h2;apply UInt8.toNat_inj.1;rw[List.getD_cons_zero] at h2;omega
 have HX:=zz hx;clear h hc hx;have g1:(0:Int)<((c :: r).length:Int):=by simp
 have g0:(0:Nat)<(c :: r).length:=by simp
 generalize (c :: r)=W at g0 g1 HX ⊢;go_enter Tryz.func95,Tryz.ntmps95
 go_wp2;go_loopw [4,7] (fun _ i wr=>i=.int .i64 ((0:Nat):Int)/\wr=w) (fun _ i _=>0)
 case atStart=>exact⟨rfl,rfl⟩
 case round=>
  obtain⟨rfl,rfl⟩:=hrel;have g2:(Instr.index 9 (.string (zAc W)) (.int .i64 0)).run Tryz.prog wr=.ok (.int .u8 (ch W 0)) wr:=zAI wr W 0 g0;go_wp2_with fail
  refine (zDV wr p S a op HR.out (ch W 0) HX.out).mono ?_;rintro e w1 ⟨rfl,n,rfl⟩;have hr:=HR.out.drewN n;have c1:=hr.at1;have HRs:=zz (zLD HR.out n);clear hr g2;generalize wr.drewN n=w1 at c1 HRs ⊢;go_wp2_with fail
  refine (zOh w1 _ (a:Int)).mono ?_;rintro e w2 ⟨rfl,rfl⟩;go_wp2;exact⟨rfl,rfl,HRs.out⟩
theorem zFD(w:World)(k:Int)(a:Int)(hk:k<128):
  Calls Tryz.prog 59 #[.int .i64 k,.int .i64 a] w fun e w'=>e=.returned (.tuple #[])/\w'=w:=by
 go_enter Tryz.func59,Tryz.ntmps59
 go_wp2;go_end0
 exact⟨rfl,rfl⟩
end Go.Proofs.YtcanfakaigpkgaaGreatDoor.D
namespace Go.Proofs.YtcanfakaigpkgaaGreatDoor.D
open Go Go.RowKit Limb
attribute [local go_sem high] zAI zAg zBv zAz
def zPI(w:World)(p:Nat):Nat:=match w.cell? ⟨p,1,none⟩ with|some (.int _ n)=>n.toNat|_=>0
theorem Rd.atOf{w:World}{p:Nat}{S:List UInt8}{a:Nat}{op:Bool}(h:Rd w p S a op):zPI w p=a:=by
 unfold D.zPI;rw[h.at1];simp
theorem zBq(w:World)(p:Nat)(S:List UInt8)(a b:Nat)(op:Bool)(h:Rd w p S a op)(L:List UInt8)(hab:a<=b)(hb:b<=S.length)(hS:S.length<=1099511627776)
  (hin:∀ i,a<=i->i<b->S.getD i 0 ∈ L) (hout:b<S.length->S.getD b 0 ∉ L) (least:Int) (hle:least<=(b:Int) - a) :
  Calls Tryz.prog 103 #[.pointer (some ⟨p,0,none⟩),.string (zAc L),.int .i64 least] w fun e w'=>e=.returned (.string (zAc (sub S a b)))/\Rs p S b op w w':=by
 have HIN:=zz hin;have HR:=zz h;have c1:=h.at1;clear hin h;go_enter Tryz.func103,Tryz.ntmps103
 go_wp2;clear c1;go_loopw [] (fun wr=>∃ k:Nat,a<=k/\k<=b/\Rs p S k op w wr) (fun wr=>S.length - zPI wr p)
 case atStart=>exact⟨a,by omega,hab,Rs.refl HR.out⟩
 case round=>
  obtain⟨k,hk1,hk2,hr⟩:=hrel;have HRs:=zz hr;clear hr;by_cases h1:k<b
  ·go_wp2_with fail
   refine (zBu wr p S k op HRs.out.1 L (by omega) (HIN.out k hk1 h1)).mono ?_;rintro e w1 ⟨rfl,n,rfl⟩;have hr1:=HRs.out.drewN n;have HA:=zz HRs.out.1.atOf;clear HRs;generalize wr.drewN n=w1 at hr1 ⊢;have c1:=hr1.1.at1;have f1:w1.frozen? ⟨p,1,none⟩=false:=Blk.free hr1.1 1;have hr2:Rs p S (k+1) op w (w1.setCell ⟨p,1,none⟩ (.int .i64 ((k+1:Nat):Int))):=⟨hr1.1.set1 (k+1),hr1.2.setCell p 1 (.inl rfl) _⟩;have HR2:=zz hr2;have HA2:=zz hr2.1.atOf;clear hr1 hr2;have g3:IntKind.i64.wrap ((k:Int)+1)=(k:Int)+1:=zY _ (by omega);go_wp2;rw[show ((k:Int)+1)=((k+1:Nat):Int) by simp];go_roundw
   case rel=>exact⟨k+1,by omega,by omega,HR2.out⟩
   case measure=>rw[HA.out,HA2.out];omega
  ·obtain rfl:k=b:=by omega
   go_wp2_with fail
   refine (zAT wr p S k op HRs.out.1 L hout).mono ?_;rintro e w1 ⟨rfl,n,rfl⟩;have hr1:=HRs.out.drewN n;clear HRs;generalize wr.drewN n=w1 at hr1 ⊢;have c1:=hr1.1.at1;have c0:=hr1.1.at0;have HR1:=zz hr1;clear hr1;have g3:IntKind.i64.wrap ((k:Int) - (a:Int))=(k:Int) - a:=zY _ (by omega);have g4:¬ ((k:Int) - (a:Int)<least):=by omega
   go_wp2;go_quiet (fail)
   go_wp2;go_ret;exact⟨rfl,HR1.out.drewN _⟩
end Go.Proofs.YtcanfakaigpkgaaGreatDoor.D
namespace Go.Proofs.YtcanfakaigpkgaaGreatDoor.D
open Go Go.RowKit Limb
theorem zAQ(b o j:Nat):(⟨b,o,none⟩:Addr).add j=⟨b,o+j,none⟩:=by unfold Addr.add;split <;> simp_all
def BAt(T:TypeId)(r:List Value)(B b:Nat)(p:Value)(L:List UInt8)(w:World):Prop:=
 B<=b/\∃ v,w.heap[b]?=some (.cells (p :: v :: r).toArray T (0,0))/\w.ownsRow B 5 1 v L.length (Lib.byteCells L)/\v.ownBlock≠some b
def BIs(T:TypeId)(r:List Value)(B b:Nat)(L:List UInt8)(w:World):Prop:=BAt T r B b (.pointer none) L w \/ BAt T r B b (.pointer (some ⟨b,0,none⟩)) L w
structure BTy (T:TypeId) (r:List Value):Prop where
 ne:T≠5
 lies:liesAt Tryz.prog Tryz.prog.depth T ((r.length+2) / Tryz.prog.cellsOf T) 0 49 1=true
def Wk(B b:Nat)(w w':World):Prop:=Below B w w'/\w.heap.size<=w'.heap.size/\∀ k,k<w.heap.size->k≠b->(∀ c fr,w.heap[k]?≠some (.cells c 5 fr))->w'.heap[k]?=w.heap[k]?
theorem Wk.refl(B b:Nat)(w:World):Wk B b w w:=⟨zK _ _,zQ _,fun _ _ _ _=>rfl⟩
theorem Wk.trans{B b:Nat}{w w1 w2:World}(h:Wk B b w w1)(k:Wk B b w1 w2):Wk B b w w2:=
 ⟨h.1.trans k.1,zJ h.2.1 k.2.1,fun j hj hb hc=>by
  have e:=h.2.2 j hj hb hc;rw[<-e];exact k.2.2 j (by have:=h.2.1;omega) hb (fun c fr=>by rw[e];exact hc c fr)⟩
theorem Wk.of_below{B b:Nat}{w w':World}(h:Below w.heap.size w w')(hB:B<=w.heap.size):Wk B b w w':=⟨h.mono hB,h.size,fun k hk _ _=>h.block k hk⟩
theorem Wk.drewN{B b:Nat}{w w':World}(h:Wk B b w w')(n:Nat):Wk B b w (w'.drewN n):=⟨zAd h.1 n,h.2.1,h.2.2⟩
theorem Wk.setCell{B b:Nat}{w w':World}(h:Wk B b w w')(hB:B<=b)(i:Nat)(v:Value):Wk B b w (w'.setCell ⟨b,i,none⟩ v):=
 h.trans ⟨(zK _ _).setCell (p:=⟨b,i,none⟩) hB v,by simp[World.setCell],fun k _ hk _=>Below.heap_setCell _ _ _ _ hk⟩
theorem Wk.grown{B b:Nat}{w w1 w2:World}{v:Value}{n:Nat}{xs:List Value}(h:Wk B b w w1)(hg:w1.grownBy w2 v.ownBlock)(hown:w1.ownsRow B 5 1 v n xs)(hBw:B<=w1.heap.size):Wk B b w w2:=
 h.trans ⟨(zK B w1).grown hg hBw (fun k hk=>(hown.lt k hk).1),hg.size,fun k hk _ hc=>hg.block k hk (fun e=>by
  rcases hown.2 with ⟨hv,_⟩|⟨g,cap,cur,hv,_,hgr,_⟩
  ·rw[hv] at e;simp[Value.ownBlock] at e
  ·rw[hv] at e;simp only[Value.ownBlock,Option.some.injEq] at e;subst e;exact hc _ _ hgr)⟩
theorem zPy:(Tryz.prog.info? 49).map (·.size)=some 2:=by kernel_rfl
theorem zQj:(Tryz.prog.info? 5).map (fun i=>(i.zero,i.size,i.bytes))=some (some (.int .u8 0),1,1):=by kernel_rfl
theorem zDg:∃ i,Tryz.prog.info? 5=some i/\i.zero=some (.int .u8 0)/\i.size=1/\i.bytes=1:=by
 have hinfo:=zQj
 cases hq:Tryz.prog.info? 5 with
 | none=>rw[hq] at hinfo;cases hinfo
 | some i=>
  rw[hq] at hinfo;simp only[Option.map_some,Option.some.injEq,Prod.mk.injEq] at hinfo;exact⟨i,rfl,hinfo⟩
theorem BAt.lt{T:TypeId}{r:List Value}{B b:Nat}{p:Value}{L:List UInt8}{w:World}(h:BAt T r B b p L w):b<w.heap.size:=by
 obtain⟨_,v,hb,_⟩:=h;exact (Array.getElem?_eq_some_iff.1 hb).1
theorem BAt.used{T:TypeId}{r:List Value}{B b:Nat}{p:Value}{L:List UInt8}{w:World}(h:BAt T r B b p L w)(q:Value):BAt T r B b q L (w.setCell ⟨b,0,none⟩ q):=by
 obtain⟨hB,v,hb,hown,hne⟩:=h;refine⟨hB,v,?_,?_,hne⟩
 ·simp[World.setCell,Array.getElem?_modify,hb]
 ·refine hown.kept (row:=some b) ⟨rfl,rfl,rfl,by simp[World.setCell],fun k _ hk=>Below.heap_setCell _ _ _ _ (fun e=>hk (by simp[e]))⟩ ?_;exact Or.inr hne
theorem BAt.put{T:TypeId}{r:List Value}{B b:Nat}{p v v':Value}{L:List UInt8}{w:World}(hB:B<=b)(hb:w.heap[b]?=some (.cells (p :: v :: r).toArray T (0,0)))(hown:w.ownsRow B 5 1 v' L.length (Lib.byteCells L))(hT:T≠5):BAt T r B b p L (w.setCell ⟨b,1,none⟩ v'):=by
 have hne:=Lib.ownBlock_ne hown hb hT;refine⟨hB,v',?_,?_,hne⟩
 ·simp[World.setCell,Array.getElem?_modify,hb]
 ·exact hown.kept (row:=some b) ⟨rfl,rfl,rfl,by simp[World.setCell],fun k _ hk=>Below.heap_setCell _ _ _ _ (fun e=>hk (by simp[e]))⟩ (Or.inr hne)
theorem BAt.below{T:TypeId}{r:List Value}{B b:Nat}{p:Value}{L:List UInt8}{w w':World}(h:BAt T r B b p L w)(hb:Below w.heap.size w w'):BAt T r B b p L w':=by
 obtain⟨hB,v,hbk,hown,hne⟩:=h;have hlt:=(Array.getElem?_eq_some_iff.1 hbk).1;refine⟨hB,v,by rw[hb.block b hlt];exact hbk,?_,hne⟩;obtain⟨hl,h0|⟨g,cap,cur,hv,hBg,hg,r⟩⟩:=hown
 ·exact⟨hl,.inl h0⟩
 ·exact⟨hl,.inr ⟨g,cap,cur,hv,hBg,by rw[hb.block g (Array.getElem?_eq_some_iff.1 hg).1];exact hg,r⟩⟩
theorem BIs.below{T:TypeId}{r:List Value}{B b:Nat}{L:List UInt8}{w w':World}(h:BIs T r B b L w)(hb:Below w.heap.size w w'):BIs T r B b L w':=h.imp (fun h=>h.below hb) (fun h=>h.below hb)
theorem BIs.at_{T:TypeId}{r:List Value}{B b:Nat}{L:List UInt8}{w:World}(h:BIs T r B b L w):∃ p,BAt T r B b p L w:=by
 rcases h with h|h
 ·exact⟨_,h⟩
 ·exact⟨_,h⟩
theorem zOm(b:Nat)(w:World)(h0:w.cell? ⟨b,0,none⟩=some (.pointer (some ⟨b,0,none⟩))):
  Calls Tryz.prog 123 #[.pointer (some ⟨b,0,none⟩)] w fun e w'=>e=.returned (.tuple #[])/\w'=w:=by
 obtain⟨j,hj,_⟩:=Option.map_eq_some_iff.1 zPy;go_enter Tryz.func123,Tryz.ntmps123
 go_wp2;rw[Lib.run_neq_ptr_same w _ Tryz.underlying46 hj];go_wp2;go_end0
 exact⟨rfl,rfl⟩
theorem zMx(T:TypeId)(n:Nat)(b:Nat)(w:World)(h0:w.cell? ⟨b,0,none⟩=some (.pointer none))(hsh:w.shape? b=some (T,n))(hn:0<n)(hl:liesAt Tryz.prog Tryz.prog.depth T (n / Tryz.prog.cellsOf T) 0 49 1=true)(hfz:w.frozen? ⟨b,0,none⟩=false):
  Calls Tryz.prog 123 #[.pointer (some ⟨b,0,none⟩)] w fun e w'=>e=.returned (.tuple #[])/\w'=w.setCell ⟨b,0,none⟩ (.pointer (some ⟨b,0,none⟩)):=by
 obtain⟨j,hj,hjs⟩:=Option.map_eq_some_iff.1 zPy;go_enter Tryz.func123,Tryz.ntmps123
 go_wp2;rw[Lib.run_to_unsafe w ⟨b,0,none⟩ Tryz.underlying46 Tryz.underlying178 hj (by rw[hjs];decide) hsh hn];simp only[Result.andThen];rw[Oper.upon_value];go_wp2;rw[run_callFunc_extern Tryz.func174 (by kernel_rfl) (by kernel_rfl) (by kernel_rfl) (e:=Extern.AbiNoEscape.same) (by kernel_rfl)];rw[Lib.run_noEscape];simp only[Result.andThen];rw[Oper.upon_value];go_wp2;rw[Lib.run_from_unsafe w ⟨b,0,none⟩ Tryz.underlying178 Tryz.underlying46 hj hsh hl];simp only[Result.andThen];rw[Oper.upon_value];go_wp2;go_end0
 exact⟨rfl,rfl⟩
theorem zNw{T:TypeId}{r:List Value}(hT:BTy T r)(B b:Nat)(L:List UInt8)(w:World)(h:BIs T r B b L w):
  Calls Tryz.prog 123 #[.pointer (some ⟨b,0,none⟩)] w fun e w'=>e=.returned (.tuple #[])/\BAt T r B b (.pointer (some ⟨b,0,none⟩)) L w'/\Wk B b w w':=by
 rcases h with h|h
 ·obtain⟨hB,v,hbk,hown,hne⟩:=h;refine (zMx T (r.length+2) b w (by rw[Lib.cell_of_heap hbk];rfl) (by simp[World.shape?,hbk]) (by omega) hT.lies (Lib.frozen_of_heap hbk 0)).mono ?_;rintro e w' ⟨rfl,rfl⟩;exact⟨rfl,BAt.used ⟨hB,v,hbk,hown,hne⟩ _,(Wk.refl B b w).setCell hB 0 _⟩
 ·obtain⟨hB,v,hbk,hown,hne⟩:=h;refine (zOm b w (by rw[Lib.cell_of_heap hbk];rfl)).mono ?_;rintro e w' ⟨rfl,rfl⟩;exact⟨rfl,⟨hB,v,hbk,hown,hne⟩,Wk.refl B b _⟩
theorem zDf{T:TypeId}{r:List Value}(B b:Nat)(L:List UInt8)(w:World)(h:BIs T r B b L w):
  Calls Tryz.prog 14 #[.pointer (some ⟨b,0,none⟩)] w fun e w'=>e=.returned (.int .i64 L.length)/\w'=w:=by
 obtain⟨p,hB,v,hbk,hown,hne⟩:=h.at_
 obtain⟨ao,cap,rfl⟩:∃ ao cap,v=.slice ao L.length cap:=by
  rcases hown.2 with ⟨hv,h0⟩|⟨g,cap,cur,hv,_⟩
  ·exact⟨none,0,by rw[hv,h0]⟩
  ·exact⟨_,_,hv⟩
 have c1:w.cell? ⟨b,1,none⟩=some (.slice ao L.length cap):=by rw[Lib.cell_of_heap hbk];rfl
 clear hbk hown hne;go_enter Tryz.func14,Tryz.ntmps14
 go_wp2;go_ret;exact⟨rfl,rfl⟩
theorem zAY{T:TypeId}{r:List Value}(hT:BTy T r)(B b:Nat)(L s:List UInt8)(w:World)(h:BIs T r B b L w)(hlen:L.length+s.length<=140737488355328)(hBw:B<=w.heap.size):
  Calls Tryz.prog 72 #[.pointer (some ⟨b,0,none⟩),.string (zAc s)] w fun e w'=>e=.returned (.tuple #[.int .i64 s.length,.nilIface])/\BAt T r B b (.pointer (some ⟨b,0,none⟩)) (L ++ s) w'/\Wk B b w w':=by
 obtain⟨i0,hi,hz0,hz1,hz2⟩:=zDg;have HT:=zz hT;have HC:=zz (zNw hT B b L w h);have HI:=zz hi;have hsz:(zAc s).size=s.length:=rfl;clear h hT hi;go_enter Tryz.func72,Tryz.ntmps72
 go_wp2_with fail
 refine HC.out.mono ?_;rintro e w1 ⟨rfl,⟨hB,v,hbk,hown,hne⟩,hb1⟩;have c0:w1.cell? ⟨b,0,none⟩=some (.pointer (some ⟨b,0,none⟩)):=by rw[Lib.cell_of_heap hbk];rfl
 have c1:w1.cell? ⟨b,1,none⟩=some v:=by rw[Lib.cell_of_heap hbk];rfl
 go_wp2_with (at_builtin;refine Lib.wpList_append_own_string _ rfl _ _ 47 9 rfl B 5 i0 Tryz.underlying47 Tryz.underlying9 HI.out hz0 hz1 hz2 _ _ _ rfl hown (zAc s) rfl ?c3 ?c4 ?c5 ?_)
 case c3=>unfold maxLen;rw[hsz];omega
 case c4=>rw[hsz];omega
 case c5=>have:=hb1.1.size;omega
 intro v' w2 hown' hgrow _;have hlt:b<w1.heap.size:=(Array.getElem?_eq_some_iff.1 hbk).1
 have hb2:w2.heap[b]?=some (.cells (.pointer (some ⟨b,0,none⟩) :: v :: r).toArray T (0,0)):=by
  rw[hgrow.block b hlt (fun e=>hne e.symm)];exact hbk
 have d0:w2.cell? ⟨b,0,none⟩=some (.pointer (some ⟨b,0,none⟩)):=by rw[Lib.cell_of_heap hb2];rfl
 have d1:w2.cell? ⟨b,1,none⟩=some v:=by rw[Lib.cell_of_heap hb2];rfl
 have f1:w2.frozen? ⟨b,1,none⟩=false:=Lib.frozen_of_heap hb2 1
 obtain⟨ao,n',cap,rfl⟩:∃ ao n' cap,v'=.slice ao n' cap:=by
  rcases hown'.2 with ⟨hv,_⟩|⟨g,cap,cur,hv,_⟩
  ·exact⟨_,_,_,hv⟩
  ·exact⟨_,_,_,hv⟩
 rw[Lib.strCells_eq,<-Lib.byteCells_append] at hown';have hfin:BAt T r B b (.pointer (some ⟨b,0,none⟩)) (L ++ s) (w2.setCell ⟨b,1,none⟩ (.slice ao n' cap)):=BAt.put hB hb2 (by rw[List.length_append];exact hown') HT.out.ne;have hbel:Wk B b w (w2.setCell ⟨b,1,none⟩ (.slice ao n' cap)):=(hb1.grown hgrow hown (by have:=hb1.1.size;omega)).setCell hB 1 _;have HF:=zz hfin;have HBL:=zz hbel;clear hfin hbel hown' hgrow hown hbk hb2 hb1 c0 c1;go_wp2;go_ret2
 exact⟨rfl,HF.out,HBL.out⟩
theorem zCC{T:TypeId}{r:List Value}(hT:BTy T r)(B b:Nat)(L:List UInt8)(c:UInt8)(w:World)(h:BIs T r B b L w)(hlen:L.length+1<=140737488355328)(hBw:B<=w.heap.size):
  Calls Tryz.prog 87 #[.pointer (some ⟨b,0,none⟩),.int .u8 (c.toNat:Int)] w fun e w'=>e=.returned .nilIface/\BAt T r B b (.pointer (some ⟨b,0,none⟩)) (L ++ [c]) w'/\Wk B b w w':=by
 obtain⟨i0,hi,hz0,hz1,hz2⟩:=zDg;have HT:=zz hT;have HC:=zz (zNw hT B b L w h);have HI:=zz hi;have hcc:Lib.byteCells (L ++ [c])=Lib.byteCells L ++ [.int .u8 (c.toNat:Int)]:=by simp[Lib.byteCells]
 generalize (c.toNat:Int)=x at hcc ⊢;clear h hT hi;go_enter Tryz.func87,Tryz.ntmps87
 go_wp2_with fail
 refine HC.out.mono ?_;rintro e w1 ⟨rfl,⟨hB,v,hbk,hown,hne⟩,hb1⟩;have c0:w1.cell? ⟨b,0,none⟩=some (.pointer (some ⟨b,0,none⟩)):=by rw[Lib.cell_of_heap hbk];rfl
 have c1:w1.cell? ⟨b,1,none⟩=some v:=by rw[Lib.cell_of_heap hbk];rfl
 go_wp2_with (at_builtin;refine wpList_append_own _ rfl _ _ 47 rfl B 5 i0 (.int .u8 0) 1 1 Tryz.underlying47 HI.out hz0 hz1 hz2 rfl (by decide) _ _ _ rfl (hown.alloc _) ⟨w1.heap.size,0,none⟩ 1 1 [.int .u8 x] rfl rfl ?c1 ?c2 ?c3 ?c4 ?c5 ?_)
 case c1=>
  intro j u hj
  match j,hj with
  | 0,hj=>simp at hj;subst hj;simp[Addr.add]
 case c2=>intro u hu;simp at hu;subst hu;rfl
 case c3=>unfold maxLen;omega
 case c4=>omega
 case c5=>have:=hb1.1.size;simp;omega
 intro v' w2 hown' hgrow _;have hlt:b<w1.heap.size:=(Array.getElem?_eq_some_iff.1 hbk).1
 have hb2:w2.heap[b]?=some (.cells (.pointer (some ⟨b,0,none⟩) :: v :: r).toArray T (0,0)):=by
  rw[hgrow.block b (by simp;omega) (fun e=>hne e.symm),Lib.alloc_old w1 _ b hlt];exact hbk
 have d0:w2.cell? ⟨b,0,none⟩=some (.pointer (some ⟨b,0,none⟩)):=by rw[Lib.cell_of_heap hb2];rfl
 have d1:w2.cell? ⟨b,1,none⟩=some v:=by rw[Lib.cell_of_heap hb2];rfl
 have f1:w2.frozen? ⟨b,1,none⟩=false:=Lib.frozen_of_heap hb2 1
 obtain⟨g,cap,rfl⟩:∃ g cap,v'=.slice (some ⟨g,0,none⟩) (L.length+1) cap:=by
  rcases hown'.2 with ⟨_,h0⟩|⟨g,cap,cur,hv,_⟩
  ·omega
  ·exact⟨g,cap,hv⟩
 have HF:Hid (BAt T r B b (.pointer (some ⟨b,0,none⟩)) (L ++ [c]) (w2.setCell ⟨b,1,none⟩ (.slice (some ⟨g,0,none⟩) (L.length+1) cap))):=zz (BAt.put hB hb2 (by rw[List.length_append,hcc];exact hown') HT.out.ne);have HBL:=zz (((hb1.trans (Wk.of_below ((zK _ _).alloc (zQ _) _) (by have:=hb1.1.size;omega))).grown hgrow (hown.alloc _) (by have:=hb1.1.size;simp;omega)).setCell hB 1 (.slice (some ⟨g,0,none⟩) (L.length+1) cap));clear hown' hgrow hown hbk hb2 hb1 c0 c1;go_wp2;go_ret;exact⟨rfl,HF.out,HBL.out⟩
def zMc(B b:Nat)(L:List UInt8)(w:World):Prop:=
 ∃ (T:TypeId) (r:List Value) (p:Value) (g cap:Nat) (cur:Array Value) (fr fr':Nat × Nat),w.heap[b]?=some (.cells (p :: .slice (some ⟨g,0,none⟩) L.length cap :: r).toArray T fr')/\L≠[]/\B<=g/\w.heap[g]?=some (.cells cur 5 fr)/\L.length<=cur.size/\cap≠0/\cap<=maxLen/\L.length<=cap/\∀ (j:Nat) (x:UInt8),L[j]?=some x->cur[j]?=some (Value.int .u8 x.toNat)
theorem BIs.has{T:TypeId}{r:List Value}{B b:Nat}{L:List UInt8}{w:World}(h:BIs T r B b L w)(h0:L≠[]):zMc B b L w:=by
 obtain⟨p,hB,v,hbk,hown,hne⟩:=h.at_;have hl0:L.length≠0:=by simpa using h0
 obtain⟨g,cap,cur,rfl,hbg,hg,hnc,hcm,hcs,htake⟩:∃ g cap cur,v=.slice (some ⟨g,0,none⟩) L.length cap/\B<=g/\w.heap[g]?=some (.cells cur 5 (0,0))/\L.length<=cap/\cap<=maxLen/\cur.size=cap*1/\cur.toList.take (L.length*1)=Lib.byteCells L:=by
  rcases hown.2 with ⟨_,hz⟩|⟨g,cap,cur,hv,r⟩
  ·exact absurd hz hl0
  ·exact⟨g,cap,cur,hv,r⟩
 refine⟨T,r,p,g,cap,cur,(0,0),(0,0),hbk,h0,hbg,hg,by omega,by omega,hcm,hnc,fun j x hx=>?_⟩;have hj:j<L.length:=(List.getElem?_eq_some_iff.1 hx).1;have h9:(cur.toList.take (L.length*1))[j]?=(Lib.byteCells L)[j]?:=by rw[htake]
 rw[List.getElem?_take,if_pos (by omega),Array.getElem?_toList] at h9;rw[h9];simp[Lib.byteCells,hx]
theorem zKz(B b:Nat)(L:List UInt8)(w:World)(h:zMc B b L w):
  Calls Tryz.prog 15 #[.pointer (some ⟨b,0,none⟩)] w fun e w'=>e=.returned (.string (zAc L))/\∃ g n,B<=g/\w'=w.drew.freeze ⟨g,0,none⟩ n:=by
 obtain⟨T,r,p,g,cap,cur,fr,fr',hbk,h0,hbg,hg,hls,hc0,hcm,hnc,hx⟩:=h
 have c1:w.drew.cell? ⟨b,1,none⟩=some (.slice (some ⟨g,0,none⟩) L.length cap):=by
  have:w.drew.heap[b]?=some (.cells (p :: .slice (some ⟨g,0,none⟩) L.length cap :: r).toArray T fr'):=hbk;rw[Lib.cell_of_heap this];rfl
 have hSD:(Builtin.unsafeSliceData_ #[47] 93 #[.slice (some ⟨g,0,none⟩) L.length cap]).run Tryz.prog w.drew=.ok (.pointer (some ⟨g,0,none⟩)) w.drew:=
  Lib.run_unsafeSliceData_row _ _ _ _ _ _ hc0
 have hUS:(Builtin.unsafeString_ #[93,3] 9 #[.pointer (some ⟨g,0,none⟩),.int .i64 L.length]).run Tryz.prog w.drew=.ok (.string ⟨L.toArray⟩) (w.drew.freeze ⟨g,0,none⟩ L.length):=by
  refine Lib.run_unsafeString_row w.drew 93 3 9 5 Tryz.underlying93 (by kernel_rfl) g cur.size (by have hg':w.drew.heap[g]?=some (.cells cur 5 fr):=hg;simp[World.shape?,hg']) L h0 (by omega) (by unfold maxLen at hcm;omega) ?_;intro j x hjx;have hg':w.drew.heap[g]?=some (.cells cur 5 fr):=hg;rw[zAQ,Nat.zero_add,Lib.cell_of_heap hg'];exact hx j x hjx
 have mixed:Tryz.prog.follows .mixedOrders=true:=by kernel_rfl
 clear hx hg hbk;go_enter Tryz.func15,Tryz.ntmps15
 go_wp2;go_region_o
 all_goals (go_wp2;go_ret;exact⟨rfl,g,_,hbg,rfl⟩)
theorem zEk{w:World}{k:Nat}{c:Array Value}{e:TypeId}{fr:Nat × Nat}(h:w.heap[k]?=some (.cells c e fr))(a:Addr)(n:Nat):∃ fr',(w.freeze a n).heap[k]?=some (.cells c e fr'):=by
 unfold World.freeze
 split
 ·exact⟨_,h⟩
 ·by_cases hk:a.block=k
  ·simp only[Array.getElem?_modify,hk,if_pos,h];exact⟨_,rfl⟩
  ·simp only[Array.getElem?_modify,if_neg hk];exact⟨_,h⟩
theorem zMc.freeze{B b:Nat}{L:List UInt8}{w:World}(h:zMc B b L w)(a:Addr)(n:Nat):zMc B b L (w.drew.freeze a n):=by
 obtain⟨T,r,p,g,cap,cur,fr,fr',hbk,h0,hbg,hg,rest⟩:=h;have hbk':w.drew.heap[b]?=_:=hbk;have hg':w.drew.heap[g]?=_:=hg;obtain⟨fr1,h1⟩:=zEk hbk' a n;obtain⟨fr2,h2⟩:=zEk hg' a n;exact⟨T,r,p,g,cap,cur,fr2,fr1,h1,h0,hbg,h2,rest⟩
theorem zBg(B b:Nat)(L:List UInt8)(w:World)(h:zMc B b L w):
  Calls Tryz.prog 15 #[.pointer (some ⟨b,0,none⟩)] w fun e w'=>e=.returned (.string (zAc L))/\zMc B b L w'/\Below B w w':=by
 refine (zKz B b L w h).mono ?_;rintro e w' ⟨rfl,g,n,hB,rfl⟩;exact⟨rfl,h.freeze _ _,Lib.below_freeze (Below.drew (zK B w)) (p:=⟨g,0,none⟩) hB _⟩
theorem zHP:(Tryz.prog.info? 139).map (·.size)=some 1:=by kernel_rfl
theorem zKw(w:World)(v:Value)(h:zAf w v [1]):
  Calls Tryz.prog 176 #[v,.int .i64 0] w fun e w'=>Below w.heap.size w w'/\∃ v',e=.returned (.tuple #[v',.bool true])/\zAf w' v' [1]:=by
 have HC1:=zz (zAC w v [1] h);have hmk:(Instr.makeSlice 26 (.int .i64 2) (.int .i64 2)).run Tryz.prog w=.ok (.slice (some ⟨w.heap.size,0,none⟩) 2 2) (w.alloc (.cells (zAi (List.replicate 2 0)) 139)):=zA2 w 2 (by decide);obtain⟨w1,hw1⟩:∃ w1,w1=w.alloc (.cells (zAi (List.replicate 2 0)) 139):=⟨_,rfl⟩;have hb1:Below w.heap.size w w1:=by rw[hw1];exact (zK _ _).alloc (zQ _) _
 have hB1:Blk w1 w.heap.size (zAi [0,0]) 139:=by rw[hw1];exact Blk.new _ _ _
 rw[<-hw1] at hmk;have HB1:=zz hb1;have HBL1:=zz hB1;clear h hw1 hb1 hB1;go_enter Tryz.func176,Tryz.ntmps176
 go_wp2_with fail
 refine HC1.out.mono ?_;rintro r w2 ⟨rfl,u,rfl,hu⟩;rw[zDx 1 (by decide)] at hu;have hbl:((zA7 (val [1]):Nat):Int)=1:=by rw[show val [1]=1 from rfl,zA0 (n:=1) (k:=1) (by decide) (by decide) (by decide)];rfl
 have hlen:=zBs w2 u [1] hu (by decide);rw[hbl] at hlen;have HLEN:=zz hlen;obtain⟨b1,o1,k1,rfl,hlt1,hk1,_,hc1⟩:=hu.one;have d1:=(HB1.out.cell (p:=⟨b1,o1,none⟩) hlt1).trans hc1
 have hcopy:∀ ty,(Builtin.copy_ #[26,26] ty #[.slice (some ⟨w2.heap.size,0,none⟩) 2 2,.slice (some ⟨b1,o1,none⟩) 1 k1]).run Tryz.prog w1=.ok (.int .i64 1) (w1.setCell ⟨w2.heap.size,0,none⟩ (.int .u32 1)):=fun ty=>
  run_copy_cells (P:=Tryz.prog) w1 26 26 ty 139 w2.heap.size 0 2 2 ⟨b1,o1,none⟩ 1 k1 [.int .u32 1] Tryz.underlying26 zHP rfl (fun j v hj=>by
   match j,hj with
   | 0,hj=>simp at hj;subst hj;exact d1) (fun j hj=>by
   obtain rfl:j=0:=by simpa using hj
   rw[HBL1.out.cell];rfl) (fun j hj=>HBL1.out.free _) (fun x hx=>by simp at hx;subst hx;rfl)
 obtain⟨w4,hw4⟩:∃ w4,w4=w1.setCell ⟨w2.heap.size,0,none⟩ (.int .u32 1):=⟨_,rfl⟩;rw[<-hw4] at hcopy;have hB4:Blk w4 w2.heap.size (zAi [1,0]) 139:=by rw[hw4];exact HBL1.out.set 0 _
 have hb4:Below w2.heap.size w2 w4:=by rw[hw4];exact HB1.out.setCell (zQ _) _
 have HB4:=zz hb4;have HBL4:=zz hB4;clear hu HC1 hlen hbl hc1 d1 hw4 hb4 hB4;go_wp2_with fail
 refine HLEN.out.mono ?_;rintro r w3 ⟨rfl,rfl⟩;have HUP:=zz hmk;have HFIN:=HBL4;have HBF:=HB4;have HCF:=zz (zAC _ _ _ (HFIN.out.limbs (n:=2) (by unfold Fit;decide) rfl (by decide)));rw[show zDY [1,0]=[1] by decide] at HCF;go_wp2_with fail
 refine HCF.out.mono ?_;rintro r w9 ⟨rfl,v',rfl,hl'⟩;have HLL:=zz hl';clear hl';go_wp2;exact bodyPost_ret (v:=.tuple #[v',.bool true]) (by simp[results,Tryz.results176,go_sem]) rfl ⟨HBF.out,_,rfl,HLL.out⟩
theorem zNQ(w:World)(v:Value)(h:zAf w v [5]):
  Calls Tryz.prog 176 #[v,.int .i64 1] w fun e w'=>Below w.heap.size w w'/\∃ v',e=.returned (.tuple #[v',.bool true])/\zAf w' v' [10]:=by
 have HC1:=zz (zAC w v [5] h);have hmk:(Instr.makeSlice 26 (.int .i64 2) (.int .i64 2)).run Tryz.prog w=.ok (.slice (some ⟨w.heap.size,0,none⟩) 2 2) (w.alloc (.cells (zAi (List.replicate 2 0)) 139)):=zA2 w 2 (by decide);obtain⟨w1,hw1⟩:∃ w1,w1=w.alloc (.cells (zAi (List.replicate 2 0)) 139):=⟨_,rfl⟩;have hb1:Below w.heap.size w w1:=by rw[hw1];exact (zK _ _).alloc (zQ _) _
 have hB1:Blk w1 w.heap.size (zAi [0,0]) 139:=by rw[hw1];exact Blk.new _ _ _
 rw[<-hw1] at hmk;have HB1:=zz hb1;have HBL1:=zz hB1;clear h hw1 hb1 hB1;go_enter Tryz.func176,Tryz.ntmps176
 go_wp2_with fail
 refine HC1.out.mono ?_;rintro r w2 ⟨rfl,u,rfl,hu⟩;rw[zDx 5 (by decide)] at hu;have hbl:((zA7 (val [5]):Nat):Int)=3:=by rw[show val [5]=5 from rfl,zA0 (n:=5) (k:=3) (by decide) (by decide) (by decide)];rfl
 have hlen:=zBs w2 u [5] hu (by decide);rw[hbl] at hlen;have HLEN:=zz hlen;obtain⟨b1,o1,k1,rfl,hlt1,hk1,_,hc1⟩:=hu.one;have d1:=(HB1.out.cell (p:=⟨b1,o1,none⟩) hlt1).trans hc1
 have hcopy:∀ ty,(Builtin.copy_ #[26,26] ty #[.slice (some ⟨w2.heap.size,0,none⟩) 2 2,.slice (some ⟨b1,o1,none⟩) 1 k1]).run Tryz.prog w1=.ok (.int .i64 1) (w1.setCell ⟨w2.heap.size,0,none⟩ (.int .u32 5)):=fun ty=>
  run_copy_cells (P:=Tryz.prog) w1 26 26 ty 139 w2.heap.size 0 2 2 ⟨b1,o1,none⟩ 1 k1 [.int .u32 5] Tryz.underlying26 zHP rfl (fun j v hj=>by
   match j,hj with
   | 0,hj=>simp at hj;subst hj;exact d1) (fun j hj=>by
   obtain rfl:j=0:=by simpa using hj
   rw[HBL1.out.cell];rfl) (fun j hj=>HBL1.out.free _) (fun x hx=>by simp at hx;subst hx;rfl)
 obtain⟨w4,hw4⟩:∃ w4,w4=w1.setCell ⟨w2.heap.size,0,none⟩ (.int .u32 5):=⟨_,rfl⟩;rw[<-hw4] at hcopy;have hB4:Blk w4 w2.heap.size (zAi [5,0]) 139:=by rw[hw4];exact HBL1.out.set 0 _
 have hb4:Below w2.heap.size w2 w4:=by rw[hw4];exact HB1.out.setCell (zQ _) _
 have HB4:=zz hb4;have HBL4:=zz hB4;clear hu HC1 hlen hbl hc1 d1 hw4 hb4 hB4;go_wp2_with fail
 refine HLEN.out.mono ?_;rintro r w3 ⟨rfl,rfl⟩;have HUP:=zz hmk;go_upto_region 13 with fail
 refine wp_loop_rounds 3 ?_;rw[rounds_succ];have c1:=HBL4.out.cell 1;have f1:=HBL4.out.free 1;have hBn:Blk (w4.setCell ⟨w3.heap.size,1,none⟩ (.int .u32 0)) w3.heap.size (zAi [5,0]) 139:=HBL4.out.set 1 _;have hbn:=HB4.out.setCell (p:=⟨w3.heap.size,1,none⟩) (zQ _) (.int .u32 0);have HBLa1:=zz hBn;have HBa1:=zz hbn;clear hBn hbn;simp only[zAi,zAP,List.map,zv,zk,zx] at c1;go_upto_region 18 with fail
 clear c1 f1;generalize (w4.setCell ⟨w3.heap.size,1,none⟩ (.int .u32 0))=wa1 at HBLa1 HBa1 ⊢;have c1:=HBLa1.out.cell 1;have c0:=HBLa1.out.cell 0;have f1:=HBLa1.out.free 1;simp only[zAi,zAP,List.map,zv,zk,zx] at c1 c0;have o1:bits .or .u32 0 0=0:=by decide
 have hBn:Blk (wa1.setCell ⟨w3.heap.size,1,none⟩ (.int .u32 0)).drew w3.heap.size (zAi [5,0]) 139:=(HBLa1.out.set 1 _).drew;have hbn:=(HBa1.out.setCell (p:=⟨w3.heap.size,1,none⟩) (zQ _) (.int .u32 0)).drew;have HBLb1:=zz hBn;have HBb1:=zz hbn;clear hBn hbn;go_region
 clear c1 c0 f1 o1;generalize (wa1.setCell ⟨w3.heap.size,1,none⟩ (.int .u32 0)).drew=wb1 at HBLb1 HBb1 ⊢;clear HBa1 HBLa1;go_wp2;rw[rounds_succ];have c0:=HBLb1.out.cell 0;have f0:=HBLb1.out.free 0;have hBn:Blk (wb1.setCell ⟨w3.heap.size,0,none⟩ (.int .u32 10)) w3.heap.size (zAi [10,0]) 139:=HBLb1.out.set 0 _;have hbn:=HBb1.out.setCell (p:=⟨w3.heap.size,0,none⟩) (zQ _) (.int .u32 10);have HBLa0:=zz hBn;have HBa0:=zz hbn;clear hBn hbn;simp only[zAi,zAP,List.map,zv,zk,zx] at c0;go_upto_region 19 with fail
 clear c0 f0;generalize (wb1.setCell ⟨w3.heap.size,0,none⟩ (.int .u32 10))=wa0 at HBLa0 HBa0 ⊢;go_wp2;rw[rounds_succ];have HFIN:=HBLa0;have HBF:=HBa0;have HCF:=zz (zAC _ _ _ (HFIN.out.limbs (n:=2) (by unfold Fit;decide) rfl (by decide)));rw[show zDY [10,0]=[10] by decide] at HCF;go_wp2_with fail
 refine HCF.out.mono ?_;rintro r w9 ⟨rfl,v',rfl,hl'⟩;have HLL:=zz hl';clear hl';go_wp2;exact bodyPost_ret (v:=.tuple #[v',.bool true]) (by simp[results,Tryz.results176,go_sem]) rfl ⟨HBF.out,_,rfl,HLL.out⟩
theorem zJ1(w:World)(v:Value)(h:zAf w v [15]):
  Calls Tryz.prog 176 #[v,.int .i64 70] w fun e w'=>Below w.heap.size w w'/\∃ v',e=.returned (.tuple #[v',.bool true])/\zAf w' v' [0,0,960]:=by
 have HC1:=zz (zAC w v [15] h);have hmk:(Instr.makeSlice 26 (.int .i64 4) (.int .i64 4)).run Tryz.prog w=.ok (.slice (some ⟨w.heap.size,0,none⟩) 4 4) (w.alloc (.cells (zAi (List.replicate 4 0)) 139)):=zA2 w 4 (by decide);obtain⟨w1,hw1⟩:∃ w1,w1=w.alloc (.cells (zAi (List.replicate 4 0)) 139):=⟨_,rfl⟩;have hb1:Below w.heap.size w w1:=by rw[hw1];exact (zK _ _).alloc (zQ _) _
 have hB1:Blk w1 w.heap.size (zAi [0,0,0,0]) 139:=by rw[hw1];exact Blk.new _ _ _
 rw[<-hw1] at hmk;have HB1:=zz hb1;have HBL1:=zz hB1;clear h hw1 hb1 hB1;go_enter Tryz.func176,Tryz.ntmps176
 go_wp2_with fail
 refine HC1.out.mono ?_;rintro r w2 ⟨rfl,u,rfl,hu⟩;rw[zDx 15 (by decide)] at hu;have hbl:((zA7 (val [15]):Nat):Int)=4:=by rw[show val [15]=15 from rfl,zA0 (n:=15) (k:=4) (by decide) (by decide) (by decide)];rfl
 have hlen:=zBs w2 u [15] hu (by decide);rw[hbl] at hlen;have HLEN:=zz hlen;obtain⟨b1,o1,k1,rfl,hlt1,hk1,_,hc1⟩:=hu.one;have d1:=(HB1.out.cell (p:=⟨b1,o1,none⟩) hlt1).trans hc1
 have hcopy:∀ ty,(Builtin.copy_ #[26,26] ty #[.slice (some ⟨w2.heap.size,2,none⟩) 2 2,.slice (some ⟨b1,o1,none⟩) 1 k1]).run Tryz.prog w1=.ok (.int .i64 1) (w1.setCell ⟨w2.heap.size,2,none⟩ (.int .u32 15)):=fun ty=>
  run_copy_cells (P:=Tryz.prog) w1 26 26 ty 139 w2.heap.size 2 2 2 ⟨b1,o1,none⟩ 1 k1 [.int .u32 15] Tryz.underlying26 zHP rfl (fun j v hj=>by
   match j,hj with
   | 0,hj=>simp at hj;subst hj;exact d1) (fun j hj=>by
   obtain rfl:j=0:=by simpa using hj
   rw[HBL1.out.cell];rfl) (fun j hj=>HBL1.out.free _) (fun x hx=>by simp at hx;subst hx;rfl)
 obtain⟨w4,hw4⟩:∃ w4,w4=w1.setCell ⟨w2.heap.size,2,none⟩ (.int .u32 15):=⟨_,rfl⟩;rw[<-hw4] at hcopy;have hB4:Blk w4 w2.heap.size (zAi [0,0,15,0]) 139:=by rw[hw4];exact HBL1.out.set 2 _
 have hb4:Below w2.heap.size w2 w4:=by rw[hw4];exact HB1.out.setCell (zQ _) _
 have HB4:=zz hb4;have HBL4:=zz hB4;clear hu HC1 hlen hbl hc1 d1 hw4 hb4 hB4;go_wp2_with fail
 refine HLEN.out.mono ?_;rintro r w3 ⟨rfl,rfl⟩;have HUP:=zz hmk;go_upto_region 13 with fail
 refine wp_loop_rounds 5 ?_;rw[rounds_succ];have c3:=HBL4.out.cell 3;have f3:=HBL4.out.free 3;have hBn:Blk (w4.setCell ⟨w3.heap.size,3,none⟩ (.int .u32 0)) w3.heap.size (zAi [0,0,15,0]) 139:=HBL4.out.set 3 _;have hbn:=HB4.out.setCell (p:=⟨w3.heap.size,3,none⟩) (zQ _) (.int .u32 0);have HBLa3:=zz hBn;have HBa3:=zz hbn;clear hBn hbn;simp only[zAi,zAP,List.map,zv,zk,zx] at c3;go_upto_region 18 with fail
 clear c3 f3;generalize (w4.setCell ⟨w3.heap.size,3,none⟩ (.int .u32 0))=wa3 at HBLa3 HBa3 ⊢;have c3:=HBLa3.out.cell 3;have c2:=HBLa3.out.cell 2;have f3:=HBLa3.out.free 3;simp only[zAi,zAP,List.map,zv,zk,zx] at c3 c2;have o3:bits .or .u32 0 0=0:=by decide
 have hBn:Blk (wa3.setCell ⟨w3.heap.size,3,none⟩ (.int .u32 0)).drew w3.heap.size (zAi [0,0,15,0]) 139:=(HBLa3.out.set 3 _).drew;have hbn:=(HBa3.out.setCell (p:=⟨w3.heap.size,3,none⟩) (zQ _) (.int .u32 0)).drew;have HBLb3:=zz hBn;have HBb3:=zz hbn;clear hBn hbn;go_region
 clear c3 c2 f3 o3;generalize (wa3.setCell ⟨w3.heap.size,3,none⟩ (.int .u32 0)).drew=wb3 at HBLb3 HBb3 ⊢;clear HBa3 HBLa3;go_wp2;rw[rounds_succ];have c2:=HBLb3.out.cell 2;have f2:=HBLb3.out.free 2;have hBn:Blk (wb3.setCell ⟨w3.heap.size,2,none⟩ (.int .u32 960)) w3.heap.size (zAi [0,0,960,0]) 139:=HBLb3.out.set 2 _;have hbn:=HBb3.out.setCell (p:=⟨w3.heap.size,2,none⟩) (zQ _) (.int .u32 960);have HBLa2:=zz hBn;have HBa2:=zz hbn;clear hBn hbn;simp only[zAi,zAP,List.map,zv,zk,zx] at c2;go_upto_region 18 with fail
 clear c2 f2;generalize (wb3.setCell ⟨w3.heap.size,2,none⟩ (.int .u32 960))=wa2 at HBLa2 HBa2 ⊢;have c2:=HBLa2.out.cell 2;have c1:=HBLa2.out.cell 1;have f2:=HBLa2.out.free 2;simp only[zAi,zAP,List.map,zv,zk,zx] at c2 c1;have o2:bits .or .u32 960 0=960:=by decide
 have hBn:Blk (wa2.setCell ⟨w3.heap.size,2,none⟩ (.int .u32 960)).drew w3.heap.size (zAi [0,0,960,0]) 139:=(HBLa2.out.set 2 _).drew;have hbn:=(HBa2.out.setCell (p:=⟨w3.heap.size,2,none⟩) (zQ _) (.int .u32 960)).drew;have HBLb2:=zz hBn;have HBb2:=zz hbn;clear hBn hbn;go_region
 clear c2 c1 f2 o2;generalize (wa2.setCell ⟨w3.heap.size,2,none⟩ (.int .u32 960)).drew=wb2 at HBLb2 HBb2 ⊢;clear HBa2 HBLa2;go_wp2;rw[rounds_succ];have c1:=HBLb2.out.cell 1;have f1:=HBLb2.out.free 1;have hBn:Blk (wb2.setCell ⟨w3.heap.size,1,none⟩ (.int .u32 0)) w3.heap.size (zAi [0,0,960,0]) 139:=HBLb2.out.set 1 _;have hbn:=HBb2.out.setCell (p:=⟨w3.heap.size,1,none⟩) (zQ _) (.int .u32 0);have HBLa1:=zz hBn;have HBa1:=zz hbn;clear hBn hbn;simp only[zAi,zAP,List.map,zv,zk,zx] at c1;go_upto_region 18 with fail
 clear c1 f1;generalize (wb2.setCell ⟨w3.heap.size,1,none⟩ (.int .u32 0))=wa1 at HBLa1 HBa1 ⊢;have c1:=HBLa1.out.cell 1;have c0:=HBLa1.out.cell 0;have f1:=HBLa1.out.free 1;simp only[zAi,zAP,List.map,zv,zk,zx] at c1 c0;have o1:bits .or .u32 0 0=0:=by decide
 have hBn:Blk (wa1.setCell ⟨w3.heap.size,1,none⟩ (.int .u32 0)).drew w3.heap.size (zAi [0,0,960,0]) 139:=(HBLa1.out.set 1 _).drew;have hbn:=(HBa1.out.setCell (p:=⟨w3.heap.size,1,none⟩) (zQ _) (.int .u32 0)).drew;have HBLb1:=zz hBn;have HBb1:=zz hbn;clear hBn hbn;go_region
 clear c1 c0 f1 o1;generalize (wa1.setCell ⟨w3.heap.size,1,none⟩ (.int .u32 0)).drew=wb1 at HBLb1 HBb1 ⊢;clear HBa1 HBLa1;go_wp2;rw[rounds_succ];have c0:=HBLb1.out.cell 0;have f0:=HBLb1.out.free 0;have hBn:Blk (wb1.setCell ⟨w3.heap.size,0,none⟩ (.int .u32 0)) w3.heap.size (zAi [0,0,960,0]) 139:=HBLb1.out.set 0 _;have hbn:=HBb1.out.setCell (p:=⟨w3.heap.size,0,none⟩) (zQ _) (.int .u32 0);have HBLa0:=zz hBn;have HBa0:=zz hbn;clear hBn hbn;simp only[zAi,zAP,List.map,zv,zk,zx] at c0;go_upto_region 19 with fail
 clear c0 f0;generalize (wb1.setCell ⟨w3.heap.size,0,none⟩ (.int .u32 0))=wa0 at HBLa0 HBa0 ⊢;go_wp2;rw[rounds_succ];have HFIN:=HBLa0;have HBF:=HBa0;have HCF:=zz (zAC _ _ _ (HFIN.out.limbs (n:=4) (by unfold Fit;decide) rfl (by decide)));rw[show zDY [0,0,960,0]=[0,0,960] by decide] at HCF;go_wp2_with fail
 refine HCF.out.mono ?_;rintro r w9 ⟨rfl,v',rfl,hl'⟩;have HLL:=zz hl';clear hl';go_wp2;exact bodyPost_ret (v:=.tuple #[v',.bool true]) (by simp[results,Tryz.results176,go_sem]) rfl ⟨HBF.out,_,rfl,HLL.out⟩
end Go.Proofs.YtcanfakaigpkgaaGreatDoor.D
