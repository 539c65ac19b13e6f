/-
  Of the proof that the law DiagUnlike answers true at every two values: a part, without conditions of its own.
-/
import Derived.Test.YtcanfakaigpkgaaGreatDoorPart02
import Derived.Test.YtcanfakaigpkgaaGreatDoorPart01
import Derived.Lib.ItoaNum
import Derived.Outline
set_option linter.unusedVariables false
set_option linter.unusedSimpArgs false
set_option maxRecDepth 100000
set_option maxHeartbeats 8000000
namespace Go.Proofs.YtcanfakaigpkgaaGreatDoor.D
open Go Go.RowKit Limb
theorem zLK(x:Nat):val [x % 4294967296,x / 4294967296]=x:=by simp[val];omega
theorem zIe{x:Nat}(hx:x<18446744073709551616):Fit [x % 4294967296,x / 4294967296]:=by
 intro y hy;simp only[List.mem_cons,List.not_mem_nil,or_false] at hy;rcases hy with rfl|rfl <;> omega
theorem zAH(w:World)(x:Nat)(hx:x<18446744073709551616):
  Calls Tryz.prog 137 #[.int .u64 (x:Int)] w fun e w'=>Below w.heap.size w w'/\∃ v',e=.returned v'/\zAf w' v' (zAb x):=by
 have hB:=Blk.new w (zAi [x % 4294967296,x / 4294967296]) 139;have hl:=zCE hB (zIe hx) 2 2 (by simp) (zQ _) (by omega);have HC:=zz (zAC _ _ _ hl)
 have HT:Hid (zDY (List.take 2 [x % 4294967296,x / 4294967296])=zAb x):=zz (by
  rw[List.take_of_length_le (by simp),zAv (zIe hx),zLK])
 have HE:Hid (zAi [x % 4294967296,x / 4294967296]=#[.int .u32 ((x:Int) % 4294967296),.int .u32 ((x:Int) / 4294967296)]):=zz (by simp[zAi,zAP]);clear hB hl;go_enter Tryz.func137,Tryz.ntmps137
 go_wp2_with fail
 have hc:=HC.out;rw[HE.out] at hc;refine hc.mono ?_;rintro e w1 ⟨rfl,v1,rfl,h1⟩;rw[HT.out] at h1;have H1:=zz h1;clear h1;go_wp2;go_ret;rw[<-HE.out] at H1 ⊢;exact⟨(zK _ _).alloc (zQ _) _,v1,rfl,H1.out⟩
theorem zEj(x:Nat)(h:x<4294967296):Lib.bitLen x=zA7 x:=by
 by_cases h0:x=0
 ·subst h0;rw[zCa];rfl
 ·obtain⟨a,b,c⟩:=Lib.bitLenAux_bounds 64 x (by omega) h0;exact (zA0 a b c).symm
theorem zBs(w:World)(v:Value)(l:List Nat)(h:zAf w v l)(hl:l.length<=34359738368):
  Calls Tryz.prog 78 #[v] w fun e w'=>w'=w/\e=.returned (.int .i64 (zA7 (val l):Nat)):=by
 have hfl:=h.fit;have HC:=zz (zAC w v l h);rw[zAv hfl] at HC;have hTl:(zAb (val l)).length<=l.length:=by rw[<-zAv hfl,zAG];exact zBT l
 clear h hfl;generalize val l=x at HC hTl ⊢;go_enter Tryz.func78,Tryz.ntmps78
 go_wp2_with fail
 refine HC.out.mono ?_;rintro e w1 ⟨rfl,v1,rfl,h1⟩;obtain⟨hf,hv⟩:=h1;by_cases hx:x=0
 ·subst hx;rw[zAn] at hv;rcases hv with ⟨⟨p,rfl⟩,-⟩|⟨blk,off,cap,rfl,-⟩
  ·go_wp2;go_ret;exact⟨rfl,by rw[zCa];rfl⟩
  ·go_wp2;go_ret;exact⟨rfl,by rw[zCa];rfl⟩
 ·have hp:=zAk hx;rcases hv with ⟨⟨p,rfl⟩,h⟩|⟨blk,off,cap,rfl,h1,h2,h3,h4⟩
  ·rw[h] at hp;simp at hp
  ·have hc:=h4 ((zAb x).length - 1) (by omega)
   have hfx:=hf ((zAb x).getD ((zAb x).length - 1) 0) (by
    rw[zw,zZ (by omega)];exact List.getElem_mem _)
   have HB:=zz (zE5 hx);have hble:=zCF (k:=32) hfx;have HL:=zz (Tryz.bits_Len32 (((zAb x).getD ((zAb x).length - 1) 0:Nat):Int) w1 (by omega) (by omega));rw[Int.toNat_natCast,zEj _ hfx] at HL;generalize (zAb x).getD ((zAb x).length - 1) 0=y at hc HB hble HL;clear h4 hf hfx HC;generalize (zAb x).length=n at *;have g1:((n:Int) - 1).toNat=n - 1:=by omega
   have g2:(0:Int)<=(n:Int) - 1:=by omega
   have g3:(n:Int) - 1<(n:Int):=by omega
   have g4:IntKind.i64.wrap ((n:Int) - 1)=(n:Int) - 1:=zY _ (by omega);have g5:((n:Int) == 0)=false:=beq_eq_false_iff_ne.2 (by omega);have g6:IntKind.i64.wrap (32*((n:Int) - 1))=32*((n:Int) - 1):=zY _ (by omega);have g7:IntKind.i64.wrap (32*((n:Int) - 1)+(zA7 y:Int))=32*((n:Int) - 1)+(zA7 y:Int):=zY _ (by omega);go_wp2_with fail
   refine HL.out.mono ?_;rintro e w2 ⟨rfl,rfl⟩;go_wp2;go_ret;refine⟨rfl,?_⟩;rw[HB.out];congr 2;simp;omega
theorem zDn(w:World)(v:Value)(l:List Nat)(h:zAf w v l)(hx:val l<18446744073709551616):
  Calls Tryz.prog 161 #[v] w fun e w'=>w'=w/\e=.returned (.tuple #[.int .u64 (val l:Nat),.bool true]):=by
 have hfl:=h.fit;have HC:=zz (zAC w v l h);rw[zAv hfl] at HC;clear h hfl;generalize val l=x at HC hx ⊢;have hTl:(zAb x).length<=2:=zAq (by omega);go_enter Tryz.func161,Tryz.ntmps161
 go_wp2_with fail
 refine HC.out.mono ?_;rintro e w1 ⟨rfl,v1,rfl,h1⟩;have HX:=zz h1;obtain⟨b,c,rfl⟩:=h1.slice;clear HC;have HN:Hid (∃ n,n=(zAb x).length):=zz ⟨_,rfl⟩;obtain⟨n,hn⟩:=HN.out;have HN':=zz hn;rw[<-hn] at hTl HX ⊢;clear hn h1 HN;go_wp2;go_loop [4,5,13] (fun y _ i=>∃ k:Nat,k<=n/\i=.int .i64 k/\y=.int .u64 (val ((zAb x).take k):Nat)) (fun _ _ i=>n - (intOf i).toNat)
 case atStart=>exact⟨0,by omega,rfl,rfl⟩
 case round=>
  obtain⟨k,hk,rfl,rfl⟩:=hrel;by_cases h1:k<n
  ·have g1:(k:Int)<(n:Int):=by omega
   obtain⟨hf,⟨h,h'⟩|⟨blk,off,cap,h,h1',h2,h3,h4⟩⟩:=HX.out
   ·rw[h'] at HN';have:=HN'.out;simp at this;omega
   ·simp only[Value.slice.injEq] at h;obtain⟨rfl,-,rfl⟩:=h;have hc:=h4 k (by rw[<-HN'.out];exact h1);clear h4;have g2:IntKind.i64.wrap (32*(k:Int))=32*(k:Int):=zY _ (by omega);have hs:=zD1 (zAb x) k (by rw[<-HN'.out];exact h1);have hlt:=zBY (zBI (zAB x) k);rw[List.length_take,<-HN'.out,Nat.min_eq_left (by omega),zD3] at hlt;rw[zD3] at hs
    have hlt2:val ((zAb x).take (k+1))<18446744073709551616:=by
     have:=zBY (zBI (zAB x) (k+1));rw[List.length_take,<-HN'.out,Nat.min_eq_left (by omega)] at this;have h5:4294967296 ^ (k+1)<=4294967296 ^ 2:=Nat.pow_le_pow_right (by omega) (by omega);omega
    have hy:(zAb x).getD k 0<4294967296:=by
     rw[zw,zZ (by rw[<-HN'.out];exact h1)];exact zAB x _ (List.getElem_mem _)
    have HS:=zz hs;clear hs;have g3:IntKind.u64.wrap ((zAb x).getD k 0:Nat)=((zAb x).getD k 0:Nat):=by rw[IntKind.wrap_u64];omega
    generalize (zAb x).getD k 0=y at hc HS hy g3
    have g4:IntKind.u64.wrap ((y:Int)*2 ^ (32*k))=((y*2 ^ (32*k):Nat):Int):=by
     rw[IntKind.wrap_u64,show ((y:Int)*2 ^ (32*k))=((y*2 ^ (32*k):Nat):Int) by simp,Int.emod_eq_of_lt (by omega) (by have:=HS.out;rw[Nat.mul_comm] at this;omega)]
    have g5:=zEW (val ((zAb x).take k)) y (32*k) hlt (by have:=HS.out;rw[Nat.mul_comm] at this;omega);have HG:=zz g5;clear g5;have HG4:=zz g4;clear g4;go_wp2;go_round
    case rel=>
     refine⟨k+1,by omega,by simp,?_⟩;rw[HG4.out,HG.out,HS.out,Nat.mul_comm]
    case measure=>simp[intOf];omega
  ·obtain rfl:k=n:=by omega
   go_wp2;refine bodyPost_ret (v:=.tuple #[.int .u64 (val ((zAb x).take k):Nat),.bool true]) (by simp[results,Tryz.results161,go_sem]) rfl ⟨rfl,?_⟩;rw[List.take_of_length_le (by rw[<-HN'.out];exact zQ _),zAe]
theorem zD8(a b:Value)(ha:∀ x,a≠.int .u32 x)(hb:∀ x,b≠.int .u32 x):∀ (i:Nat) (x:Int),(#[a,b]:Array Value)[i]?≠some (.int .u32 x)
 | 0,x,h=>ha x (by simpa using h)
 | 1,x,h=>hb x (by simpa using h)
 | i+2,x,h=>by simp at h
theorem zEN(w:World)(v:Value)(l:List Nat)(h:zAf w v l)(hl:l.length<=34359738368):
  Calls Tryz.prog 51 #[.agg #[.bool false,v]] w fun e w'=>Below w.heap.size w w'/\∃ (s:Int) (v':Value),e=.returned (.tuple #[.int .i8 s,v'])/\0<=s/\zAf w' v' (zAb (val l))/\New w.heap.size v':=by
 have hb:Below w.heap.size w (w.alloc (.cells #[.bool false,v] 28)):=(zK _ _).alloc (zQ _) _;have HC:=zz (zBi _ v l (h.below hb) hl);have HT:=zz (zAv h.fit);clear h;have HB:=zz hb;clear hb;go_enter Tryz.func51,Tryz.ntmps51
 go_wp2_with fail
 refine HC.out.mono ?_;rintro e w1 ⟨hb1,v1,rfl,h1,hn1⟩;have HN1:=zz (hn1.mono (B':=w.heap.size) (by simp));clear hn1;have HB1:=zz (HB.out.trans (hb1.mono (by simp)))
 have c0:w1.cell? ⟨w.heap.size,0,none⟩=some (.bool false):=by
  rw[hb1.cell (p:=⟨w.heap.size,0,none⟩) (by simp)];exact (Blk.new w #[.bool false,v] 28).cell 0
 rw[HT.out] at h1;have H1:=zz h1;clear hb1 HB HC;obtain⟨b,c,rfl⟩:=h1.slice;clear h1;by_cases hx:val l=0
 ·have h0:(zAb (val l)).length=0:=by rw[hx,zAn];rfl
  rw[h0] at H1 ⊢;go_wp2;refine bodyPost_ret (v:=.tuple #[.int .i8 0,.slice none 0 0]) (by simp[results,Tryz.results51,go_sem]) rfl ⟨HB1.out,0,_,rfl,by omega,?_⟩;rw[hx,zAn];exact⟨zAf.nil _,New.none _ _ _⟩
 ·have h0:(((zAb (val l)).length:Int) == 0)=false:=beq_eq_false_iff_ne.2 (by have:=zAk hx;omega);generalize (zAb (val l)).length=n at H1 h0 HN1 ⊢;go_wp2;refine bodyPost_ret (v:=.tuple #[.int .i8 1,.slice b n c]) (by simp[results,Tryz.results51,go_sem]) rfl ⟨HB1.out,1,_,rfl,by omega,H1.out,HN1.out⟩
theorem zFx(w:World)(s:Int)(hs:0<=s)(b:Option Addr)(n c:Nat):
  Calls Tryz.prog 162 #[.int .i8 s,.slice b n c] w fun e w'=>Below w.heap.size w w'/\e=.returned (.agg #[.bool false,.slice b n c]):=by
 have h0:(s == -1)=false:=beq_eq_false_iff_ne.2 (by omega);go_enter Tryz.func162,Tryz.ntmps162
 go_wp2;refine bodyPost_ret (v:=.agg #[.bool false,.slice b n c]) (by simp[results,Tryz.results162,go_sem]) rfl ⟨?_,rfl⟩;exact (zK _ _).alloc (zQ _) _
theorem zD9(w:World)(v:Value)(l:List Nat)(h:zAf w v l)(hl:l.length<=34359738368):
  Calls Tryz.prog 108 #[.agg #[.bool false,v]] w fun e w'=>Below w.heap.size w w'/\∃ v':Value,e=.returned (.agg #[.bool false,v'])/\zAf w' v' (zAb (val l))/\New w.heap.size v':=by
 obtain⟨W,hW⟩:∃ W,W=(w.alloc (.cells #[.bool false,v] 28)).alloc (.cells #[.bool false,.slice none 0 0] 28):=⟨_,rfl⟩;have hb:Below w.heap.size w W:=by rw[hW];exact ((zK _ _).alloc (zQ _) _).alloc (by simp) _
 have hWs:W.heap.size=w.heap.size+2:=by rw[hW];simp
 have hres:=Blk.new (w.alloc (.cells #[.bool false,v] 28)) #[.bool false,.slice none 0 0] 28;rw[<-hW] at hres;have HRES:=zz hres;have HWS:=zz hWs;have HC:=zz (zEN W v l (h.below hb) hl);have HB:=zz hb;have HW:=zz hW;clear h hb hW hres hWs;go_enter Tryz.func108,Tryz.ntmps108
 go_wp2_with fail
 rw[<-HW.out];refine HC.out.mono ?_;rintro e w1 ⟨hb1,s,v1,rfl,hs,h1,hn1⟩;have HN1:=zz (hn1.mono (B':=w.heap.size) HB.out.size);clear hn1;have HB1:=zz hb1;have HS:=zz hs;have HL:=zz h1;obtain⟨b,c,rfl⟩:=h1.slice;clear hb1 hs h1;go_wp2_with fail
 refine (zFx w1 s HS.out b _ c).mono ?_;rintro e w2 ⟨hb2,rfl⟩;have hr2:=(HRES.out.below HB1.out (by rw[HWS.out];simp)).below hb2 (by have:=HB1.out.size;rw[HWS.out] at this;simp;omega);rw[show (w.alloc (Obj.cells #[Value.bool false,v] 28)).heap.size=w.heap.size+1 by simp] at hr2;have c0:=hr2.cell 0;have c1:=hr2.cell 1;have f0:=hr2.free 0;have f1:=hr2.free 1;simp only[zv,zk,zx] at c0 c1;have hb3:Below w.heap.size w w2:=(HB.out.trans (HB1.out.mono HB.out.size)).trans (hb2.mono (zJ HB.out.size HB1.out.size));have hlim:=HL.out.below hb2;have HB3:=zz hb3;have HLIM:=zz hlim;have HR2:=zz hr2;clear hr2 hb2 hb3 hlim HRES;generalize (zAb (val l)).length=n at HLIM HN1 ⊢;go_wp2;refine bodyPost_ret (v:=.agg #[.bool false,.slice b n c]) (by simp[results,Tryz.results108,go_sem,c0,c1]) rfl ⟨?_,_,rfl,?_,HN1.out⟩
 ·exact (HB3.out.setCell (by simp) _).setCell (by simp) _
 ·have hs1:=HR2.out.set 0 (.bool false)
  exact (HLIM.out.set HR2.out (zD8 _ _ (by simp) (by simp)) 0 _).set hs1 (by
   simp only[zy,zq];exact zD8 _ _ (by simp) (by simp)) 1 _
def zAa(kind n:Int)(neg:Bool)(mag:Value)(bits ext:Int)(text:ByteArray)(kids:Value):Array Value:=
 #[.int .i8 kind,.int .u64 n,.bool neg,mag,.int .u64 bits,.int .i8 ext,.string text,kids]
theorem zAo(kind n:Int)(neg:Bool)(mag:Value)(bits ext:Int)(text:ByteArray)(kids:Value)(hm:mag.oneCell'=true)(hk:kids.oneCell'=true):(zAa kind n neg mag bits ext text kids).all (·.oneCell')=true:=by
 unfold zAa;rw[Array.all_eq_true_iff_forall_mem];intro v hv;simp only[List.mem_toArray,List.mem_cons,List.not_mem_nil,or_false] at hv;rcases hv with rfl|rfl|rfl|rfl|rfl|rfl|rfl|rfl <;> first|rfl|assumption
theorem zLu(w:World)(v:Value)(l:List Nat)(h:zAf w v l)(hl:l.length<=34359738368):
  Calls Tryz.prog 107 #[.agg #[.bool false,v]] w fun e w'=>Below w.heap.size w w'/\∃ v':Value,e=.returned (.agg #[.int .i8 3,.int .u64 0,.bool false,v',.int .u64 0,.int .i8 0,.string ⟨#[]⟩,.slice none 0 0])/\zAf w' v' (zAb (val l))/\New w.heap.size v':=by
 obtain⟨W,hW⟩:∃ W,W=(w.alloc (.cells #[.bool false,v] 28)).alloc (.cells #[.int .i8 0,.int .u64 0,.bool false,.slice none 0 0,.int .u64 0,.int .i8 0,.string ⟨#[]⟩,.slice none 0 0] 31):=⟨_,rfl⟩;have hb:Below w.heap.size w W:=by rw[hW];exact ((zK _ _).alloc (zQ _) _).alloc (by simp) _
 have hWs:W.heap.size=w.heap.size+2:=by rw[hW];simp
 have hres:=Blk.new (w.alloc (.cells #[.bool false,v] 28)) #[.int .i8 0,.int .u64 0,.bool false,.slice none 0 0,.int .u64 0,.int .i8 0,.string ⟨#[]⟩,.slice none 0 0] 31;rw[<-hW] at hres;have HRES:=zz hres;have HWS:=zz hWs;have HC:=zz (zD9 W v l (h.below hb) hl);have HB:=zz hb;have HW:=zz hW;clear h hb hW hres hWs;go_enter Tryz.func107,Tryz.ntmps107
 go_wp2_with fail
 rw[<-HW.out];refine HC.out.mono ?_;rintro e w1 ⟨hb1,v1,rfl,h1,hn1⟩;have HN1:=zz (hn1.mono (B':=w.heap.size) HB.out.size);clear hn1;have hr2:=HRES.out.below hb1 (by rw[HWS.out];simp);rw[show (w.alloc (Obj.cells #[Value.bool false,v] 28)).heap.size=w.heap.size+1 by simp] at hr2;have HB3:=zz (HB.out.trans (hb1.mono HB.out.size));have HLIM:=zz h1;have HR2:=zz hr2;obtain⟨b,c,rfl⟩:=h1.slice;clear hr2 hb1 h1 HRES HB;obtain⟨m,hm⟩:∃ m,m=(zAb (val l)).length:=⟨_,rfl⟩;rw[<-hm] at HLIM HN1 ⊢;clear hm;dsimp only;iterate 4 go_step
 refine wpList_store_row rfl 31 _ _ rfl (w.heap.size+1) (zAa 3 0 false (.slice b m c) 0 0 ⟨#[]⟩ (.slice none 0 0)) rfl rfl 31 _ HR2.out (by kernel_rfl) rfl (zAo _ _ _ _ _ _ _ _ rfl rfl) ?_;have hfin:Blk (w1.setRow (w.heap.size+1) (zAa 3 0 false (.slice b m c) 0 0 ⟨#[]⟩ (.slice none 0 0))) (w.heap.size+1) (zAa 3 0 false (.slice b m c) 0 0 ⟨#[]⟩ (.slice none 0 0)) 31:=setRow_heap _ _ _ _ _ _ HR2.out;go_wp2;refine bodyPost_ret (v:=.agg (zAa 3 0 false (.slice b m c) 0 0 ⟨#[]⟩ (.slice none 0 0))) (results_cell_row rfl _ _ (w.heap.size+1) 31 _ (0,0) _ rfl hfin Tryz.underlying31 rfl (by kernel_rfl)) rfl ⟨?_,_,rfl,?_,HN1.out⟩
 ·exact zAO HB3.out (by simp) _
 ·exact HLIM.out.setRow HR2.out (by intro i x;match i with|0|1|2|3|4|5|6|7=>simp|i+8=>simp) _
end Go.Proofs.YtcanfakaigpkgaaGreatDoor.D
namespace Go.Proofs.YtcanfakaigpkgaaGreatDoor.D
open Go Go.RowKit Limb
def zPO(S:List UInt8)(at_:Nat)(op:Bool):Array Value:=#[.string (zAc S),.int .i64 (at_:Int),.bool op]
def Rd(w:World)(p:Nat)(S:List UInt8)(at_:Nat)(op:Bool):Prop:=Blk w p (zPO S at_ op) 70
def Rs(p:Nat)(S:List UInt8)(at_:Nat)(op:Bool)(w w':World):Prop:=Rd w' p S at_ op/\Ex (fun k=>k=p) w.heap.size w w'
theorem Rd.at0{w:World}{p:Nat}{S:List UInt8}{a:Nat}{op:Bool}(h:Rd w p S a op):w.cell? ⟨p,0,none⟩=some (.string (zAc S)):=h.cell 0
theorem Rd.at1{w:World}{p:Nat}{S:List UInt8}{a:Nat}{op:Bool}(h:Rd w p S a op):w.cell? ⟨p,1,none⟩=some (.int .i64 (a:Int)):=h.cell 1
theorem Rd.at2{w:World}{p:Nat}{S:List UInt8}{a:Nat}{op:Bool}(h:Rd w p S a op):w.cell? ⟨p,2,none⟩=some (.bool op):=h.cell 2
theorem Rd.set1{w:World}{p:Nat}{S:List UInt8}{a:Nat}{op:Bool}(h:Rd w p S a op)(n:Nat):Rd (w.setCell ⟨p,1,none⟩ (.int .i64 (n:Int))) p S n op:=Blk.set h 1 _
theorem Rd.set2{w:World}{p:Nat}{S:List UInt8}{a:Nat}{op:Bool}(h:Rd w p S a op)(b:Bool):Rd (w.setCell ⟨p,2,none⟩ (.bool b)) p S a b:=Blk.set h 2 _
theorem Rd.drewN{w:World}{p:Nat}{S:List UInt8}{a:Nat}{op:Bool}(h:Rd w p S a op)(n:Nat):Rd (w.drewN n) p S a op:=h
attribute [local go_sem high] zAI zAg
theorem zLD{w:World}{p:Nat}{S:List UInt8}{a:Nat}{op:Bool}(h:Rd w p S a op)(n:Nat):Rs p S a op w (w.drewN n):=⟨h,(Ex.refl _ _ _).drewN n⟩
theorem Rs.refl{w:World}{p:Nat}{S:List UInt8}{a:Nat}{op:Bool}(h:Rd w p S a op):Rs p S a op w w:=⟨h,Ex.refl _ _ _⟩
theorem Rs.trans{w w1 w2:World}{p:Nat}{S:List UInt8}{a b:Nat}{op op':Bool}(h:Rs p S a op w w1)(k:Rs p S b op' w1 w2):Rs p S b op' w w2:=⟨k.1,h.2.trans (k.2.mono h.2.size (fun _ h=>h))⟩
theorem zKZ(w:World)(p:Nat)(S:List UInt8)(a:Nat)(op:Bool)(h:Rd w p S a op)(ha:a<S.length)(hS:S.length<=1099511627776)(c:Int)(hc:ch S a=c):
  Calls Tryz.prog 57 #[.pointer (some ⟨p,0,none⟩),.int .u8 c] w fun e w'=>e=.returned (.bool true)/\Rs p S (a+1) op w w':=by
 have HR:=zz h;have c0:=h.at0;have c1:=h.at1;have g1:(a:Int)<(S.length:Int):=by omega
 subst hc;clear h;go_enter Tryz.func57,Tryz.ntmps57
 go_wp2;go_quiet (fail)
 have hr:=HR.out.drewN nq;have hx:Ex (fun k=>k=p) w.heap.size w (w.drewN nq):=(Ex.refl _ _ _).drewN nq;generalize w.drewN nq=w1 at hr hx ⊢;clear c0 c1 g1;have c1:=hr.at1;have f1:w1.frozen? ⟨p,1,none⟩=false:=Blk.free hr 1;have HR1:=zz (hr.set1 (a+1));have HX:=zz (hx.setCell p 1 (.inl rfl) (.int .i64 ((a+1:Nat):Int)));clear hr hx;have g3:IntKind.i64.wrap ((a:Int)+1)=(a:Int)+1:=zY _ (by omega);go_wp2;go_ret;rw[show ((a:Int)+1)=((a+1:Nat):Int) by simp];exact⟨rfl,HR1.out,HX.out⟩
theorem zDV(w:World)(p:Nat)(S:List UInt8)(a:Nat)(op:Bool)(h:Rd w p S a op)(c:Int)(hc:a<S.length->ch S a≠c):
  Calls Tryz.prog 57 #[.pointer (some ⟨p,0,none⟩),.int .u8 c] w fun e w'=>e=.returned (.bool false)/\∃ n,w'=w.drewN n:=by
 have c0:=h.at0;have c1:=h.at1;clear h;by_cases ha:a<S.length
 ·have g1:(a:Int)<(S.length:Int):=by omega
  have g2:(ch S a == c)=false:=beq_eq_false_iff_ne.2 (hc ha);clear hc;go_enter Tryz.func57,Tryz.ntmps57
  go_wp2;go_quiet (fail)
  go_wp2;go_ret;exact⟨rfl,_,rfl⟩
 ·have g1:decide ((a:Int)<(S.length:Int))=false:=by simp;omega
  have g2:decide (a<S.length)=false:=by simp;omega
  have g3:S.length<=a:=by omega
  clear hc;go_enter Tryz.func57,Tryz.ntmps57
  go_wp2;go_quiet (fail)
  go_wp2;go_ret;exact⟨rfl,_,rfl⟩
end Go.Proofs.YtcanfakaigpkgaaGreatDoor.D
namespace Go.Proofs.YtcanfakaigpkgaaGreatDoor.D
open Go Go.RowKit Limb
theorem zEf(a b:Nat)(ha:a<4294967296)(hb:b<4294967296):bits .or .u64 ((a*4294967296:Nat):Int) (b:Int)=((a*4294967296+b:Nat):Int):=by
 rw[zJM _ _ (by omega) (by omega),Nat.or_comm,show (4294967296:Nat)=2 ^ 32 from rfl,zFX _ _ 32 hb,Nat.add_comm]
theorem zKx(w:World)(h l d:Nat)(hd:h<d)(hl:l<4294967296)(hd2:d<4294967296):
  Calls Tryz.prog 221 #[.int .u32 (h:Int),.int .u32 (l:Int),.int .u32 (d:Int)] w fun e w'=>e=.returned (.tuple #[.int .u32 (((h*4294967296+l) / d:Nat):Int),.int .u32 (((h*4294967296+l) % d:Nat):Int)])/\∃ n,w'=w.drewN n:=by
 have g0:((d:Int) != 0)=true:=by rw[bne_iff_ne];omega
 have g1:¬ (d:Int)<=(h:Int):=by omega
 have g2:IntKind.u64.wrap (h:Int)=(h:Int):=by rw[IntKind.wrap_u64];omega
 have g3:IntKind.u64.wrap (l:Int)=(l:Int):=by rw[IntKind.wrap_u64];omega
 have g4:IntKind.u64.wrap (d:Int)=(d:Int):=by rw[IntKind.wrap_u64];omega
 have g5:=zEf h l (by omega) hl;rw[show ((h*4294967296:Nat):Int)=(h:Int)*4294967296 by simp] at g5;obtain⟨X,hX⟩:∃ X,X=h*4294967296+l:=⟨_,rfl⟩;rw[<-hX] at g5 ⊢;obtain⟨Q,hQ⟩:∃ Q,Q=X / d:=⟨_,rfl⟩;obtain⟨R,hR⟩:∃ R,R=X % d:=⟨_,rfl⟩;rw[<-hQ,<-hR];have hQ2:Q<4294967296:=by rw[hQ];exact Nat.div_lt_of_lt_mul (by rw[hX];exact Nat.lt_of_lt_of_le (show h*4294967296+l<(h+1)*4294967296 by omega) (by rw[Nat.mul_comm d];rw[Nat.mul_comm (h+1)];exact Nat.mul_le_mul_left _ hd))
 have hR2:R<4294967296:=by rw[hR];exact Nat.lt_trans (Nat.mod_lt _ (by omega)) hd2
 have g6:(X:Int).tdiv (d:Int)=(Q:Int):=by rw[Int.tdiv_eq_ediv_of_nonneg (by omega),hQ];simp
 have g7:(X:Int).tmod (d:Int)=(R:Int):=by rw[Int.tmod_eq_emod_of_nonneg (by omega),hR];simp
 have g8:IntKind.u64.wrap (Q:Int)=(Q:Int):=by rw[IntKind.wrap_u64];omega
 have g9:(Q:Int) % 4294967296=(Q:Int):=by omega
 have g10:(R:Int) % 4294967296=(R:Int):=by omega
 clear hX hQ hR;go_enter Tryz.func221,Tryz.ntmps221
 go_wp2;go_quiet (fail)
 go_wp2;go_ret2
 exact⟨rfl,_,rfl⟩
def zAS(d:Nat):List Nat->List Nat × Nat
 | []=>([],0)
 | x :: t=>(((zAS d t).2*4294967296+x) / d :: (zAS d t).1,((zAS d t).2*4294967296+x) % d)
theorem zFm(d:Nat)(l:List Nat):(zAS d l).1.length=l.length:=by
 induction l with
 | nil=>rfl
 | cons x t ih=>simp[zAS,ih]
theorem zDN(d:Nat)(hd:0<d)(l:List Nat):val l=d*val (zAS d l).1+(zAS d l).2/\(zAS d l).2<d:=by
 induction l with
 | nil=>simp[zAS,val,hd]
 | cons x t ih=>
  obtain⟨h1,h2⟩:=ih;refine⟨?_,Nat.mod_lt _ hd⟩;simp only[zAS,val];rw[h1];generalize (zAS d t).2=r;generalize val (zAS d t).1=q;have h3:=Nat.div_add_mod (r*4294967296+x) d;generalize (r*4294967296+x) % d=m at *;generalize (r*4294967296+x) / d=k at *;rw[Nat.mul_add,Nat.mul_add,Nat.mul_left_comm d];omega
theorem zFa(d:Nat)(hd:0<d)(l:List Nat)(hf:Fit l):Fit (zAS d l).1:=by
 induction l with
 | nil=>intro x hx;simp[zAS] at hx
 | cons x t ih=>
  intro y hy;simp only[zAS,List.mem_cons] at hy;rcases hy with rfl|hy
  ·have h2:=(zDN d hd t).2;have hx:=hf x (by simp);generalize (zAS d t).2=r at *;exact Nat.div_lt_of_lt_mul (Nat.lt_of_lt_of_le (show r*4294967296+x<(r+1)*4294967296 by omega) (by rw[Nat.mul_comm d,Nat.mul_comm (r+1)];exact Nat.mul_le_mul_left _ h2))
  ·exact ih (fun z hz=>hf z (by simp[hz])) y hy
theorem zFV(d:Nat)(hd:0<d)(l:List Nat):val (zAS d l).1=val l / d/\(zAS d l).2=val l % d:=by
 obtain⟨h1,h2⟩:=zDN d hd l;constructor
 ·rw[h1,Nat.mul_add_div hd,Nat.div_eq_of_lt h2,Nat.add_zero]
 ·rw[h1,Nat.mul_add_mod,Nat.mod_eq_of_lt h2]
theorem zGW(k:Nat)(q:List Nat)(y:Nat):(List.replicate (k+1) 0 ++ q).set k y=List.replicate k 0 ++ y :: q:=by
 rw[List.replicate_succ',List.append_assoc,List.set_append_right _ _ (by simp)];simp
theorem zCr(l:List Nat)(k:Nat)(h:k<l.length):l.drop k=l.getD k 0 :: l.drop (k+1):=by
 rw[List.drop_eq_getElem_cons h,zw,zZ h];rfl
theorem zAw{l:List Nat}(hf:Fit l)(k:Nat)(h:k<l.length):l.getD k 0<4294967296:=by
 rw[zw,zZ h];exact hf _ (List.getElem_mem _)
theorem zDu(w:World)(v:Value)(l:List Nat)(d:Nat)(h:zAf w v l)(hl:l.length<=34359738368)(hd:0<d)(hd2:d<4294967296):
  Calls Tryz.prog 180 #[v,.int .u32 (d:Int)] w fun e w'=>Below w.heap.size w w'/\∃ v',e=.returned (.tuple #[v',.int .u32 ((val l % d:Nat):Int),.bool true])/\zAf w' v' (zAb (val l / d)):=by
 have hfl:=h.fit;obtain⟨b,c,rfl⟩:=h.slice;obtain⟨n,hn⟩:∃ n,n=l.length:=⟨_,rfl⟩;have g0:((d:Int) == 0)=false:=beq_eq_false_iff_ne.2 (by omega);have hmk:=zA2 w n (by omega);have hB:=Blk.new w (zAi (List.replicate n 0)) 139;have hb:Below w.heap.size w (w.alloc (.cells (zAi (List.replicate n 0)) 139)):=(zK _ _).alloc (zQ _) _;have HL:=zz h;have HN:=zz hn;have HF:=zz hfl;have hn2:n<=34359738368:=by omega
 rw[<-hn];clear h hn hl hfl;go_enter Tryz.func180,Tryz.ntmps180
 go_upto_region 4 with fail
 clear hmk;generalize w.alloc (.cells (zAi (List.replicate n 0)) 139)=w1 at hB hb ⊢;have HB:=zz hB;have HX:=zz hb;clear hB hb;go_wp2;go_loopw [5,8,9,17] (fun r _ _ i wr=>∃ j:Nat,j<=n/\i=.int .i64 j/\r=.int .u32 ((zAS d (l.drop (n - j))).2:Nat)/\Hid (Blk wr w.heap.size (zAi (List.replicate (n - j) 0 ++ (zAS d (l.drop (n - j))).1)) 139)/\Hid (Below w.heap.size w wr)) (fun _ _ _ i _=>n - (intOf i).toNat)
 case atStart=>
  have hd0:l.drop (n - 0)=[]:=by rw[Nat.sub_zero,HN.out];simp
  refine⟨0,by omega,rfl,?_,?_,HX⟩
  ·rw[hd0];rfl
  ·rw[hd0,zAS,List.append_nil,Nat.sub_zero];exact HB
 case round=>
  clear HB HX;obtain⟨j,hj,rfl,rfl,HBr,HXr⟩:=hrel;by_cases h1:j<n
  ·obtain⟨k,hk⟩:∃ k,k=n - j - 1:=⟨_,rfl⟩;have hkl:k<l.length:=by have:=HN.out;omega
   have hnk:n - j=k+1:=by omega
   obtain⟨_,⟨_,hy⟩|⟨blk,off,cap,hv,p1,p2,p3,p4⟩⟩:=HL.out.below HXr.out
   ·rw[hy] at hkl;simp at hkl
   ·simp only[Value.slice.injEq] at hv;obtain⟨rfl,-,rfl⟩:=hv;have hc:=p4 k hkl;have hxf:=zAw HF.out k hkl;have hdrop:=zCr l k hkl;have HD:Hid (zAS d (l.drop k)=(((zAS d (l.drop (k+1))).2*4294967296+l.getD k 0) / d :: (zAS d (l.drop (k+1))).1,((zAS d (l.drop (k+1))).2*4294967296+l.getD k 0) % d)):=zz (by rw[hdrop];rfl);have hr:=(zDN d hd (l.drop (k+1))).2;rw[hnk] at HBr ⊢;clear p4 hdrop;generalize l.getD k 0=x at hc hxf HD;generalize (zAS d (l.drop (k+1))).2=r at hr HD ⊢;generalize (zAS d (l.drop (k+1))).1=q at HBr HD;have HDV:=zz (fun w=>zKx w r x d hr hxf hd2);have g1:(j:Int)<(n:Int):=by omega
    have g2:IntKind.i64.wrap ((n:Int) - 1)=(n:Int) - 1:=zY _ (by omega);have g3:IntKind.i64.wrap ((n:Int) - 1 - (j:Int))=(k:Int):=by rw[zY _ (by omega)];omega
    have g4:(k:Int)<(n:Int):=by omega
    generalize (r*4294967296+x) / d=y at HD HDV;generalize (r*4294967296+x) % d=z at HD HDV;have HK:=zz hk;clear hk hnk;go_wp2_with fail
    refine (HDV.out _).mono ?_;rintro e w2 ⟨rfl,m,rfl⟩;have hB2:=HBr.out.drewN m;have hX2:=zAd HXr.out m;clear HBr HXr hc;generalize wr.drewN m=w2 at hB2 hX2 ⊢;have f1:w2.frozen? ⟨w.heap.size,k,none⟩=false:=hB2.free k;have e1:w2.cell? ⟨w.heap.size,k,none⟩=some (.int .u32 (((List.replicate (k+1) 0 ++ q).getD k 0:Nat):Int)):=by rw[hB2.cell,zAD _ _ (by simp;omega)]
    generalize ((List.replicate (k+1) 0 ++ q).getD k 0:Nat)=u at e1;have hB3:=hB2.set k (.int .u32 (y:Int));rw[zAE,zGW] at hB3;have HB3:=zz hB3;have HX3:=zz (hX2.setCell (p:=⟨w.heap.size,k,none⟩) (zQ _) (.int .u32 (y:Int)));clear hB2 hX2 hB3;go_wp2;go_roundw
    case rel=>
     refine⟨j+1,by omega,by simp,?_,?_,HX3⟩
     ·rw[show n - (j+1)=k by have:=HK.out;omega,HD.out]
     ·rw[show n - (j+1)=k by have:=HK.out;omega,HD.out];exact HB3
    case measure=>simp[intOf];omega
  ·obtain rfl:j=n:=by omega
   have g1:¬ (j:Int)<(j:Int):=by omega
   have hfin:=HBr.out;rw[Nat.sub_self,List.drop_zero,List.replicate_zero,List.nil_append] at hfin;have hlen:=zFm d l;have hlim:=zCE hfin (zFa d hd l HF.out) j j (by rw[hlen,HN.out];exact zQ _) (zQ _) (by omega);rw[List.take_of_length_le (by rw[hlen,HN.out];exact zQ _)] at hlim;have HC:=zz (zAC wr _ _ hlim);rw[zAv (zFa d hd l HF.out),(zFV d hd l).1] at HC;have HR:Hid ((zAS d (l.drop (j - j))).2=val l % d):=zz (by rw[Nat.sub_self,List.drop_zero];exact (zFV d hd l).2);rw[HR.out];clear hfin hlen hlim HBr HR;go_wp2_with fail
   refine HC.out.mono ?_;rintro e w2 ⟨rfl,v2,rfl,h2⟩;have H2:=zz h2;obtain⟨b',c',rfl⟩:=h2.slice;clear h2 HC;go_wp2;refine bodyPost_ret (v:=.tuple #[.slice b' (zAb (val l / d)).length c',.int .u32 ((val l % d:Nat):Int),.bool true]) (by simp[results,Tryz.results180,go_sem]) rfl ⟨HXr.out,_,rfl,H2.out⟩
theorem zAf.one{w:World}{v:Value}{a:Nat}(h:zAf w v [a]):∃ b off cap,v=.slice (some ⟨b,off,none⟩) 1 cap/\b<w.heap.size/\1<=cap/\a<4294967296/\w.cell? ⟨b,off,none⟩=some (.int .u32 (a:Nat)):=by
 obtain⟨hf,⟨_,h0⟩|⟨blk,off,cap,hv,h1,h2,h3,h4⟩⟩:=h
 ·simp at h0
 ·exact⟨blk,off,cap,hv,h3,h1,hf a (by simp),h4 0 (by simp)⟩
theorem Blk.limbs{w:World}{g n:Nat}{l:List Nat}(h:Blk w g (zAi l) 139)(hf:Fit l)(hn:n=l.length)(hn2:n<=9223372036854775807):zAf w (.slice (some ⟨g,0,none⟩) n n) l:=by
 subst hn;exact⟨hf,.inr ⟨g,0,l.length,rfl,zQ _,hn2,h.lt,fun i hi=>by rw[h.cell,Nat.zero_add,zAD l i hi]⟩⟩
theorem zDx(a:Nat)(h:0<a):zDY [a]=[a]:=by
 have:a≠0:=by omega
 simp[zDY,top,this]
theorem zKJ(a:Nat)(h:0<a):zDY [a,0]=[a]:=by
 have:a≠0:=by omega
 simp[zDY,top,this]
theorem zKK(w:World)(v v2:Value)(a b:Nat)(h:zAf w v [a])(h2:zAf w v2 [b])(ha:0<a)(hb:0<b)(hab:a*b<4294967296):
  Calls Tryz.prog 186 #[v,v2] w fun e w'=>Below w.heap.size w w'/\∃ v',e=.returned v'/\zAf w' v' [a*b]:=by
 have HC1:=zz (zAC w v [a] h);have HC2:=zz (zAC w v2 [b] h2);have hmk:=zA2 w 2 (by decide);have hmk:(Instr.makeSlice 26 (.int .i64 2) (.int .i64 2)).run Tryz.prog w=.ok (.slice (some ⟨w.heap.size,0,none⟩) 2 2) (w.alloc (.cells (zAi (List.replicate 2 0)) 139)):=hmk;obtain⟨w1,hw1⟩:∃ w1,w1=w.alloc (.cells (zAi (List.replicate 2 0)) 139):=⟨_,rfl⟩;have hb1:Below w.heap.size w w1:=by rw[hw1];exact (zK _ _).alloc (zQ _) _
 have hB1:Blk w1 w.heap.size #[.int .u32 0,.int .u32 0] 139:=by rw[hw1];exact Blk.new _ _ _
 rw[<-hw1] at hmk;have HB1:=zz hb1;have HBL1:=zz hB1;have hp0:0<a*b:=Nat.mul_pos ha hb;have HP:=zz hab;obtain⟨P,hP⟩:∃ P,P=a*b:=⟨_,rfl⟩;rw[<-hP] at hp0 HP ⊢;have hPI:(a:Int)*(b:Int)=(P:Int):=by rw[hP];simp
 have ha2:a<4294967296:=h.1 a (by simp);have hb2:b<4294967296:=h2.1 b (by simp);have HA:=zz ha;have HBB:=zz hb;clear h h2 hw1 hb1 hB1 hP hab ha hb;go_enter Tryz.func186,Tryz.ntmps186
 go_wp2_with fail
 refine HC1.out.mono ?_;rintro r w2 ⟨rfl,u,rfl,hu⟩;have HU:=zz hu;clear hu;go_wp2_with fail
 refine HC2.out.mono ?_;rintro r w3 ⟨rfl,u2,rfl,hu2⟩;have hu:=HU.out;rw[zDx a HA.out] at hu;rw[zDx b HBB.out] at hu2;obtain⟨b1,o1,k1,rfl,hlt1,hk1,_,hc1⟩:=hu.one;obtain⟨b2,o2,k2,rfl,hlt2,hk2,_,hc2⟩:=hu2.one;have d1:=(HB1.out.cell (p:=⟨b1,o1,none⟩) hlt1).trans hc1;have d2:=(HB1.out.cell (p:=⟨b2,o2,none⟩) hlt2).trans hc2;have e0:w1.cell? ⟨w3.heap.size,0,none⟩=some (.int .u32 0):=HBL1.out.cell 0;have e1:w1.cell? ⟨w3.heap.size,1,none⟩=some (.int .u32 0):=HBL1.out.cell 1;have f0:=HBL1.out.free 0;have f1:=HBL1.out.free 1;clear hc1 hc2 hu hu2 HU HC1 HC2;have g1:IntKind.u64.wrap (P:Int)=(P:Int):=by have:=HP.out;rw[IntKind.wrap_u64];omega
 have g2:(P:Int) % 4294967296=(P:Int):=by have:=HP.out;omega
 have g3:(P:Int) / 4294967296=0:=by have:=HP.out;omega
 go_upto_region 4 with fail
 refine wp_loop_rounds 2 ?_;rw[rounds_succ];go_upto_region 8 with fail
 refine wp_loop_rounds 2 ?_;rw[rounds_succ];go_upto_region 10 with fail
 go_quiet (fail)
 go_wp2;rw[rounds_succ];go_wp2;rw[rounds_succ];go_wp2_with fail
 have hfin:Blk (((w1.drewN nq).setCell ⟨w3.heap.size,0,none⟩ (.int .u32 (P:Int))).setCell ⟨w3.heap.size,1,none⟩ (.int .u32 0)) w3.heap.size (zAi [P,0]) 139:=((HBL1.out.drewN nq).set 0 _).set 1 _;have hbf:Below w3.heap.size w3 (((w1.drewN nq).setCell ⟨w3.heap.size,0,none⟩ (.int .u32 (P:Int))).setCell ⟨w3.heap.size,1,none⟩ (.int .u32 0)):=((zAd HB1.out nq).setCell (zQ _) _).setCell (zQ _) _;have hlf:=hfin.limbs (n:=2) (fun x hx=>by have:=HP.out;simp at hx;omega) rfl (by decide);have HBF:=zz hbf;have HCF:=zz (zAC _ _ _ hlf);rw[zKJ P hp0] at HCF;clear hfin hbf hlf;refine HCF.out.mono ?_;rintro r w5 ⟨rfl,v',rfl,hl'⟩;have HLL:=zz hl';clear hl';go_wp2;go_ret;exact⟨HBF.out,_,rfl,HLL.out⟩
end Go.Proofs.YtcanfakaigpkgaaGreatDoor.D
namespace Go.Proofs.YtcanfakaigpkgaaGreatDoor.D
open Limb
theorem zKa(o:List Nat)(j x:Nat)(h:j<o.length):val (o.set j x)+4294967296 ^ j*o.getD j 0=val o+4294967296 ^ j*x:=by
 induction o generalizing j with
 | nil=>simp at h
 | cons y r ih=>
  cases j with
  | zero=>simp[val];omega
  | succ j=>
   have:=ih j (by simpa using h);rw[zj,val,val,List.getD_cons_succ,Nat.pow_succ,Nat.mul_comm (4294967296 ^ j) 4294967296,Nat.mul_assoc,Nat.mul_assoc];omega
theorem zCv{o:List Nat}(h:Fit o)(j x:Nat)(hx:x<4294967296):Fit (o.set j x):=by
 intro y hy;rcases List.mem_or_eq_of_mem_set hy with h1|h1
 ·exact h y h1
 ·omega
theorem zBR(l:List Nat)(k:Nat)(h:k<=l.length):val l=val (l.take k)+4294967296 ^ k*val (l.drop k):=by
 have:=zA3 (l.take k) (l.drop k);rw[List.take_append_drop,List.length_take,Nat.min_eq_left h] at this;exact this
theorem zGZ(l:List Nat)(k:Nat)(h:k<l.length):4294967296 ^ k*l.getD k 0<=val l:=by
 rw[zBR l k (by omega),zCr l k h,val,Nat.mul_add];omega
theorem zCt{l:List Nat}{k:Nat}(h:k<l.length)(hv:val l<4294967296 ^ k):l.getD k 0=0:=by
 have:=zGZ l k h;rcases Nat.eq_zero_or_pos (l.getD k 0) with h0|h0
 ·exact h0
 ·have:4294967296 ^ k*1<=4294967296 ^ k*l.getD k 0:=Nat.mul_le_mul_left _ h0;omega
theorem zDc{a b:List Nat}(ha:Fit a)(k:Nat)(h1:k<a.length)(h2:k<b.length)(hd:a.drop (k+1)=b.drop (k+1))(hk:a.getD k 0<b.getD k 0):val a<val b:=by
 rw[zBR a k (by omega),zBR b k (by omega),zCr a k h1,zCr b k h2,hd,val,val];have h3:=zBY (zBI ha k);rw[List.length_take,Nat.min_eq_left (by omega)] at h3;generalize val (a.take k)=x at *;generalize val (b.take k)=y at *;generalize val (b.drop (k+1))=z at *
 have:4294967296 ^ k*(a.getD k 0+4294967296*z)+4294967296 ^ k<=4294967296 ^ k*(b.getD k 0+4294967296*z):=by
  rw[<-Nat.mul_succ];exact Nat.mul_le_mul_left _ (by omega)
 omega
theorem zMU(o a b:List Nat)(i k carry P:Nat)(hk:k<b.length)(ho:i+k<o.length)(hv:val o+4294967296 ^ (i+k)*carry=P+a.getD i 0*val (b.take k)*4294967296 ^ i):
  val (o.set (i+k) ((carry+(a.getD i 0*b.getD k 0+o.getD (i+k) 0)) % 4294967296))+4294967296 ^ (i+(k+1))*((carry+(a.getD i 0*b.getD k 0+o.getD (i+k) 0)) / 4294967296)=P+a.getD i 0*val (b.take (k+1))*4294967296 ^ i:=by
 have h1:=zKa o (i+k) ((carry+(a.getD i 0*b.getD k 0+o.getD (i+k) 0)) % 4294967296) ho;have h2:=zD1 b k hk;have h3:=Nat.div_add_mod (carry+(a.getD i 0*b.getD k 0+o.getD (i+k) 0)) 4294967296;rw[h2];rw[show i+(k+1)=(i+k)+1 by omega,Nat.pow_succ,Nat.pow_add] at *;generalize (carry+(a.getD i 0*b.getD k 0+o.getD (i+k) 0)) % 4294967296=m at *;generalize (carry+(a.getD i 0*b.getD k 0+o.getD (i+k) 0)) / 4294967296=q at *;generalize val (o.set (i+k) m)=V at *;generalize 4294967296 ^ i=A at *;generalize 4294967296 ^ k=K at *;generalize val (b.take k)=vb at *;generalize o.getD (i+k) 0=ok at *;generalize a.getD i 0=ai at *;generalize b.getD k 0=bk at *
 grind
theorem zMW(o a b:List Nat)(i carry P:Nat)(ho:i+b.length<o.length)(hz:o.getD (i+b.length) 0=0)(hi:i<a.length)
  (hP:P=val (a.take i)*val b) (hv:val o+4294967296 ^ (i+b.length)*carry=P+a.getD i 0*val (b.take b.length)*4294967296 ^ i) :
  val (o.set (i+b.length) carry)=val (a.take (i+1))*val b:=by
 have h1:=zKa o (i+b.length) carry ho;rw[hz] at h1;rw[List.take_length] at hv;rw[zD1 a i hi];generalize val (o.set (i+b.length) carry)=V at *
 grind
theorem zMp{c x y o:Nat}(hc:c<4294967296)(hx:x<4294967296)(hy:y<4294967296)(ho:o<4294967296):c+(x*y+o)<18446744073709551616:=by
 have:x*y<=4294967295*4294967295:=Nat.mul_le_mul (by omega) (by omega);omega
theorem zGA(o a b:List Nat)(i:Nat)(hb:Fit b)(ha:Fit a)(hi:i+b.length<o.length)(hi2:i<a.length)(hv:val o=val (a.take i)*val b):o.getD (i+b.length) 0=0:=by
 apply zCt hi;rw[hv,Nat.pow_add];have h1:=zBY (zBI ha i);rw[List.length_take,Nat.min_eq_left (by omega)] at h1;exact Nat.mul_lt_mul'' h1 (zBY hb)
theorem zAt(b:List Nat)(i:Nat):val (b.take (i+1))=val (b.take i)+4294967296 ^ i*b.getD i 0:=by
 rcases Nat.lt_or_ge i b.length with h|h
 ·exact zD1 b i h
 ·rw[List.take_of_length_le (by omega),List.take_of_length_le h,zw,List.getElem?_eq_none h];simp
theorem zDs(o:List Nat)(i x:Nat)(h:i<o.length):val ((o.set i x).take (i+1))=val (o.take i)+4294967296 ^ i*x:=by
 rw[zAt,List.take_set_of_le (zQ i),zw,List.getElem?_set_self h];rfl
theorem zHQ(o a b:List Nat)(i c:Nat)(ho:i<o.length)(hv:val (o.take i)+4294967296 ^ i*c=val (a.take i)+val (b.take i)):
  val ((o.set i ((a.getD i 0+b.getD i 0+c) % 4294967296)).take (i+1))+4294967296 ^ (i+1)*((a.getD i 0+b.getD i 0+c) / 4294967296)=val (a.take (i+1))+val (b.take (i+1)):=by
 rw[zDs o i _ ho,zAt a,zAt b];have h3:=Nat.div_add_mod (a.getD i 0+b.getD i 0+c) 4294967296;rw[Nat.pow_succ];generalize (a.getD i 0+b.getD i 0+c) % 4294967296=m at *;generalize (a.getD i 0+b.getD i 0+c) / 4294967296=q at *
 grind
theorem zIf(o a b:List Nat)(n c:Nat)(ho:o.length=n+1)(ha:a.length=n)(hb:b.length<=n)(hv:val (o.take n)+4294967296 ^ n*c=val (a.take n)+val (b.take n)):
  val (o.set n c)=val a+val b:=by
 have h1:=zDs o n c (by omega);rw[List.take_of_length_le (by simp;omega)] at h1;rw[h1,hv,List.take_of_length_le (by omega),List.take_of_length_le hb]
def shL(r:Nat):Nat->List Nat->List Nat
 | _,[]=>[]
 | p,x :: t=>((x*2 ^ r) % 4294967296+p / 2 ^ (32 - r)) :: shL r x t
theorem zAL(r p:Nat)(l:List Nat):(shL r p l).length=l.length:=by
 induction l generalizing p with
 | nil=>rfl
 | cons x t ih=>simp[shL,ih]
theorem zHJ(r x:Nat)(hr:r<=32):x*2 ^ r=4294967296*(x / 2 ^ (32 - r))+x*2 ^ r % 4294967296:=by
 have h1:(4294967296:Nat)=2 ^ (32 - r)*2 ^ r:=by rw[<-Nat.pow_add,show 32 - r+r=32 by omega]
 have h2:x*2 ^ r / 4294967296=x / 2 ^ (32 - r):=by rw[h1,Nat.mul_div_mul_right _ _ (Nat.two_pow_pos r)]
 rw[<-h2];exact (Nat.div_add_mod _ _).symm
theorem zLf(r p:Nat)(l:List Nat)(hr:r<=32)(hl:(p :: l).getLast?=some 0):val (shL r p l)=2 ^ r*val l+p / 2 ^ (32 - r):=by
 induction l generalizing p with
 | nil=>
  simp at hl;subst hl
  simp[shL,val]
 | cons x t ih=>
  rw[shL,val,val,ih x (by simpa using hl)];have:=zHJ r x hr;generalize x*2 ^ r % 4294967296=m at *;generalize x / 2 ^ (32 - r)=q at *
  grind
theorem zL8(r p:Nat)(l:List Nat)(k:Nat)(h:k<l.length):(shL r p l).getD k 0=(l.getD k 0*2 ^ r) % 4294967296+(if k=0 then p else l.getD (k - 1) 0) / 2 ^ (32 - r):=by
 induction l generalizing p k with
 | nil=>simp at h
 | cons x t ih=>
  cases k with
  | zero=>simp[shL]
  | succ k=>
   rw[shL,List.getD_cons_succ,ih x k (by simpa using h),List.getD_cons_succ]
   cases k with
   | zero=>simp
   | succ k=>simp
theorem zHs(r x:Nat)(hr:r<=32):∃ m,(x*2 ^ r) % 4294967296=m*2 ^ r:=by
 have h1:(4294967296:Nat)=2 ^ (32 - r)*2 ^ r:=by rw[<-Nat.pow_add,show 32 - r+r=32 by omega]
 rw[h1,Nat.mul_mod_mul_right];exact⟨_,rfl⟩
theorem zFH(r y:Nat)(hr:r<=32)(hy:y<4294967296):y / 2 ^ (32 - r)<2 ^ r:=by
 apply Nat.div_lt_of_lt_mul;rw[<-Nat.pow_add,show 32 - r+r=32 by omega];exact hy
theorem zGS(r p:Nat)(l:List Nat)(hr:r<=32)(hp:p<4294967296)(hf:Fit l):Fit (shL r p l):=by
 induction l generalizing p with
 | nil=>intro x hx;simp[shL] at hx
 | cons x t ih=>
  intro y hy;simp only[shL,List.mem_cons] at hy;rcases hy with rfl|hy
  ·have h1:=Nat.mod_lt (x*2 ^ r) (show 4294967296 > 0 by decide);have h2:=zFH r p hr hp;obtain⟨m,hm⟩:=zHs r x hr;rw[hm] at h1 ⊢;have h3:(4294967296:Nat)=2 ^ (32 - r)*2 ^ r:=by rw[<-Nat.pow_add,show 32 - r+r=32 by omega]
   have h4:m<2 ^ (32 - r):=by
    rw[h3] at h1;exact Nat.lt_of_mul_lt_mul_right h1
   have h5:m*2 ^ r+2 ^ r<=2 ^ (32 - r)*2 ^ r:=by
    rw[<-Nat.succ_mul];exact Nat.mul_le_mul_right _ h4
   rw[<-h3] at h5;omega
  ·exact ih x (hf x (by simp)) (fun z hz=>hf z (by simp[hz])) y hy
theorem zOd(o S:List Nat)(k y:Nat)(h:k<o.length):(o.take (k+1) ++ S).set k y=o.take k ++ y :: S:=by
 rw[List.set_append_left _ _ (by simp;omega),List.take_succ_eq_append_getElem h,List.set_append_right _ _ (by simp;omega)];simp[Nat.min_eq_left (Nat.le_of_lt h)]
theorem zFZ(d:Nat)(a:List Nat):val (List.replicate d 0 ++ (a ++ [0]))=4294967296 ^ d*val a:=by
 have h0:∀ d,val (List.replicate d 0)=0:=by
  intro d
  induction d with
  | zero=>rfl
  | succ d ih=>rw[List.replicate_succ,val,ih]
 rw[zA3,zA3,h0];simp[val]
theorem zLd(n:Nat)(a:List Nat):2 ^ (n % 32)*(4294967296 ^ (n / 32)*val a)=val a*2 ^ n:=by
 rw[show (4294967296:Nat)=2 ^ 32 from rfl,<-Nat.pow_mul,<-Nat.mul_assoc,<-Nat.pow_add,show n % 32+32*(n / 32)=n by omega,Nat.mul_comm]
end Go.Proofs.YtcanfakaigpkgaaGreatDoor.D
