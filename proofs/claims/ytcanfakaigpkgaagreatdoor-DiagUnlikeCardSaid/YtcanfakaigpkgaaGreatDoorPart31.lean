/-
  Of the proof that the law DiagUnlike answers true at every two values: a part, without conditions of its own.
-/
import Derived.Test.YtcanfakaigpkgaaGreatDoorPart26
import Derived.Test.YtcanfakaigpkgaaGreatDoorPart25
set_option linter.unusedVariables false
set_option linter.unusedSimpArgs false
set_option maxRecDepth 100000
set_option maxHeartbeats 8000000
namespace Go.Proofs.YtcanfakaigpkgaaGreatDoor.D
open Go Go.RowKit Limb
attribute [local go_sem high] zAI zAg zBv zAz zCJ
theorem zLb(S:List UInt8)(a:Nat)(op:Bool)(ha:a+4<=S.length)(hS:S.length<=1099511627776)(hw:sub S a (a+4)=[110,117,108,108]):
  zId 68 [] S a (a+4) (.node [110,117,108,108] 0 (fun _=>.stop)) 0 op op:=by
 intro w p hG hp hr;show Calls _ _ #[_] _ _;go_enter Tryz.func68,Tryz.ntmps68
 go_upto_region 2 with fail
 refine wp_loop_rounds 1 ?_;rw[rounds_succ];go_wp2_with fail
 generalize hw3:World.alloc (World.alloc (World.alloc w _) _) _=w3;have s1:∀ o,(w.alloc o).heap.size=w.heap.size+1:=fun o=>by simp
 have s2:∀ o o',((w.alloc o).alloc o').heap.size=w.heap.size+2:=fun o o'=>by simp
 have hb3:Below w.heap.size w w3:=by rw[<-hw3];exact (((zK _ _).alloc (zQ _) _).alloc (by rw[s1];omega) _).alloc (by rw[s2];omega) _
 have hX3:Blk w3 w.heap.size zAr 31:=by rw[<-hw3];exact ((Blk.new _ _ _).alloc _).alloc _
 have hN3:Blk w3 (w.heap.size+2) #[.string ⟨#[110,117,108,108]⟩,.int .i8 1,.int .u64 0,.bool false,.slice none 0 0,.int .u64 0,.int .i8 0,.string ⟨#[]⟩,.slice none 0 0] 172:=by
  rw[<-hw3];have:=Blk.new ((w.alloc (.cells zAr 31)).alloc (.cells #[.string ⟨#[110,117,108,108]⟩,.int .i8 1,.int .u64 0,.bool false,.slice none 0 0,.int .u64 0,.int .i8 0,.string ⟨#[]⟩,.slice none 0 0,.string ⟨#[102,97,108,115,101]⟩,.int .i8 2,.int .u64 0,.bool false,.slice none 0 0,.int .u64 0,.int .i8 0,.string ⟨#[]⟩,.slice none 0 0,.string ⟨#[116,114,117,101]⟩,.int .i8 2,.int .u64 1,.bool false,.slice none 0 0,.int .u64 0,.int .i8 0,.string ⟨#[]⟩,.slice none 0 0,.string ⟨#[117,110,100,101,102,105,110,101,100]⟩,.int .i8 10,.int .u64 23,.bool false,.slice none 0 0,.int .u64 0,.int .i8 0,.string ⟨#[]⟩,.slice none 0 0,.string ⟨#[73,110,102,105,110,105,116,121]⟩,.int .i8 4,.int .u64 0,.bool false,.slice none 0 0,.int .u64 9218868437227405312,.int .i8 0,.string ⟨#[]⟩,.slice none 0 0,.string ⟨#[78,97,78]⟩,.int .i8 4,.int .u64 0,.bool false,.slice none 0 0,.int .u64 9221120237041090560,.int .i8 0,.string ⟨#[]⟩,.slice none 0 0] 172)) #[.string ⟨#[110,117,108,108]⟩,.int .i8 1,.int .u64 0,.bool false,.slice none 0 0,.int .u64 0,.int .i8 0,.string ⟨#[]⟩,.slice none 0 0] 172;rw[s2] at this;exact this
 have hpw:p<w.heap.size:=Blk.lt hr;have hr3:Rd w3 p S a op:=Blk.below hr hb3 hpw;clear hw3 s1 s2;have hx:(⟨#[110,117,108,108]⟩:ByteArray).extract 0 1=zAc [110]:=zBX [110,117,108,108] 0 1;have hg:∀ i,i<4->S.getD (a+i) 0=([110,117,108,108]:List UInt8).getD i 0:=fun i hi=>by rw[<-hw,zEa S a (a+4) i (by omega)]
 rw[hx];refine (zBu w3 p S a op hr3 [110] (by omega) (by have h0:S.getD a 0=110:=hg 0 (by decide);rw[h0];exact List.mem_singleton.2 rfl)).mono ?_;rintro r w4 ⟨rfl,n4,rfl⟩;have hr4:=hr3.drewN n4;have hX4:=hX3.drewN n4;have hN4:=hN3.drewN n4;have hb4:=zAd hb3 n4;have hs4:w.heap.size+3<=(w3.drewN n4).heap.size:=hN4.lt;clear hr3 hX3 hN3 hb3 hx;generalize w3.drewN n4=w4 at hr4 hX4 hN4 hb4 hs4 ⊢;have c0:w4.cell? ⟨w.heap.size+2,0,none⟩=some (.string ⟨#[110,117,108,108]⟩):=hN4.cell 0;have HG:=zz hg;have HX4:=zz hX4;have HN4:=zz hN4;have HB4:=zz hb4;have HR4:=zz hr4;have HS4:=zz hs4;have HP:=zz hpw;clear hg hX4 hN4 hb4 hr4 hs4 hpw hG hr;go_wp2_with fail
 refine (zDL w4 p S a op HR4.out [110,117,108,108] ha hS HG.out).mono ?_;rintro r w5 ⟨rfl,hr5,hx5⟩;have hX5:=hx5.blk HX4.out HX4.out.lt (by have:=HP.out;omega);have hN5:=hx5.blk HN4.out HN4.out.lt (by have:=HP.out;omega)
 have hP5:w5.rangeAt (w.heap.size+2) 1 (zAa 1 0 false (.slice none 0 0) 0 0 (zAc []) (.slice none 0 0)).toList:=fun j v hj=>by
  have hjl:j<8:=by
   rcases Nat.lt_or_ge j 8 with h|h
   ·exact h
   ·rw[List.getElem?_eq_none (by simpa[zAa] using h)] at hj;cases hj
  have:=hN5.cell (1+j);rw[this,<-hj];rcases (by omega:j=0 \/ j=1 \/ j=2 \/ j=3 \/ j=4 \/ j=5 \/ j=6 \/ j=7) with rfl|rfl|rfl|rfl|rfl|rfl|rfl|rfl <;> rfl
 have he5:Ex (fun k=>k=p) w.heap.size w w5:=(Ex.of_below HB4.out).trans (hx5.mono (by have:=HS4.out;omega) (fun _ h=>h));have HX5:=zz hX5;have HP5:=zz hP5;have HE5:=zz he5;have HR5:=zz hr5;clear hX5 hN5 hP5 he5 hr5 hx5;go_upto_region 6 with fail
 refine wp_region_lit ?_;iterate 3 go_step
 refine wpList_load_mid rfl 31 (.tmp 32) rfl (w.heap.size+2) 1 rfl _ _ HP5.out Tryz.underlying31 rfl (by kernel_rfl) ?_;refine wpList_store_row rfl 31 _ _ rfl w.heap.size (zAa 1 0 false (.slice none 0 0) 0 0 (zAc []) (.slice none 0 0)) rfl rfl 31 _ HX5.out (by kernel_rfl) rfl (zAo _ _ _ _ _ _ _ _ rfl rfl) ?_;obtain⟨w6,hw6⟩:∃ w6,w6=w5.setRow w.heap.size (zAa 1 0 false (.slice none 0 0) 0 0 (zAc []) (.slice none 0 0)):=⟨_,rfl⟩;rw[<-hw6];have hX6:Blk w6 w.heap.size (zAa 1 0 false (.slice none 0 0) 0 0 (zAc []) (.slice none 0 0)) 31:=by rw[hw6];exact setRow_heap _ _ _ _ _ _ HX5.out
 have hrow:∀ k,k≠w.heap.size->w6.heap[k]?=w5.heap[k]?:=fun k hk=>by rw[hw6];exact setRow_other _ _ _ _ hk
 have hr6:Rd w6 p S (a+4) op:=by have:=HR5.out;have hp:=HP.out;unfold Rd Blk at *;rw[hrow _ (by omega)];exact this
 have he6:Ex (fun k=>k=p) w.heap.size w w6:=HE5.out.trans ⟨by rw[hw6];rfl,by rw[hw6];rfl,by rw[hw6];rfl,by rw[hw6];simp,fun k hk _=>hrow k (by omega)⟩;have HX6:=zz hX6;have HR6:=zz hr6;have HE6:=zz he6;clear hX6 hrow hr6 he6 hw6;go_wp2;refine bodyPost_ret (v:=.agg (zAa 1 0 false (.slice none 0 0) 0 0 (zAc []) (.slice none 0 0))) (results_cell_row rfl _ _ w.heap.size 31 _ (0,0) _ rfl HX6.out Tryz.underlying31 rfl (by kernel_rfl)) rfl ⟨⟨HR6.out,HE6.out⟩,_,rfl,?_⟩;exact⟨1,0,_,0,0,[],_,0,rfl,⟨⟨rfl,.inl ⟨rfl,rfl,rfl,rfl,rfl,rfl⟩⟩,fun b o k c e=>by simp at e⟩,⟨fun _=>rfl,fun e=>by omega,fun e=>by omega,fun e=>by omega,fun e=>by omega,fun e=>by omega,fun e=>by omega⟩,.inl ⟨rfl,rfl,rfl⟩⟩
end Go.Proofs.YtcanfakaigpkgaaGreatDoor.D
namespace Go.Proofs.YtcanfakaigpkgaaGreatDoor.D
open Go Go.RowKit Limb
theorem zMy(k:Nat)(ys:Nat->Array Value)(z:Array Value)(h8:z.size=8):zC4 (k+1) (fun i=>if i=k then z else ys i)=zC4 k ys ++ z.toList:=by
 apply List.ext_getElem?;intro j;rcases Nat.lt_or_ge j (k*8) with h|h
 ·rw[List.getElem?_append_left (by rw[zAM];exact h),zBS _ _ _ (by omega),zBS _ _ _ h,if_neg (by omega)]
 ·rw[List.getElem?_append_right (by rw[zAM];exact h),zAM];rcases Nat.lt_or_ge j ((k+1)*8) with h2|h2
  ·rw[zBS _ _ _ h2,if_pos (by omega),Array.getElem?_toList,Array.getElem?_eq_getElem (by omega),show j % 8=j - k*8 by omega];simp[Array.getD,show j - k*8<z.size by omega]
  ·rw[List.getElem?_eq_none (by rw[zAM];exact h2),List.getElem?_eq_none (by rw[Array.length_toList];omega)]
theorem zMo(w:World)(base:Nat)(v:Value)(n:Nat)(ys:Nat->Array Value)(hown:w.ownsRow base 31 8 v n (zC4 n ys))(a:Addr)(c:Nat)(z:Array Value)(h8:z.size=8)(h1:z.all (·.oneCell')=true)(hnews:∀ j,j<8->w.cell? (a.add j)=z[j]?)
  (hn:n+1<=100000000) (hbase:base<=w.heap.size) (ty:TypeId) :
  ∃ v' w',(Builtin.append_ #[29,29] ty #[v,.slice (some a) 1 c]).run Tryz.prog w=.ok v' w'/\w'.ownsRow base 31 8 v' (n+1) (zC4 (n+1) (fun i=>if i=n then z else ys i))/\Below base w w':=by
 obtain⟨i0,hi0,hz0,hs0,hb0⟩:=zEd
 obtain⟨v',w',hr,h2,h3,h4⟩:=run_append_own (P:=Tryz.prog) w base 29 ty 31 i0 _ 8 104 Tryz.underlying29 hi0 hz0 hs0 hb0 rfl (by decide) v n (zC4 n ys) hown a 1 c z.toList (by rw[Array.length_toList,h8]) (fun j u hj=>by
  rw[Array.getElem?_toList] at hj
  have hlt:j<8:=by
   rw[<-h8];exact (Array.getElem?_eq_some_iff.1 hj).1
  rw[hnews j hlt,hj]) (fun u hu=>by
  rw[Array.all_eq_true] at h1;obtain⟨j,hj⟩:=List.mem_iff_getElem?.1 hu;rw[Array.getElem?_toList] at hj;obtain⟨hlt,he⟩:=Array.getElem?_eq_some_iff.1 hj;have:=h1 j hlt;rw[he] at this;exact this) (by unfold maxLen;omega) (by omega) hbase
 refine⟨v',w',hr,?_,(zK base w).grown h3 hbase (fun k hk=>(World.ownsRow.lt hown k hk).1)⟩;rw[zMy n ys z h8];exact h2
theorem zEu{ops:Array Oper}{rest:List Oper}{o:Oper}{a:Act}{w:World}{Q:Exit->Act->World->Prop}(hgd:o.guard=none)(s x:Operand)
  (ho:o.op=.call { callee:=.builtin .append,args:=#[s,x],argTypes:=#[29,29] }) (base:Nat) (v:Value) (n:Nat) (ys:Nat->Array Value) (hs:a.eval s=v) (hown:w.ownsRow base 31 8 v n (zC4 n ys))
  (ad:Addr) (c:Nat) (z:Array Value) (hx:a.eval x=.slice (some ad) 1 c) (h8:z.size=8) (h1:z.all (·.oneCell')=true) (hnews:∀ j,j<8->w.cell? (ad.add j)=z[j]?) (hn:n+1<=100000000) (hbase:base<=w.heap.size)
  (h:∀ v' w',w'.ownsRow base 31 8 v' (n+1) (zC4 (n+1) (fun i=>if i=n then z else ys i))->Below base w w'->wpList Tryz.prog ops Q rest (a.put o.dst v') w'):wpList Tryz.prog ops Q (o :: rest) a w:=
 wpList_plain hgd fun _ hK=>by
  obtain⟨v',w',hr,h2,h3⟩:=zMo w base v n ys hown ad c z h8 h1 hnews hn hbase o.type;unfold Oper.wp execOp;simp only[ho,resolve,invoke,builtin,Sem.run_bind,Sem.run_pure,Result.andThen_ok,List.map_toArray,List.map_cons,List.map_nil,hs,hx,hr];exact hK _ _ (h v' w' h2 h3)
def LvR(w:World)(N:Nat)(lbo:Option Addr)(M:Nat)(xs:Nat->Array Value)(lv:Nat->VT):Prop:=
 (0<M->∃ lb lo,lbo=some ⟨lb,lo,none⟩/\lb<w.heap.size/\zBO w lb lo M xs)/\∀ i,i<M->zAl w N (lv i) (.agg (xs i))/\(lv i).wide
def NxR(base:Nat)(w:World)(N:Nat)(v:Value)(n:Nat)(ys:Nat->Array Value)(gs:Nat->VT):Prop:=
 w.ownsRow base 31 8 v n (zC4 n ys)/\∀ i,i<n->(ys i).size=8/\zAl w N (gs i) (.agg (ys i))/\(gs i).wide
theorem NxR.nil(base:Nat)(w:World)(N:Nat):NxR base w N (.slice none 0 0) 0 (fun _=>#[]) (fun _=>.stop):=⟨World.ownsRow_nil _ _ _ _,fun i h=>by omega⟩
theorem NxR.slice{base:Nat}{w:World}{N:Nat}{v:Value}{n:Nat}{ys:Nat->Array Value}{gs:Nat->VT}(h:NxR base w N v n ys gs):∃ b c,v=.slice b n c:=by
 obtain⟨_,⟨hv,h0⟩|⟨g,cap,cur,hv,_⟩⟩:=h.1
 ·exact⟨_,_,by rw[hv,h0]⟩
 ·exact⟨_,_,hv⟩
theorem NxR.row{base:Nat}{w:World}{N:Nat}{b:Option Addr}{n c:Nat}{ys:Nat->Array Value}{gs:Nat->VT}(h:NxR base w N (.slice b n c) n ys gs):LvR w N b n ys gs:=by
 refine⟨fun h0=>?_,fun i hi=>(h.2 i hi).2⟩;obtain⟨_,⟨hv,h1⟩|⟨g,cap,cur,hv,hbg,hg,_⟩⟩:=h.1
 ·omega
 ·simp only[Value.slice.injEq] at hv;obtain⟨rfl,-,rfl⟩:=hv;refine⟨g,0,rfl,(Array.getElem?_eq_some_iff.1 hg).1,fun i hi=>⟨(h.2 i hi).1,fun j hj=>?_⟩⟩
  have h5:=World.ownsRow.cells h.1 (g:=g) rfl (i*8+j) ((ys i).getD j undef) (by
   rw[zBS _ _ _ (by omega),show (i*8+j) / 8=i by omega,show (i*8+j) % 8=j by omega])
  have e:(⟨g,0,none⟩:Addr).add (i*8+j)=⟨g,0+i*8+j,none⟩:=by rw[zAQ,Nat.add_assoc]
  rw[e] at h5;rw[h5,Array.getElem?_eq_getElem (by rw[(h.2 i hi).1];exact hj)];simp[Array.getD,show j<(ys i).size by rw[(h.2 i hi).1];exact hj]
theorem NxR.below{base:Nat}{w w':World}{N:Nat}{v:Value}{n:Nat}{ys:Nat->Array Value}{gs:Nat->VT}(h:NxR base w N v n ys gs)(hb:Below w.heap.size w w')(hN:N<=w.heap.size):NxR base w' N v n ys gs:=by
 refine⟨?_,fun i hi=>⟨(h.2 i hi).1,zAl.below (hb.mono hN) _ _ (h.2 i hi).2.1,(h.2 i hi).2.2⟩⟩;obtain⟨hl,h0|⟨g,cap,cur,hv,hBg,hg,r⟩⟩:=h.1
 ·exact⟨hl,.inl h0⟩
 ·exact⟨hl,.inr ⟨g,cap,cur,hv,hBg,by rw[hb.block g (Array.getElem?_eq_some_iff.1 hg).1];exact hg,r⟩⟩
def zPP(M0:Nat)(lv0:Nat->VT)(e:Ending):Prop:=∃ r:Int,e=.returned (.int .i64 r)/\(r<=1048576->∀ i,i<M0->(lv0 i).small 65538)
theorem zIN(w:World)(N:Nat)(hN:N<=w.heap.size)(lbo:Option Addr)(M0 cap:Nat)(xs:Nat->Array Value)(lv0:Nat->VT)(hL:LvR w N lbo M0 xs lv0)(hM:M0<=1048576):
  Calls Tryz.prog 11 #[.slice lbo M0 cap,.int .i64 1048576] w fun e w'=>zPP M0 lv0 e/\Below w.heap.size w w':=by
 have HL:=zz hL;have HN:=zz hN;clear hL hN;have gl1:IntKind.i64.wrap ((1048576:Int)+1)=1048577:=by decide
 go_enter Tryz.func11,Tryz.ntmps11
 go_wp2;go_loopw [5,6,7,8] (fun nv sv lvv dv wr=>∃ (n s M dp:Nat) (lbo:Option Addr) (cap:Nat) (xs:Nat->Array Value) (lv:Nat->VT),nv=.int .i64 (n:Int)/\n<=1048576/\sv=.int .i64 (s:Int)/\s<=2147483648/\lvv=.slice lbo M cap/\M<=1048576/\dv=.int .i64 (dp:Int)/\dp<=65537/\Hid (LvR wr N lbo M xs lv)/\Hid (Below w.heap.size w wr)/\Hid (∀ e,(∀ i,i<M->(lv i).small e)->∀ i,i<M0->(lv0 i).small (e+dp))) (fun _ _ _ dv _=>65538 - (intOf dv).toNat)
 case atStart=>exact⟨0,0,M0,0,lbo,cap,xs,lv0,rfl,by omega,rfl,by omega,rfl,hM,rfl,by omega,HL,zz (zK _ _),zz (fun e h i hi=>h i hi)⟩
 case round=>
  clear HL hM;obtain⟨w0,rfl⟩:∃ w0,w0=wr:=⟨_,rfl⟩;obtain⟨n,s,M,dp,lbo,cap,xs,lv,rfl,hn,rfl,hs,rfl,hM,rfl,hdp,HL,HB,HI⟩:=hrel;by_cases hM0:0<M
  ·have g0:(M:Int) > 0:=by omega
   obtain⟨nn,hnn⟩:∃ nn,nn=n+M:=⟨_,rfl⟩;have g1:IntKind.i64.wrap ((n:Int)+(M:Int))=(nn:Int):=by rw[zY _ (by omega)];omega
   by_cases h2:nn<=1048576
   ·have g2:¬ (nn:Int) > 1048576:=by omega
    by_cases h3:dp<=65536
    ·have g3:¬ (dp:Int) > 65536:=by omega
     have gd:IntKind.i64.wrap ((dp:Int)+1)=((dp+1:Nat):Int):=by rw[zY _ (by omega)];omega
     have HDP:=zz h3;clear hnn h3 hn;obtain⟨lb,lo,rfl,hlb,hrow⟩:=HL.out.1 hM0;have HLB:=zz hlb;have HROW:=zz hrow;have HNX:Hid (NxR w0.heap.size w0 N (.slice none 0 0) 0 (fun _=>#[]) (fun _=>.stop)):=zz (NxR.nil _ _ _);have HNW:Hid (N<=w0.heap.size):=zz (zJ HN.out HB.out.size);clear hlb hrow;go_wp2;go_loopw [5,6,9,10] (fun nv sv xv iv wx=>∃ (n2 s2 k i:Nat) (ys:Nat->Array Value) (gs:Nat->VT),nv=.int .i64 (n2:Int)/\n2<=1048576/\sv=.int .i64 (s2:Int)/\s2<=2147483648/\(∃ b c,xv=.slice b k c)/\k<=1048576/\iv=.int .i64 (i:Int)/\i<=M/\Hid (NxR w0.heap.size wx N xv k ys gs)/\Hid (Below w0.heap.size w0 wx)/\Hid (∀ e,(∀ q,q<k->(gs q).small e)->∀ p,p<i->(lv p).small (e+1))) (fun _ _ _ iv _=>M - (intOf iv).toNat)
     case atStart=>exact⟨nn,s,0,0,_,_,rfl,h2,rfl,hs,⟨_,_,rfl⟩,by omega,rfl,by omega,HNX,zz (zK _ _),zz (fun e _ p hp=>by omega)⟩
     case round=>
      clear HNX;obtain⟨n2,s2,k,i,ys,gs,rfl,hn2,rfl,hs2,⟨nb,nc,rfl⟩,hk,rfl,hi,HNX,HBx,HJ⟩:=hrel;by_cases h4:i<M
      ·have g4:(i:Int)<(M:Int):=by omega
       have htr:=HL.out.2 i h4;obtain⟨_,hxw⟩:=HROW.out i h4;have hxc:=((HROW.out.below HBx.out HLB.out) i h4).2
       cases hlv:lv i with
       | stop=>rw[hlv] at htr;exact htr.1.elim
       | node a m fs=>
        rw[hlv] at htr;obtain⟨hT,hsm⟩:=htr;obtain⟨hp1,hp2,hp3,hp4⟩:=hsm;have HLV:=zz hlv;obtain⟨kind,mag,kb,kcap,hxe,hfit,hmag,hc1,hc2,hkids⟩:=hT;obtain⟨mb,mc,rfl⟩:=hmag.1.slice;simp only[Value.agg.injEq] at hxe
        have HXC:Hid (∀ wy,Below w0.heap.size w0 wy->wy.cell? ⟨lb,lo+i*8+7,none⟩=some (.slice kb m kcap)):=zz (fun wy hwy=>by
         have h7:=((HROW.out.below hwy HLB.out) i h4).2 7 (by omega);rw[hxe] at h7
         simpa[zAh,zAa] using h7)
        rw[hxe] at hxc;have d3:=hxc 3 (by omega);have d6:=hxc 6 (by omega);have d7:=hxc 7 (by omega);simp only[zAh,zAa,zv,zk,zx] at d3 d6 d7;have hsz:(zAc a.text).size=a.text.length:=zAg _;generalize hML:a.mag.length=ML at *;generalize hTL:a.text.length=TL at *;have HMT:=zz (And.intro hML hTL);clear hML hTL;obtain⟨n3,hn3⟩:∃ n3,n3=n2+ML:=⟨_,rfl⟩;obtain⟨s3,hs3⟩:∃ s3,s3=s2+TL:=⟨_,rfl⟩;obtain⟨n4,hn4⟩:∃ n4,n4=n3+k:=⟨_,rfl⟩;obtain⟨n5,hn5⟩:∃ n5,n5=n4+m:=⟨_,rfl⟩;have w1:IntKind.i64.wrap ((n2:Int)+(ML:Int))=(n3:Int):=by rw[zY _ (by omega)];omega
        have w2:IntKind.i64.wrap ((s2:Int)+(TL:Int))=(s3:Int):=by rw[zY _ (by omega)];omega
        have w3:IntKind.i64.wrap ((n3:Int)+(k:Int))=(n4:Int):=by rw[zY _ (by omega)];omega
        have w4:IntKind.i64.wrap ((n4:Int)+(m:Int))=(n5:Int):=by rw[zY _ (by omega)];omega
        have HKS:=zz hkids;have HP4:=zz hp4;have HNN:=zz (And.intro hn3 (And.intro hn4 hn5));have HS3:=zz hs3;clear hxc hxe hkids hp4 hmag hfit hxw hlv hn3 hn4 hn5 hs3 hp1 hp2 hc1 hc2;by_cases h5:n5<=1048576
        ·have g5:¬ (n5:Int) > 1048576:=by omega
         by_cases h6:s3<=2147483648
         ·have g6:¬ (s3:Int) > 2147483648:=by omega
          have HKM:Hid (k+m<=1048576/\n3<=1048576):=zz (by have:=HNN.out;omega);have HSZ:Hid (ML<=1048576/\TL<=2147483648/\m<=1048576):=zz (by have:=HNN.out;have:=HS3.out;omega);go_wp2;clear d3 d6 d7;go_loopw [9,11] (fun xv jv wy=>∃ (j:Nat) (ys:Nat->Array Value) (gs:Nat->VT),jv=.int .i64 (j:Int)/\j<=m/\(∃ b c,xv=.slice b (k+j) c)/\Hid (NxR w0.heap.size wy N xv (k+j) ys gs)/\Hid (Below w0.heap.size w0 wy)/\Hid (∀ e,(∀ q,q<k+j->(gs q).small e)->(∀ p,p<i->(lv p).small (e+1))/\∀ p,p<j->(fs p).small e)) (fun _ jv _=>m - (intOf jv).toNat)
          case atStart=>exact⟨0,ys,gs,rfl,by omega,⟨_,_,rfl⟩,HNX,HBx,zz (fun e h=>⟨HJ.out e h,fun p hp=>by omega⟩)⟩
          case round=>
           clear HNX HBx HJ;obtain⟨j,ys,gs,rfl,hj,⟨yb,yc,rfl⟩,HNX,HBx,HQ⟩:=hrel;have d7:=HXC.out _ HBx.out;by_cases h7:j<m
           ·have g7:(j:Int)<(m:Int):=by omega
            obtain⟨b2,o2,xs2,rfl,hb2,hr2,ht2⟩:∃ (b o:Nat) (xs:Nat->Array Value),kb=some ⟨b,o,none⟩/\b<N/\zBO w0 b o m xs/\∀ i,i<m->zAl w0 N (fs i) (.agg (xs i)):=by
             rcases HKS.out with h|h
             ·omega
             ·exact h
            have hTj:=zAl.below (HBx.out.mono HNW.out) _ _ (ht2 j h7);obtain⟨_,hx2⟩:=(hr2.below (HBx.out.mono HNW.out) hb2) j h7;obtain⟨a1,kind1,mb1,mn1,mc1,kb1,kn1,kc1,hxk⟩:=hTj.cells;simp only[Value.agg.injEq] at hxk;rw[hxk] at hx2;have HTJ:Hid (zAl wr N (fs j) (.agg (zAh a1 kind1 (.slice mb1 mn1 mc1) (.slice kb1 kn1 kc1)))/\(fs j).wide):=zz ⟨by rw[<-hxk];exact hTj,HP4.out j h7⟩;have e0:=hx2 0 (by omega);have e1:=hx2 1 (by omega);have e2:=hx2 2 (by omega);have e3:=hx2 3 (by omega);have e4:=hx2 4 (by omega);have e5:=hx2 5 (by omega);have e6:=hx2 6 (by omega);have e7:=hx2 7 (by omega);simp only[zAh,zAa,zv,zk,zx,Nat.add_zero] at e0 e1 e2 e3 e4 e5 e6 e7;clear hx2 hxk hTj hr2 ht2;have hba:Below wr.heap.size wr (wr.alloc (.cells (zAh a1 kind1 (.slice mb1 mn1 mc1) (.slice kb1 kn1 kc1)) 31)):=(zK _ _).alloc (zQ _) _;have hNx:=HNX.out.below hba (zJ HNW.out HBx.out.size);have HNA:=zz hNx;have hO:=hNx.1
            have HNW2:Hid (∀ q,q<8->(wr.alloc (.cells (zAh a1 kind1 (.slice mb1 mn1 mc1) (.slice kb1 kn1 kc1)) 31)).cell? ((⟨wr.heap.size,0,none⟩:Addr).add q)=(zAh a1 kind1 (.slice mb1 mn1 mc1) (.slice kb1 kn1 kc1))[q]?):=zz (fun q hq=>by
             rw[zAQ,Nat.zero_add,(Blk.new wr _ _).cell])
            have h8:(zAh a1 kind1 (.slice mb1 mn1 mc1) (.slice kb1 kn1 kc1)).size=8:=rfl;have h1c:(zAh a1 kind1 (.slice mb1 mn1 mc1) (.slice kb1 kn1 kc1)).all (·.oneCell')=true:=by simp[zAh,zAa,Value.oneCell']
            have H8:=zz h8;have H1:=zz h1c;have HBA:=zz (HBx.out.trans (hba.mono HBx.out.size));have hbs:w0.heap.size<=(wr.alloc (.cells (zAh a1 kind1 (.slice mb1 mn1 mc1) (.slice kb1 kn1 kc1)) 31)).heap.size:=zJ HBx.out.size hba.size;have HBS:=zz hbs;have hkm:=HKM.out.1;have HTA:Hid (zAl (wr.alloc (.cells (zAh a1 kind1 (.slice mb1 mn1 mc1) (.slice kb1 kn1 kc1)) 31)) N (fs j) (.agg (zAh a1 kind1 (.slice mb1 mn1 mc1) (.slice kb1 kn1 kc1)))):=zz (zAl.below (hba.mono (zJ HNW.out HBx.out.size)) _ _ HTJ.out.1);clear hba hNx HNX h8 h1c hbs;go_wp2_with (at_builtin;go_must (refine zEu rfl _ _ rfl w0.heap.size _ _ _ rfl hO ⟨wr.heap.size,0,none⟩ 1 (zAh a1 kind1 (.slice mb1 mn1 mc1) (.slice kb1 kn1 kc1)) rfl H8.out H1.out HNW2.out (by omega) HBS.out ?_))
            intro v' z1 ho2 hb2
            have HNZ:Hid (NxR w0.heap.size z1 N v' (k+j+1) (fun i=>if i=k+j then zAh a1 kind1 (.slice mb1 mn1 mc1) (.slice kb1 kn1 kc1) else ys i) (fun i=>if i=k+j then fs j else gs i)):=zz ⟨ho2,fun i hi=>by
             dsimp only;by_cases he:i=k+j
             ·simp only[if_pos he];exact⟨H8.out,zAl.below (hb2.mono HNW.out) _ _ HTA.out,HTJ.out.2⟩
             ·simp only[if_neg he];have h9:=HNA.out.2 i (by omega);exact⟨h9.1,zAl.below (hb2.mono HNW.out) _ _ h9.2.1,h9.2.2⟩⟩
            have HBZ:=zz (HBA.out.trans hb2);obtain⟨b9,c9,rfl⟩:=HNZ.out.slice;clear ho2 hb2 hO HNA HTA HBA HBx HTJ d7 e0 e1 e2 e3 e4 e5 e6 e7;go_wp2;go_roundw
            case rel=>exact⟨j+1,_,_,by simp,by omega,⟨_,_,rfl⟩,HNZ,HBZ,zz (fun e h=>by
             have h0:∀ q,q<k+j->(gs q).small e:=fun q hq=>by
              have h1:=h q (by omega)
              rwa [if_neg (by omega)] at h1
             have h2:=h (k+j) (by omega);rw[if_pos rfl] at h2;refine⟨(HQ.out e h0).1,fun p hp=>?_⟩;rcases Nat.lt_or_ge p j with h3|h3
             ·exact (HQ.out e h0).2 p h3
             ·obtain rfl:p=j:=by omega
              exact h2)⟩
            case measure=>simp[intOf];omega
           ·obtain rfl:j=m:=by omega
            have g7:¬ (j:Int)<(j:Int):=by omega
            have hkm:=HKM.out;go_wp2;go_roundw
            case rel=>exact⟨n3,s3,k+j,i+1,ys,gs,rfl,hkm.2,rfl,h6,⟨_,_,rfl⟩,hkm.1,by simp,by omega,HNX,HBx,zz (fun e h p hp=>by
             have h0:=HQ.out e h;rcases Nat.lt_or_ge p i with h3|h3
             ·exact h0.1 p h3
             ·obtain rfl:p=i:=by omega
              rw[HLV.out];have h8:=HSZ.out;have h9:=HMT.out;exact⟨by omega,by omega,h8.2.2,fun q hq=>⟨by omega,h0.2 q hq⟩⟩)⟩
            case measure=>simp[intOf];omega
         ·have g6:(s3:Int) > 2147483648:=by omega
          clear HKS HP4;have HBF:=zz (HB.out.trans (HBx.out.mono HB.out.size));go_wp2;go_ret;exact⟨⟨_,rfl,fun h=>by omega⟩,HBF.out⟩
        ·have g5:(n5:Int) > 1048576:=by omega
         clear HKS HP4;have HBF:=zz (HB.out.trans (HBx.out.mono HB.out.size));go_wp2;go_ret;exact⟨⟨_,rfl,fun h=>by omega⟩,HBF.out⟩
      ·obtain rfl:i=M:=by omega
       have g4:¬ (i:Int)<(i:Int):=by omega
       have HLN:=zz (HNX.out.row);have HBF:=zz (HB.out.trans (HBx.out.mono HB.out.size));go_wp2;go_roundw
       case rel=>exact⟨n2,s2,k,dp+1,nb,nc,ys,gs,rfl,hn2,rfl,hs2,rfl,hk,by simp,by have:=HDP.out;omega,HLN,HBF,zz (fun e h p hp=>by
        have h1:=HI.out (e+1) (HJ.out e h) p hp
        rwa [show e+1+dp=e+(dp+1) by omega] at h1)⟩
       case measure=>have:=HDP.out;simp[intOf];omega
    ·have g3:(dp:Int) > 65536:=by omega
     clear HL;go_wp2;go_ret;exact⟨⟨_,rfl,fun h=>by omega⟩,HB.out⟩
   ·have g2:(nn:Int) > 1048576:=by omega
    clear HL;go_wp2;go_ret;exact⟨⟨_,rfl,fun h=>by omega⟩,HB.out⟩
  ·obtain rfl:M=0:=by omega
   clear HL;have HDP:=zz hdp;go_wp2;go_ret;exact⟨⟨_,rfl,fun _ p hp=>(HI.out 0 (fun q hq=>by omega) p hp).mono (by have:=HDP.out;omega)⟩,HB.out⟩
theorem zIt(w:World)(N:Nat)(hN:N<=w.heap.size)(lbo:Option Addr)(M cap:Nat)(xs:Nat->Array Value)(lv:Nat->VT)(hL:LvR w N lbo M xs lv)(hM:M<=1048576):
  Calls Tryz.prog 5 #[.slice lbo M cap] w fun e w'=>IsB (fun B=>B=false->∀ i,i<M->(lv i).small 65538) e/\Below w.heap.size w w':=by
 have HV:=zz (zIN w N hN lbo M cap xs lv hL hM);clear hL;go_enter Tryz.func5,Tryz.ntmps5
 go_wp2_with fail
 refine HV.out.mono ?_;rintro e w' ⟨⟨r,rfl,hr⟩,hb⟩;have HB:=zz hb;have HR:=zz hr;clear hb HV hr;go_wp2;go_ret;exact⟨⟨_,rfl,fun h=>HR.out (by simpa using h)⟩,HB.out⟩
end Go.Proofs.YtcanfakaigpkgaaGreatDoor.D
