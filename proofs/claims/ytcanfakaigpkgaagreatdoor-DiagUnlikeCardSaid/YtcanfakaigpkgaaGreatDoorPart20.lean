/-
  Of the proof that the law DiagUnlike answers true at every two values: a part, without conditions of its own.
-/
import Derived.Test.YtcanfakaigpkgaaGreatDoorPart19
set_option linter.unusedVariables false
set_option linter.unusedSimpArgs false
set_option maxRecDepth 100000
set_option maxHeartbeats 8000000
namespace Go.Proofs.YtcanfakaigpkgaaGreatDoor.D
open Go Go.RowKit Limb
theorem zJn(w:World):
  Calls Tryz.prog 199 #[.slice none 0 0] w fun e w'=>w'=w/\e=.returned (.slice none 0 0):=by
 have hnil:=fun (w:World) (a:Option Addr) (n c:Nat)=>Go.run_eql_slice_nil (P:=Tryz.prog) w 29 31 a n c Tryz.underlying29
 go_enter Tryz.func199,Tryz.ntmps199
 go_wp2;go_ret;exact⟨rfl,rfl⟩
theorem zDW.lims{w:World}{N:Nat}{kind n:Int}{mag:Value}{bits ext:Int}{text:List UInt8}{m X:Nat}(h:zDW w N kind n mag bits ext text m X):∃ l,zAf w mag l/\l.length<=1/\(kind=3->∃ x,((0<x/\x<1000000000)/\x=X)/\l=Limb.zAb x)/\(kind≠3->mag=.slice none 0 0):=by
 obtain⟨_,⟨h0,_,h,_⟩|⟨h0,_,_,_,_,x,hx,h,_⟩|⟨h0,_,h,_⟩|⟨h0,_,h,_⟩|⟨h0,_,h,_⟩|⟨h0,_,h,_⟩|⟨h0,_,h,_⟩⟩:=h
 ·exact⟨[],by rw[h];exact zAf.nil _,by simp,fun e=>by omega,fun _=>h⟩
 ·exact⟨_,h,zAq (by omega),fun _=>⟨x,hx,rfl⟩,fun e=>absurd h0 e⟩
 all_goals exact⟨[],by rw[h];exact zAf.nil _,by simp,fun e=>by omega,fun _=>h⟩
theorem zDW.renew{w w':World}{N B:Nat}{kind n:Int}{mag mag':Value}{bits ext:Int}{text:List UInt8}{m X:Nat}(h:zDW w N kind n mag bits ext text m X)(l:List Nat)(hl:kind=3->∃ x,((0<x/\x<1000000000)/\x=X)/\l=Limb.zAb x)(hn:zBK B w' mag' l)(hmag:kind≠3->mag'=.slice none 0 0):zKq w' (fun b=>B<=b) kind n mag' bits ext text m X:=by
 have hsz:∀ b o k c,mag'=.slice (some ⟨b,o,none⟩) k c->b<w'.heap.size:=by
  intro b o k c e;obtain⟨⟨_,⟨h,h'⟩|⟨blk,off,cap,h,_,_,h3,_⟩⟩,_⟩:=hn
  ·by_cases hk:kind=3
   ·obtain⟨x,hx,hlx⟩:=hl hk;have hp:=zAk (n:=x) (by omega);rw[<-hlx,h'] at hp;simp at hp
   ·rw[hmag hk] at e;simp at e
  ·rw[h] at e;simp only[Value.slice.injEq,Option.some.injEq,Addr.mk.injEq] at e;obtain⟨⟨rfl,_⟩,_⟩:=e;exact h3
 refine⟨?_,fun b o k c e=>hn.2 b o k c e⟩;obtain⟨h0,⟨a1,a2,a3,r⟩|⟨a1,a2,a3,a4,a5,_,_,_,_⟩|⟨a1,a2,a3,r⟩|⟨a1,a2,a3,r⟩|⟨a1,a2,a3,r⟩|⟨a1,a2,a3,r⟩|⟨a1,a2,a3,r⟩⟩:=h
 ·exact⟨h0,.inl ⟨a1,a2,hmag (by omega),r⟩⟩
 ·obtain⟨x,hx,hlx⟩:=hl a1;exact⟨h0,.inr (.inl ⟨a1,a2,a3,a4,a5,x,hx,by rw[<-hlx];exact hn.1,hsz⟩)⟩
 ·exact⟨h0,.inr (.inr (.inl ⟨a1,a2,hmag (by omega),r⟩))⟩
 ·exact⟨h0,.inr (.inr (.inr (.inl ⟨a1,a2,hmag (by omega),r⟩)))⟩
 ·exact⟨h0,.inr (.inr (.inr (.inr (.inl ⟨a1,a2,hmag (by omega),r⟩))))⟩
 ·exact⟨h0,.inr (.inr (.inr (.inr (.inr (.inl ⟨a1,a2,hmag (by omega),r⟩)))))⟩
 ·exact⟨h0,.inr (.inr (.inr (.inr (.inr (.inr ⟨a1,a2,hmag (by omega),r⟩)))))⟩
theorem zBK.same{B B':Nat}{w w':World}{v:Value}{l:List Nat}(h:zBK B w v l)(hs:∀ b,B<=b->b<w.heap.size->w'.heap[b]?=w.heap[b]?)(hB:B'<=B):zBK B' w' v l:=by
 obtain⟨⟨hf,h|⟨blk,off,cap,hv,h1,h2,h3,h4⟩⟩,hp⟩:=h
 ·exact⟨⟨hf,.inl h⟩,fun b o k c e=>by have:=hp b o k c e;omega⟩
 ·have he:=hs blk (hp _ _ _ _ hv) h3;exact⟨⟨hf,.inr ⟨blk,off,cap,hv,h1,h2,zCe h3 he,fun i hi=>by rw[World.cell?_of_block (w:=w) (a:=⟨blk,off+i,none⟩) he];exact h4 i hi⟩⟩,fun b o k c e=>by have:=hp b o k c e;omega⟩
theorem zAy{P:Program}{ops:Array Oper}{Q:Exit->Act->World->Prop}{md:Region.Mode}{S:World->Prop}{i:Nat}{oi:Oper}{d:Option Nat}{v:Value}{fuel:Nat}{listed:Array Bool}{a:Act}{w:World}(hd:oi.dst=d)(hi:ops[i]?=some oi)
  (hs:Region.noSelect ops=true) (hf:Region.free md ops listed i=true) (hr:(Region.ready md ops listed).contains i=true)
  (hQ:∀ c a w,Q (.panic c) (a.put oi.dst v) w->Q (.panic c) a w) (hy:YieldsIf P ops S oi v a) (hS:S w)
  (h:wpAnyH P md ops Q S fuel (listed.setIfInBounds i true) (a.put d v) w):wpAnyH P md ops Q S (fuel+1) listed a w:=by
 subst hd;exact wpAnyH_take hi hs hf hr hQ hy hS h
theorem zDW.m3{w:World}{N:Nat}{kind n:Int}{mag:Value}{bits ext:Int}{text:List UInt8}{m X:Nat}(h:zDW w N kind n mag bits ext text m X):m<=3:=by
 obtain⟨_,⟨_,_,_,_,_,h⟩|⟨_,_,_,_,h,_⟩|⟨_,_,_,_,_,h⟩|⟨_,_,_,_,_,h⟩|⟨_,_,_,_,_,h⟩|⟨_,_,_,_,_,h⟩|⟨_,_,_,_,_,h⟩⟩:=h <;> omega
theorem zBH(g k:Nat)(h:k≠g):∀ (vs:List Value) (o:Nat) (w:World),(w.setCells g o vs).heap[k]?=w.heap[k]?
 | [],_,_=>rfl
 | v :: vs,o,w=>by
  show ((w.setCell ⟨g,o,none⟩ v).setCells g (o+1) vs).heap[k]?=_;rw[zBH g k h vs,Below.heap_setCell _ _ _ _ h]
theorem zCY{B:Nat}{a:World}{g:Nat}(hg:B<=g):∀ (vs:List Value) (o:Nat) (w:World),Below B a w->Below B a (w.setCells g o vs)
 | [],_,_,h=>h
 | v :: vs,o,w,h=>zCY hg vs (o+1) _ (h.setCell (p:=⟨g,o,none⟩) hg v)
def upd:Array Value->Nat->List Value->Array Value
 | c,_,[]=>c
 | c,o,v :: vs=>upd (c.setIfInBounds o v) (o+1) vs
theorem zHu:∀ (vs:List Value) (c:Array Value) (o:Nat),(upd c o vs).size=c.size
 | [],_,_=>rfl
 | v :: vs,c,o=>by simp[upd,zHu vs]
theorem zNb:∀ (vs:List Value) (c:Array Value) (o j:Nat),o+vs.length<=c.size->(upd c o vs)[j]?=if o<=j/\j<o+vs.length then vs[j - o]? else c[j]?
 | [],c,o,j,_=>by rw[if_neg (by simp)];rfl
 | v :: vs,c,o,j,h=>by
  have hl:o+(vs.length+1)<=c.size:=h;rw[upd,zNb vs _ (o+1) j (by simp;omega),Array.getElem?_setIfInBounds];by_cases h1:o+1<=j/\j<o+1+vs.length
  ·rw[if_pos h1,if_pos (by simp;omega),show j - o=(j - (o+1))+1 by omega,zx]
  ·rw[if_neg h1];by_cases h2:o=j
   ·subst h2;rw[if_pos rfl,if_pos (by omega),if_pos (by simp),Nat.sub_self];rfl
   ·rw[if_neg h2,if_neg (by simp;omega)]
theorem Blk.setCells{g:Nat}{t:TypeId}:∀ (vs:List Value) (o:Nat) (w:World) (c:Array Value),Blk w g c t->Blk (w.setCells g o vs) g (upd c o vs) t
 | [],_,_,_,h=>h
 | v :: vs,o,w,c,h=>Blk.setCells vs (o+1) _ _ (h.set o v)
theorem zNZ{cp m k:Nat}{cur zs:Array Value}{ys:Nat->Array Value}(hc:cur.size=cp*8)(hm:m<=cp)(hk:k<m)(hz:zs.size=8)(h:cur.toList.take (m*8)=zC4 m ys):(upd cur (k*8) zs.toList).toList.take (m*8)=zC4 m (fun i=>if i=k then zs else ys i):=by
 have hzl:zs.toList.length=8:=by simp[hz]
 apply List.ext_getElem?;intro j;rw[List.getElem?_take];by_cases hj:j<m*8
 ·rw[if_pos hj,zBS _ _ _ hj,Array.getElem?_toList,zNb _ _ _ _ (by rw[hzl];omega),hzl];by_cases h1:k*8<=j/\j<k*8+8
  ·rw[if_pos h1,if_pos (by omega),Array.getElem?_toList,zCw _ _ (by omega),show j - k*8=j % 8 by omega]
  ·rw[if_neg h1,if_neg (by omega)];have h2:(cur.toList.take (m*8))[j]?=(zC4 m ys)[j]?:=by rw[h]
   rw[List.getElem?_take,if_pos hj,zBS _ _ _ hj,Array.getElem?_toList] at h2;exact h2
 ·rw[if_neg hj,List.getElem?_eq_none (by rw[zAM];omega)]
def CS(w:World)(X Y g m cp k:Nat)(cx cy cur:Array Value)(ys:Nat->Array Value)(ds:Nat->Nat)(fs:Nat->F)(wr:World):Prop:=
 Blk wr X cx 31/\Blk wr Y cy 31/\Below X w wr/\Blk wr g cur 31/\∀ i,i<k->(ys i).size=8/\zAm wr (fun b=>g<b) (fs i) (ds i) (.agg (ys i))
theorem CS.step{w:World}{X Y g m cp k:Nat}{cx cy cur:Array Value}{ys:Nat->Array Value}{ds:Nat->Nat}{fs:Nat->F}{wr w':World}(h:CS w X Y g m cp k cx cy cur ys ds fs wr)(hb:Below wr.heap.size wr w'):CS w X Y g m cp k cx cy cur ys ds fs w':=by
 obtain⟨h1,h2,h3,h4,h5⟩:=h;have hXl:=h1.lt;exact⟨h1.below hb h1.lt,h2.below hb h2.lt,h3.trans (hb.mono (by omega)),h4.below hb h4.lt,fun i hi=>⟨(h5 i hi).1,zAm.same (fun b _ hb'=>hb.block b hb') (fun b h _=>h) _ _ _ (h5 i hi).2⟩⟩
theorem CS.drew{w:World}{X Y g m cp k:Nat}{cx cy cur:Array Value}{ys:Nat->Array Value}{ds:Nat->Nat}{fs:Nat->F}{wr:World}(h:CS w X Y g m cp k cx cy cur ys ds fs wr):CS w X Y g m cp k cx cy cur ys ds fs wr.drew:=
 h.step (zAd (zK _ _) 1)
theorem zIZ(kind n:Int)(neg:Bool)(mag mag':Value)(bits ext:Int)(text:ByteArray)(kids:Value):(zAa kind n neg mag bits ext text kids).setIfInBounds 3 mag'=zAa kind n neg mag' bits ext text kids:=by simp[zAa]
theorem zEx(kind n:Int)(neg:Bool)(mag:Value)(bits ext:Int)(text:ByteArray)(kids kids':Value):(zAa kind n neg mag bits ext text kids).setIfInBounds 7 kids'=zAa kind n neg mag bits ext text kids':=by simp[zAa]
theorem zHT(N:Nat):∀ (f:F) (d:Nat) (v:Value) (w:World),N<=w.heap.size->zAU w N f d v->Calls Tryz.prog 153 #[v] w fun e w'=>Below w.heap.size w w'/\∃ v',e=.returned v'/\zAm w' (fun b=>w.heap.size<=b) f d v':=by
 intro f
 induction f with
 | stop=>intro d v w _ h;exact h.elim
 | node t X0 fs ih=>
  intro d v w hN hT;have HIH:=zz ih;clear ih;obtain⟨kind,nn,mag,bits,ext,text,kids,m,rfl,hf,htold,hk⟩:=hT;have HTOLD:=zz htold;clear htold;obtain⟨mb,mn,mc,rfl⟩:=hf.mag;obtain⟨l,hl,hl1,hl3,hl0⟩:=hf.lims;obtain⟨W,hW⟩:∃ W,W=(w.alloc (.cells (zAa kind nn false (.slice mb mn mc) bits ext (zAc text) kids) 31)).alloc (.cells #[.int .i8 0,.int .u64 0,.bool false,.slice none 0 0,.int .u64 0,.int .i8 0,.string ⟨#[]⟩,.slice none 0 0] 31):=⟨_,rfl⟩;have hb:Below w.heap.size w W:=by rw[hW];exact ((zK _ _).alloc (zQ _) _).alloc (by simp) _
  have hWs:W.heap.size=w.heap.size+2:=by rw[hW];simp
  have hbx:Blk W w.heap.size (zAa kind nn false (.slice mb mn mc) bits ext (zAc text) kids) 31:=by rw[hW];exact (Blk.new _ _ _).alloc _
  have hby:Blk W (w.heap.size+1) #[.int .i8 0,.int .u64 0,.bool false,.slice none 0 0,.int .u64 0,.int .i8 0,.string ⟨#[]⟩,.slice none 0 0] 31:=by
   have:=Blk.new (w.alloc (.cells (zAa kind nn false (.slice mb mn mc) bits ext (zAc text) kids) 31)) #[.int .i8 0,.int .u64 0,.bool false,.slice none 0 0,.int .u64 0,.int .i8 0,.string ⟨#[]⟩,.slice none 0 0] 31;rw[<-hW,show (w.alloc (.cells (zAa kind nn false (.slice mb mn mc) bits ext (zAc text) kids) 31)).heap.size=w.heap.size+1 by simp] at this;exact this
  have HC1:=zz (zK8 W (.slice mb mn mc) l (hl.below hb) (by omega));have HF:=zz hf;have HK:=zz hk;have HL3:=zz hl3;have HL0:=zz hl0;have HN:=zz hN;have HW:=zz hW;have HB:=zz hb;have HWS:=zz hWs;have HBX:=zz hbx;have HBY:=zz hby;have k3:W.cell? ⟨w.heap.size,3,none⟩=some (.slice mb mn mc):=hbx.cell 3;clear hf hk hl hl3 hl0 hN hW hb hWs hbx hby;go_enter Tryz.func153,Tryz.ntmps153
  go_upto_region 1 with fail
  change Code.wp _ _ _ _ ((w.alloc (.cells (zAa kind nn false (.slice mb mn mc) bits ext (zAc text) kids) 31)).alloc (.cells #[.int .i8 0,.int .u64 0,.bool false,.slice none 0 0,.int .u64 0,.int .i8 0,.string ⟨#[]⟩,.slice none 0 0] 31));rw[<-HW.out];go_wp2_with fail
  refine HC1.out.mono ?_;rintro e w1 ⟨hb1,v1,rfl,h1,hnn⟩;obtain⟨b1,c1,rfl⟩:=h1.1.slice;have hbx1:=HBX.out.below hb1 HBX.out.lt;have hby1:=HBY.out.below hb1 HBY.out.lt;have k3':w1.cell? ⟨w.heap.size,3,none⟩=some (.slice mb mn mc):=hbx1.cell 3;have f3':w1.frozen? ⟨w.heap.size,3,none⟩=false:=hbx1.free 3;have HBX2:=zz (hbx1.set 3 (.slice b1 l.length c1));rw[zIZ] at HBX2;have HBY2:=zz (hby1.set_other ⟨w.heap.size,3,none⟩ (.slice b1 l.length c1) (by simp));have HB2:=zz ((HB.out.trans (hb1.mono HB.out.size)).setCell (p:=⟨w.heap.size,3,none⟩) (zQ _) (.slice b1 l.length c1));have HV2:Hid (zBK (w.heap.size+2) (w1.setCell ⟨w.heap.size,3,none⟩ (.slice b1 l.length c1)) (.slice b1 l.length c1) l):=zz (h1.same (fun b hb _=>Below.heap_setCell _ _ _ _ (by rw[HWS.out] at hb;simp;omega)) (by rw[HWS.out];exact zQ _))
  have hz:kind≠3->(.slice b1 l.length c1:Value)=.slice none 0 0:=by
   intro h3;exact hnn (HL0.out h3)
  have HZ:=zz hz;clear hz hnn hb1 h1 hbx1 hby1 k3 HB HBX HBY HC1;go_upto_region 2 with fail
  clear k3' f3';generalize w1.setCell ⟨w.heap.size,3,none⟩ (.slice b1 l.length c1)=w2 at HBX2 HBY2 HB2 HV2 ⊢;have k7:w2.cell? ⟨w.heap.size,7,none⟩=some kids:=HBX2.out.cell 7;have f7:w2.frozen? ⟨w.heap.size,7,none⟩=false:=HBX2.out.free 7;rcases HK.out with ⟨rfl,rfl,rfl⟩|⟨h0,b,o,cap,xs,ds,rfl,hmc,hcap,hbN,hrow,hkid,hex⟩
  ·clear HK;go_wp2_with fail
   refine (zJn w2).mono ?_;rintro e w3 ⟨rfl,rfl⟩;have HBX3:=zz (HBX2.out.set 7 (.slice none 0 0));rw[zEx] at HBX3;have HBY3:=zz (HBY2.out.set_other ⟨w.heap.size,7,none⟩ (.slice none 0 0) (by simp));have HB3:=zz (HB2.out.setCell (p:=⟨w.heap.size,7,none⟩) (zQ _) (.slice none 0 0));have HV3:Hid (zBK (w.heap.size+2) (w3.setCell ⟨w.heap.size,7,none⟩ (.slice none 0 0)) (.slice b1 l.length c1) l):=zz (HV2.out.same (fun b hb _=>Below.heap_setCell _ _ _ _ (by simp;omega)) (zQ _));go_upto_region 3 with fail
   clear k7 f7;generalize w3.setCell ⟨w.heap.size,7,none⟩ (.slice none 0 0)=w4 at HBX3 HBY3 HB3 HV3 ⊢;have k7:w4.cell? ⟨w.heap.size,7,none⟩=some (.slice none 0 0):=HBX3.out.cell 7;clear HBX2 HBY2 HB2 HV2;go_wp2;go_loopw [3,17] (fun _ i wr=>i=.int .i64 0/\wr=w4) (fun _ _ _=>0)
   case atStart=>exact⟨rfl,rfl⟩
   case round=>
    obtain⟨rfl,rfl⟩:=hrel;go_upto_region 8 with fail
    refine wp_region_lit ?_;refine wpList_load_row rfl 31 _ rfl w.heap.size rfl 31 _ (0,0) _ HBX3.out Tryz.underlying31 rfl (by kernel_rfl) ?_;refine wpList_store_row rfl 31 _ _ rfl (w.heap.size+1) (zAa kind nn false (.slice b1 l.length c1) bits ext (zAc text) (.slice none 0 0)) rfl rfl 31 _ HBY3.out (by kernel_rfl) rfl (zAo _ _ _ _ _ _ _ _ rfl rfl) ?_;have hfin:Blk (wr.setRow (w.heap.size+1) (zAa kind nn false (.slice b1 l.length c1) bits ext (zAc text) (.slice none 0 0))) (w.heap.size+1) (zAa kind nn false (.slice b1 l.length c1) bits ext (zAc text) (.slice none 0 0)) 31:=setRow_heap _ _ _ _ _ _ HBY3.out;have HFIN:=zz hfin;clear hfin;go_wp2;refine bodyPost_ret (v:=.agg (zAa kind nn false (.slice b1 l.length c1) bits ext (zAc text) (.slice none 0 0))) (results_cell_row rfl _ _ (w.heap.size+1) 31 _ (0,0) _ rfl HFIN.out Tryz.underlying31 rfl (by kernel_rfl)) rfl ⟨zAO HB3.out (by omega) _,_,rfl,kind,nn,_,bits,ext,text,_,0,rfl,?_,HTOLD.out,.inl ⟨rfl,rfl,rfl⟩⟩;exact HF.out.renew l HL3.out (HV3.out.same (fun b hb _=>setRow_other _ _ _ _ (by omega)) (by omega)) HZ.out
  ·have h3:kind≠3:=by rcases HF.out.cont h0 with h|h|h <;> omega
   have hmag:=HZ.out h3;have HMAG:=zz hmag;have HEX:=zz hex
   have HONE:Hid (zKH m xs):=zz (fun i hi j hj=>by
    obtain⟨kind',nn',mb',mn',mc',bits',ext',text',kb',kn',kc',hxk⟩:=(hkid i hi).1.cells;simp only[Value.agg.injEq] at hxk;have:=zAo kind' nn' false (.slice mb' mn' mc') bits' ext' (zAc text') (.slice kb' kn' kc') rfl rfl;rw[<-hxk,Array.all_eq_true_iff_forall_mem] at this;have h8:=(hrow i hi).1
    exact this _ (by
     have e:=zCw (xs i) j (by omega);exact Array.mem_of_getElem? e))
   have HCV:=zz (zIG w2 b o m cap xs (by have:=HB2.out.size;have:=HN.out;omega) (by have:=HF.out.m3;omega) (hrow.below (HB2.out.mono HN.out) hbN) HONE.out);have HKID:=zz hkid;have HROW:=zz hrow;have HX8:Hid (∀ i,i<m->(xs i).size=8):=zz (fun i hi=>(hrow i hi).1);clear hmag hex hkid hrow HK;go_wp2_with fail
   refine HCV.out.mono ?_;rintro e w3 ⟨hb3,v3,rfl,g,cp,cur,rfl,hg,hgb,hmcp,hcpm,hcs,hct⟩;have hbx3:=HBX2.out.below hb3 HBX2.out.lt;have hby3:=HBY2.out.below hb3 HBY2.out.lt;have hlt2:=HBY2.out.lt;have k7':w3.cell? ⟨w.heap.size,7,none⟩=some (.slice (some ⟨b,o,none⟩) m cap):=hbx3.cell 7;have f7':w3.frozen? ⟨w.heap.size,7,none⟩=false:=hbx3.free 7;have HBX4:=zz (hbx3.set 7 (.slice (some ⟨g,0,none⟩) m cp));rw[zEx] at HBX4;have HBY4:=zz (hby3.set_other ⟨w.heap.size,7,none⟩ (.slice (some ⟨g,0,none⟩) m cp) (by simp));have HGB4:Hid (∃ cur,Blk (w3.setCell ⟨w.heap.size,7,none⟩ (.slice (some ⟨g,0,none⟩) m cp)) g cur 31/\cur.size=cp*8/\cur.toList.take (m*8)=zC4 m xs):=zz ⟨cur,hgb.set_other _ _ (by simp;omega),hcs,hct⟩;have HB4:=zz ((HB2.out.trans (hb3.mono HB2.out.size)).setCell (p:=⟨w.heap.size,7,none⟩) (zQ _) (.slice (some ⟨g,0,none⟩) m cp));have hg2:w.heap.size+2<=g:=by omega
   unfold maxLen at hcpm;go_upto_region 3 with fail
   clear k7 f7 k7' f7' hb3 hgb hcs hct hbx3 hby3 HBX2 HBY2 HB2 HV2 HCV hg hlt2;generalize w3.setCell ⟨w.heap.size,7,none⟩ (.slice (some ⟨g,0,none⟩) m cp)=w4 at HBX4 HBY4 HB4 HGB4 ⊢;have k7:w4.cell? ⟨w.heap.size,7,none⟩=some (.slice (some ⟨g,0,none⟩) m cp):=HBX4.out.cell 7;go_wp2;clear k7;go_loopw [3,17] (fun _ i wr=>∃ (k:Nat) (ys:Nat->Array Value),k<=m/\i=.int .i64 k/\Hid (Blk wr w.heap.size (zAa kind nn false (.slice b1 l.length c1) bits ext (zAc text) (.slice (some ⟨g,0,none⟩) m cp)) 31)/\Hid (Blk wr (w.heap.size+1) #[.int .i8 0,.int .u64 0,.bool false,.slice none 0 0,.int .u64 0,.int .i8 0,.string ⟨#[]⟩,.slice none 0 0] 31)/\Hid (Below w.heap.size w wr)/\Hid (∃ cur,Blk wr g cur 31/\cur.size=cp*8/\cur.toList.take (m*8)=zC4 m ys)/\Hid (∀ i,i<k->(ys i).size=8/\zAm wr (fun b=>g<b) (fs i) (ds i) (.agg (ys i)))/\Hid (∀ i,k<=i->ys i=xs i)) (fun _ i _=>m - (intOf i).toNat)
   case atStart=>exact⟨0,xs,by omega,rfl,HBX4,HBY4,HB4,HGB4,zz (fun i hi=>by omega),zz (fun i hi=>rfl)⟩
   case round=>
    clear HBX4 HBY4 HB4 HGB4;obtain⟨k,ys,hkm,rfl,HBXr,HBYr,HBr,HGr,HTr,HYr⟩:=hrel;by_cases h1:k<m
    ·obtain⟨cur,hgb,hcs,hct⟩:=HGr.out;have hT:=(HKID.out k h1).1;have HTk:=zz (zAU.below (HBr.out.mono HN.out) _ _ _ hT);obtain⟨kind',nn',mb',mn',mc',bits',ext',text',kb',kn',kc',hxk⟩:=hT.cells;simp only[Value.agg.injEq] at hxk;have hyk:ys k=zAa kind' nn' false (.slice mb' mn' mc') bits' ext' (zAc text') (.slice kb' kn' kc'):=by rw[HYr.out k (zQ _),hxk]
     have hys8:∀ i,i<m->(ys i).size=8:=fun i hi=>by
      rcases Nat.lt_or_ge i k with h|h
      ·exact (HTr.out i h).1
      ·rw[HYr.out i h];exact HX8.out i hi
     have hv:=(zEo hgb hys8 hct) k h1;rw[hyk] at hv;have d0:=hv.2 0 (by omega);have d1:=hv.2 1 (by omega);have d2:=hv.2 2 (by omega);have d3:=hv.2 3 (by omega);have d4:=hv.2 4 (by omega);have d5:=hv.2 5 (by omega);have d6:=hv.2 6 (by omega);have d7:=hv.2 7 (by omega);simp only[zAa,zv,zk,zx,Nat.add_zero,Nat.zero_add] at d0 d1 d2 d3 d4 d5 d6 d7;have g1:(k:Int)<(m:Int):=by omega
     have k7:wr.cell? ⟨w.heap.size,7,none⟩=some (.slice (some ⟨g,0,none⟩) m cp):=HBXr.out.cell 7;obtain⟨cx,hcx⟩:∃ cx,cx=zAa kind nn false (.slice b1 l.length c1) bits ext (zAc text) (.slice (some ⟨g,0,none⟩) m cp):=⟨_,rfl⟩;obtain⟨cy,hcy⟩:∃ cy:Array Value,cy=#[.int .i8 0,.int .u64 0,.bool false,.slice none 0 0,.int .u64 0,.int .i8 0,.string ⟨#[]⟩,.slice none 0 0]:=⟨_,rfl⟩;have hcs0:CS w w.heap.size (w.heap.size+1) g m cp k cx cy cur ys ds fs wr:=⟨by rw[hcx];exact HBXr.out,by rw[hcy];exact HBYr.out,HBr.out,hgb,HTr.out⟩
     have HLk:Hid (∀ w',CS w w.heap.size (w.heap.size+1) g m cp k cx cy cur ys ds fs w'->w'.rangeAt g (k*8) (zAa kind' nn' false (.slice mb' mn' mc') bits' ext' (zAc text') (.slice kb' kn' kc')).toList):=zz (fun w' h j v hj=>by
      have hjl:j<8:=by
       rcases Nat.lt_or_ge j 8 with h|h
       ·exact h
       ·rw[List.getElem?_eq_none (by simpa[zAa] using h)] at hj;cases hj
      have e:w'.cell? ⟨g,k*8+j,none⟩=wr.cell? ⟨g,k*8+j,none⟩:=by rw[h.2.2.2.1.cell,hgb.cell]
      have:=hv.2 j hjl;rw[Nat.zero_add] at this;rw[e,this,<-Array.getElem?_toList];exact hj)
     have H7:Hid (∀ w',(Blk w' w.heap.size cx 31/\Blk w' (w.heap.size+1) cy 31/\Below w.heap.size w w')->w'.cell? ⟨w.heap.size,7,none⟩=some (.slice (some ⟨g,0,none⟩) m cp)):=zz (fun w' h=>by
      have:=h.1.cell 7;rw[hcx] at this;exact this)
     have HTQ:Hid (∀ w',CS w w.heap.size (w.heap.size+1) g m cp k cx cy cur ys ds fs w'->Calls Tryz.prog 153 #[.agg (zAa kind' nn' false (.slice mb' mn' mc') bits' ext' (zAc text') (.slice kb' kn' kc'))] w' fun e w9=>∃ zs,e=.returned (.agg zs)/\Hid (zs.size=8)/\Hid (zs.all (·.oneCell')=true)/\Hid (CS w w.heap.size (w.heap.size+1) g m cp k cx cy cur ys ds fs w9)/\Hid (zAm w9 (fun b=>g<b) (fs k) (ds k) (.agg zs))):=zz (fun w' h=>by
      have hTk:=zAU.below (h.2.2.1.mono HN.out) _ _ _ hT;rw[hxk] at hTk;refine (HIH.out k (ds k) _ w' (zJ HN.out h.2.2.1.size) hTk).mono ?_;rintro e w9 ⟨hb9,v9,rfl,hT9⟩;obtain⟨q1,q2,q3,q4,q5,q6,q7,q8,q9,q10,q11,hq⟩:=(zAm.toN (N:=w9.heap.size) (fun b _ h=>h) _ _ _ hT9).cells;subst hq;exact⟨_,rfl,zz rfl,zz (zAo _ _ _ _ _ _ _ _ rfl rfl),zz (h.step hb9),zz (zAm.same (fun b _ _=>rfl) (fun b h1 _=>by have:=h.2.2.2.1.lt;omega) _ _ _ hT9)⟩)
     have HCS0:=zz hcs0.drew;have g2:(0:Int)<=(k:Int):=by omega
     have q9:∀ (v:Value),v ∈ (zAa kind' nn' false (.slice mb' mn' mc') bits' ext' (zAc text') (.slice kb' kn' kc')).toList->v.oneCell'=true:=by
      intro v hv;have:=zAo kind' nn' false (.slice mb' mn' mc') bits' ext' (zAc text') (.slice kb' kn' kc') rfl rfl;rw[Array.all_eq_true_iff_forall_mem] at this;exact this v (by simpa using hv)
     have HCT:=zz hct;have HCSZ:=zz hcs;clear d0 d1 d2 d3 d4 d5 d6 d7 hcs0 k7 hv hgb hcs hct hyk hys8 hT;go_upto_region 6 with fail
     refine wp_region_noPanic ?_;refine wp_region_held_drew (S:=fun w'=>Blk w' w.heap.size cx 31/\Blk w' (w.heap.size+1) cy 31/\Below w.heap.size w w') (by kernel_rfl) ⟨HCS0.out.1,HCS0.out.2.1,HCS0.out.2.2.1⟩ (fun hH=>?_);refine zAy (d:=some 20) (hd:=by rfl) (i:=0) (oi:=_) (v:=.pointer (some ⟨w.heap.size,7,none⟩)) rfl (by kernel_rfl) (by kernel_rfl) (by kernel_rfl) (fun _ _ _ h=>h) (Or.inl ⟨by rfl,fun w' hSw=>?_⟩) hH ?_
     ·clear hH hSw;go_simp
     try simp only[Act.put,zy,zq,zj]
     refine zAy (d:=some 21) (hd:=by rfl) (i:=1) (oi:=_) (v:=.slice (some ⟨g,0,none⟩) m cp) rfl (by kernel_rfl) (by kernel_rfl) (by kernel_rfl) (fun _ _ _ h=>h) (Or.inl ⟨by rfl,fun w' hSw=>?_⟩) hH ?_
     ·have c7:=H7.out w' hSw;clear hH hSw;go_simp
     try simp only[Act.put,zy,zq,zj]
     refine zAy (d:=some 22) (hd:=by rfl) (i:=2) (oi:=_) (v:=.int .i64 (k:Int)) rfl (by kernel_rfl) (by kernel_rfl) (by kernel_rfl) (fun _ _ _ h=>h) (Or.inl ⟨by rfl,fun w' hSw=>?_⟩) hH ?_
     ·clear hH hSw;go_simp
     try simp only[Act.put,zy,zq,zj]
     refine zAy (d:=some 23) (hd:=by rfl) (i:=3) (oi:=_) (v:=.pointer (some ⟨w.heap.size,7,none⟩)) rfl (by kernel_rfl) (by kernel_rfl) (by kernel_rfl) (fun _ _ _ h=>h) (Or.inl ⟨by rfl,fun w' hSw=>?_⟩) hH ?_
     ·clear hH hSw;go_simp
     try simp only[Act.put,zy,zq,zj]
     refine zAy (d:=some 24) (hd:=by rfl) (i:=4) (oi:=_) (v:=.slice (some ⟨g,0,none⟩) m cp) rfl (by kernel_rfl) (by kernel_rfl) (by kernel_rfl) (fun _ _ _ h=>h) (Or.inl ⟨by rfl,fun w' hSw=>?_⟩) hH ?_
     ·have c7:=H7.out w' hSw;clear hH hSw;go_simp
     try simp only[Act.put,zy,zq,zj]
     refine zAy (d:=some 25) (hd:=by rfl) (i:=5) (oi:=_) (v:=.int .i64 (k:Int)) rfl (by kernel_rfl) (by kernel_rfl) (by kernel_rfl) (fun _ _ _ h=>h) (Or.inl ⟨by rfl,fun w' hSw=>?_⟩) hH ?_
     ·clear hH hSw;go_simp
     try simp only[Act.put,zy,zq,zj]
     refine zAy (d:=some 26) (hd:=by rfl) (i:=6) (oi:=_) (v:=.pointer (some ⟨g,k*8,none⟩)) rfl (by kernel_rfl) (by kernel_rfl) (by kernel_rfl) (fun _ _ _ h=>h) (Or.inl ⟨by rfl,fun w' hSw=>?_⟩) hH ?_
     ·clear hH hSw;go_simp
     try simp only[Act.put,zy,zq,zj]
     refine wpAnyH_ready (rs:=[7]) (by kernel_rfl) (by simp) ?_;refine AllReadyH.cons (o:=_) rfl (fun K hK=>?_) AllReadyH.nil;rw[if_pos (by rfl)];refine wp_load_mid 31 (.tmp 26) rfl g (k*8) rfl (zAa kind' nn' false (.slice mb' mn' mc') bits' ext' (zAc text') (.slice kb' kn' kc')).toList _ (HLk.out _ HCS0.out) Tryz.underlying31 rfl (by kernel_rfl) ?_;refine hK.out _ _ hH (fun hH=>?_);clear hK K
     try simp only[Act.put,zy,zq,zj]
     refine wpAnyH_ready (rs:=[8]) (by kernel_rfl) (by simp) ?_;refine AllReadyH.cons (o:=_) rfl (fun K hK=>?_) AllReadyH.nil;go_simp;refine (HTQ.out _ HCS0.out).mono ?_;rintro e w9 ⟨zs,rfl,hz1,hz2,hcs9,hT9⟩;go_wp2_with fail
     refine hK.out _ _ ⟨hcs9.out.1,hcs9.out.2.1,hcs9.out.2.2.1⟩ (fun hH=>?_);clear hK K
     try simp only[Act.put,zy,zq,zj]
     refine zAy (d:=some 29) (hd:=by rfl) (i:=9) (oi:=_) (v:=.pointer (some ⟨g,k*8,none⟩)) rfl (by kernel_rfl) (by kernel_rfl) (by kernel_rfl) (fun _ _ _ h=>h) (Or.inl ⟨by rfl,fun w' hSw=>?_⟩) hH ?_
     ·clear hH hSw;go_simp
     try simp only[Act.put,zy,zq,zj]
     refine wpAnyH_ready (rs:=[10]) (by kernel_rfl) (by simp) ?_;refine AllReadyH.cons (o:=_) rfl (fun K hK=>?_) AllReadyH.nil;rw[if_pos (by rfl)]
     have hth:w9.there g (k*8) zs.size:=fun j hj=>by
      have hb9:=hcs9.out.2.2.2.1;rw[hz1.out] at hj;refine⟨?_,hb9.free _⟩;rw[hb9.cell,Array.getElem?_eq_getElem (by rw[HCSZ.out];omega)];rfl
     refine wp_store_mid 31 (.tmp 29) (.tmp 28) rfl g (k*8) zs rfl rfl hth (by rw[hz1.out];kernel_rfl) hz2.out ?_;refine hK.out _ _ ⟨?_,?_,?_⟩ (fun hH=>?_)
     ·unfold Blk;rw[zBH _ _ (by omega)];exact hcs9.out.1
     ·unfold Blk;rw[zBH _ _ (by omega)];exact hcs9.out.2.1
     ·exact zCY (by omega) _ _ _ hcs9.out.2.2.1
     clear hK K
     try simp only[Act.put,zy,zq,zj]
     refine wpAnyH_done (by kernel_rfl) ?_ _;refine NoPanic.normal ?_;have hsame:∀ b,g<b->b<w9.heap.size->(w9.setCells g (k*8) zs.toList).heap[b]?=w9.heap[b]?:=fun b hb _=>zBH _ _ (by omega) _ _ _
     have HBXn:Hid (Blk (w9.setCells g (k*8) zs.toList) w.heap.size (zAa kind nn false (.slice b1 l.length c1) bits ext (zAc text) (.slice (some ⟨g,0,none⟩) m cp)) 31):=zz (by rw[<-hcx];exact hH.1);have HBYn:Hid (Blk (w9.setCells g (k*8) zs.toList) (w.heap.size+1) #[.int .i8 0,.int .u64 0,.bool false,.slice none 0 0,.int .u64 0,.int .i8 0,.string ⟨#[]⟩,.slice none 0 0] 31):=zz (by rw[<-hcy];exact hH.2.1);have HBn:=zz hH.2.2;have HGn:Hid (∃ cur,Blk (w9.setCells g (k*8) zs.toList) g cur 31/\cur.size=cp*8/\cur.toList.take (m*8)=zC4 m (fun i=>if i=k then zs else ys i)):=zz ⟨_,Blk.setCells _ _ _ _ hcs9.out.2.2.2.1,by rw[zHu];exact HCSZ.out,zNZ HCSZ.out hmcp h1 hz1.out HCT.out⟩
     have HTn:Hid (∀ i,i<k+1->((fun i=>if i=k then zs else ys i) i).size=8/\zAm (w9.setCells g (k*8) zs.toList) (fun b=>g<b) (fs i) (ds i) (.agg ((fun i=>if i=k then zs else ys i) i))):=zz (fun i hi=>by
      by_cases he:i=k
      ·subst he;simp only[if_true];exact⟨hz1.out,zAm.same hsame (fun b h _=>h) _ _ _ hT9.out⟩
      ·simp only[if_neg he];have:=hcs9.out.2.2.2.2 i (by omega);exact⟨this.1,zAm.same hsame (fun b h _=>h) _ _ _ this.2⟩)
     have HYn:Hid (∀ i,k+1<=i->(fun i=>if i=k then zs else ys i) i=xs i):=zz (fun i hi=>by
      simp only[if_neg (show ¬ i=k by omega)];exact HYr.out i (by omega))
     clear hsame hH hcs9 hT9 hth HLk H7 HTQ HCS0 g2 q9 HCT;generalize w9.setCells g (k*8) zs.toList=w10 at HBXn HBYn HBn HGn HTn ⊢;go_wp2;go_roundw
     case rel=>exact⟨k+1,_,by omega,by simp,HBXn,HBYn,HBn,HGn,HTn,HYn⟩
     case measure=>simp[intOf];omega
    ·obtain rfl:k=m:=by omega
     have g1:¬ (k:Int)<(k:Int):=by omega
     go_upto_region 8 with fail
     refine wp_region_lit ?_;refine wpList_load_row rfl 31 _ rfl w.heap.size rfl 31 _ (0,0) _ HBXr.out Tryz.underlying31 rfl (by kernel_rfl) ?_;refine wpList_store_row rfl 31 _ _ rfl (w.heap.size+1) (zAa kind nn false (.slice b1 l.length c1) bits ext (zAc text) (.slice (some ⟨g,0,none⟩) k cp)) rfl rfl 31 _ HBYr.out (by kernel_rfl) rfl (zAo _ _ _ _ _ _ _ _ rfl rfl) ?_;have hfin:Blk (wr.setRow (w.heap.size+1) (zAa kind nn false (.slice b1 l.length c1) bits ext (zAc text) (.slice (some ⟨g,0,none⟩) k cp))) (w.heap.size+1) (zAa kind nn false (.slice b1 l.length c1) bits ext (zAc text) (.slice (some ⟨g,0,none⟩) k cp)) 31:=setRow_heap _ _ _ _ _ _ HBYr.out;have HFIN:=zz hfin;clear hfin;go_wp2;obtain⟨cur,hgb,hcs,hct⟩:=HGr.out;have hoth:∀ b,b≠w.heap.size+1->(wr.setRow (w.heap.size+1) (zAa kind nn false (.slice b1 l.length c1) bits ext (zAc text) (.slice (some ⟨g,0,none⟩) k cp))).heap[b]?=wr.heap[b]?:=fun b hb=>setRow_other _ _ _ _ hb
     refine bodyPost_ret (v:=.agg (zAa kind nn false (.slice b1 l.length c1) bits ext (zAc text) (.slice (some ⟨g,0,none⟩) k cp))) (results_cell_row rfl _ _ (w.heap.size+1) 31 _ (0,0) _ rfl HFIN.out Tryz.underlying31 rfl (by kernel_rfl)) rfl ⟨zAO HBr.out (by omega) _,_,rfl,kind,nn,_,bits,ext,text,_,k,rfl,?_,HTOLD.out,.inr ⟨h0,g,0,cp,ys,ds,rfl,hmcp,hcpm,⟨?_,by omega⟩,?_,fun i hi=>⟨?_,(HKID.out i hi).2⟩,HEX.out⟩⟩
     ·refine HF.out.renew l HL3.out (B:=w.heap.size) ?_ HZ.out;rw[HMAG.out]
      have hl0:l.length=0:=by
       have:=HMAG.out;simp only[Value.slice.injEq] at this;exact this.2.1
      have:l=[]:=List.eq_nil_of_length_eq_zero hl0;rw[this];exact⟨zAf.nil _,fun b o k c e=>by simp at e⟩
     ·simpa using hgb.lt
     ·refine zEo (t:=31) (cur:=cur) ?_ (fun i hi=>(HTr.out i hi).1) hct;rw[hoth g (by omega)];exact hgb
     ·exact zAm.same (fun b hb _=>hoth b (by omega)) (fun b hb _=>by omega) _ _ _ (HTr.out i hi).2
theorem zMF(w:World)(fn:Fn)(fi ca:Array Value):(binOp .eql 141 (.func fn fi ca) .nilFunc).run Tryz.prog w=.ok (.bool false) w:=by kernel_rfl
theorem zNI:∃ i,Tryz.prog.info? 3=some i/\i.zero=some (.int .i64 0)/\i.size=1/\i.bytes=8:=by
 have hinfo:(Tryz.prog.info? 3).map (fun i=>(i.zero,i.size,i.bytes))=some (some (.int .i64 0),1,8):=by kernel_rfl
 cases hq:Tryz.prog.info? 3 with
 | none=>rw[hq] at hinfo;cases hinfo
 | some i=>
  rw[hq] at hinfo;simp only[Option.map_some,Option.some.injEq,Prod.mk.injEq] at hinfo;exact⟨i,rfl,hinfo⟩
theorem zGj(w:World):(Instr.makeSlice 95 (.int .i64 1) (.int .i64 1)).run Tryz.prog w=.ok (.slice (some ⟨w.heap.size,0,none⟩) 1 1) (w.alloc (.cells #[.int .i64 0] 3)):=by
 obtain⟨i,hi,hz,hsz,hby⟩:=zNI;have:=run_make (P:=Tryz.prog) w 95 3 i (.int .i64 0) Tryz.underlying95 hi hz .i64 .i64 1 1 (by omega) (by omega) (by rw[hby];omega) (by omega);have hc:madeCells (Value.int IntKind.i64 0).cells (Int.toNat 1*1)=#[.int .i64 0]:=by kernel_rfl
 rw[this,hsz,hc];rfl
theorem zKf(w:World)(g cp:Nat)(x:Int)(hg:w.cell? ⟨g,0,none⟩=some (.int .i64 x))(fn:Fn)(fi ca:Array Value):
  Calls Tryz.prog 200 #[.slice (some ⟨g,0,none⟩) 1 cp,.func fn fi ca] w fun e w'=>Below w.heap.size w w'/\∃ b c,e=.returned (.slice (some ⟨b,0,none⟩) 1 c)/\w.heap.size<=b/\w'.cell? ⟨b,0,none⟩=some (.int .i64 x):=by
 have HE:=fun (w:World)=>zMF w fn fi ca
 have hgl:g<w.heap.size:=by
  rcases Nat.lt_or_ge g w.heap.size with h|h
  ·exact h
  ·simp[World.cell?,Array.getElem?_eq_none h] at hg
 have hb:Below w.heap.size w (w.alloc (.cells #[.func fn fi ca] 141)):=(zK _ _).alloc (zQ _) _
 have HC:=zz (Tryz.slices_Clone_int g 0 1 cp [x] (w.alloc (.cells #[.func fn fi ca] 141)) (by simp) (by omega) (by
  intro j hj;have:j=0:=by simp at hj;omega
  subst this;rw[hb.cell (p:=⟨g,0+0,none⟩) hgl];exact hg))
 clear hg;have HB:=zz hb;clear hb;go_enter Tryz.func200,Tryz.ntmps200
 go_wp2_with fail
 refine HC.out.mono ?_;rintro e w1 ⟨v1,rfl,how,hne,hb1⟩;obtain⟨-,⟨rfl,h0⟩|⟨b,c,cur,rfl,hbb,hbk,hle,hm,hsz,htk⟩⟩:=how
 ·exact absurd rfl hne
 have hcell:w1.cell? ⟨b,0,none⟩=some (.int .i64 x):=by
  have h9:(cur.toList.take (1*1))[0]?=some (.int .i64 x):=by rw[htk];rfl
  have:w1.cell? ⟨b,0,none⟩=cur[0]?:=by simp[World.cell?,hbk]
  rw[this,<-Array.getElem?_toList,<-h9,List.getElem?_take,if_pos (by omega)]
 have hbl:b<w1.heap.size:=(Array.getElem?_eq_some_iff.1 hbk).1;have HB1:=zz (HB.out.trans (hb1.mono (by simp)));have HW:w.heap.size<=w1.heap.size:=HB1.out.size;have HCell:=zz hcell;have HBB:=zz hbb;clear HB HC hb1 hne hbk hle hm hsz htk hcell hbb;have HM:=zGj;obtain⟨W,hW⟩:∃ W,W=(((w1.alloc (.cells #[.slice (some ⟨b,0,none⟩) 1 c] 95)).alloc (.cells #[.int .i64 0] 3)).alloc (.cells #[.slice (some ⟨w1.heap.size+1,0,none⟩) 1 1] 95)).alloc (.cells #[.int .i64 1] 3):=⟨_,rfl⟩;have hb4:Below w1.heap.size w1 W:=by rw[hW];exact (((((zK _ _).alloc (zQ _) _).alloc (by simp) _).alloc (by simp;omega) _).alloc (by simp;omega) _)
 have hk0:=Blk.new w1 #[.slice (some ⟨b,0,none⟩) 1 c] 95;have hk3:=Blk.new ((((w1.alloc (.cells #[.slice (some ⟨b,0,none⟩) 1 c] 95)).alloc (.cells #[.int .i64 0] 3)).alloc (.cells #[.slice (some ⟨w1.heap.size+1,0,none⟩) 1 1] 95))) #[.int .i64 1] 3;rw[<-hW] at hk3
 have c3:W.cell? ⟨w1.heap.size+1+1+1,0,none⟩=some (.int .i64 1):=by
  have h:=hk3.cell 0;simp only[World.size_alloc] at h;exact h
 have hk0':Blk W w1.heap.size #[.slice (some ⟨b,0,none⟩) 1 c] 95:=by rw[hW];exact ((hk0.alloc _).alloc _).alloc _
 have c0:W.cell? ⟨w1.heap.size,0,none⟩=some (.slice (some ⟨b,0,none⟩) 1 c):=hk0'.cell 0;have HB4:=zz hb4;clear hb4 hk0 hk3 hk0';go_wp2_with fail
 rw[<-hW];go_loopw [7] (fun p wr=>wr=W/\p=.pointer (some ⟨w1.heap.size+1+1+1,0,none⟩)) (fun _ _=>0)
 case atStart=>exact⟨rfl,rfl⟩
 case round=>
  obtain⟨rfl,rfl⟩:=hrel;clear hW;go_wp2;go_ret;refine⟨HB1.out.trans (HB4.out.mono (by omega)),b,c,rfl,?_,?_⟩
  ·have:=HBB.out;simp at this;omega
  ·rw[HB4.out.cell (p:=⟨b,0,none⟩) hbl];exact HCell.out
theorem zHX(w:World)(fn:Fn)(fi ca:Array Value):(binOp .eql 223 (.func fn fi ca) .nilFunc).run Tryz.prog w=.ok (.bool false) w:=by kernel_rfl
theorem zGF(w:World)(ga:Option Addr)(cp:Nat)(fn:Fn)(fi ca:Array Value):
  Calls Tryz.prog 155 #[.slice ga 1 cp,.func fn fi ca] w fun e w'=>Below w.heap.size w w'/\e=.returned (.int .i64 (-1)):=by
 have HE:=fun (w:World)=>zHX w fn fi ca
 have HM:=zGj;go_enter Tryz.func155,Tryz.ntmps155
 go_wp2_with fail
 obtain⟨W,hW⟩:∃ W,W=((w.alloc (.cells #[.slice ga 1 cp] 217)).alloc (.cells #[.func fn fi ca] 223)).alloc (.cells #[.int .i64 0] 3):=⟨_,rfl⟩;have hb:Below w.heap.size w W:=by rw[hW];exact (((zK _ _).alloc (zQ _) _).alloc (by simp) _).alloc (by simp;omega) _
 have hk:=Blk.new ((w.alloc (.cells #[.slice ga 1 cp] 217)).alloc (.cells #[.func fn fi ca] 223)) #[.int .i64 0] 3;rw[<-hW] at hk ⊢;have hk2:Blk W (w.heap.size+1+1) #[.int .i64 0] 3:=by simpa using hk
 clear hW hk;have hs:w.heap.size+1+1<=W.heap.size:=Nat.le_of_lt hk2.lt;go_loopw [16] (fun i wr=>∃ k:Nat,k<=1/\i=.int .i64 k/\Blk wr (w.heap.size+1+1) #[.int .i64 0] 3/\Hid (Below w.heap.size w wr)) (fun i _=>1 - (intOf i).toNat)
 case atStart=>exact⟨0,by omega,rfl,hk2,zz hb⟩
 case round=>
  obtain⟨k,hk1,rfl,hB,hBl⟩:=hrel;clear hk2 hb HE;have c0:=hB.cell 0;have c1:=hB.free 0;rcases (by omega:k=0 \/ k=1) with rfl|rfl
  ·go_wp2_with fail
   refine⟨⟨1,by omega,rfl,hB.set 0 _,zz (hBl.out.setCell (by simp;omega) _)⟩,by simp[intOf]⟩
  ·go_wp2_with fail
   refine (zKf wr (w.heap.size+1+1) 1 0 c0 _ _ _).mono ?_;rintro e w1 ⟨hb1,b,c,rfl,hbb,hc⟩;have HB1:=zz (hBl.out.trans (hb1.mono hBl.out.size));clear hb1 hB hBl c0 c1 hc hbb hs;go_wp2_with fail
   go_loopw [7,8] (fun q i wr=>q=.int .i64 (-1)/\i=.int .i64 1/\wr=w1) (fun _ _ _=>0)
   case atStart=>exact⟨rfl,rfl,rfl⟩
   case round=>
    obtain⟨rfl,rfl,rfl⟩:=hrel;go_wp2;go_ret;exact⟨HB1.out,rfl⟩
end Go.Proofs.YtcanfakaigpkgaaGreatDoor.D
