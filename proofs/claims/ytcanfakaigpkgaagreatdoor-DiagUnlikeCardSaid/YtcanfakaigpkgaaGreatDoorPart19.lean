/-
  Of the proof that the law DiagUnlike answers true at every two values: a part, without conditions of its own.
-/
import Derived.Test.YtcanfakaigpkgaaGreatDoorPart17
import Derived.Lib.LazyBuf
set_option linter.unusedVariables false
set_option linter.unusedSimpArgs false
set_option maxRecDepth 100000
set_option maxHeartbeats 8000000
namespace Go.Proofs.YtcanfakaigpkgaaGreatDoor.D
open Go Go.RowKit Limb
theorem zA1(b o j:Nat):(⟨b,o,none⟩:Addr).add j=⟨b,o+j,none⟩:=by unfold Addr.add;split <;> simp_all
theorem zLX(l:List Nat)(j:Nat)(u:Value)(h:(l.map zAP)[j]?=some u):j<l.length/\u=.int .u32 (l.getD j 0:Nat):=by
 rw[List.getElem?_map] at h;rcases Nat.lt_or_ge j l.length with h1|h1
 ·rw[zZ h1] at h;refine⟨h1,?_⟩;rw[zw,zZ h1];exact (by simpa[zAP] using h.symm)
 ·rw[List.getElem?_eq_none h1] at h;cases h
def zBK(B:Nat)(w:World)(v:Value)(l:List Nat):Prop:=zAf w v l/\∀ b o k c,v=.slice (some ⟨b,o,none⟩) k c->B<=b
theorem zI2(a:Addr)(j:Nat):(a.add j).block=a.block:=by unfold Addr.add;split <;> rfl
theorem zIb(w:World)(ad:Addr)(cap:Nat)(l:List Nat)(hf:Fit l)(h1:l.length<=cap)(h2:cap<=9223372036854775807)(h3:0<l.length->ad.block<w.heap.size)(h4:∀ i,i<l.length->w.cell? (ad.add i)=some (.int .u32 (l.getD i 0:Nat)))(hl:l.length<=34359738368):
  Calls Tryz.prog 198 #[.slice (some ad) l.length cap] w fun e w'=>Below w.heap.size w w'/\∃ v',e=.returned v'/\zBK w.heap.size w' v' l/\((.slice (some ad) l.length cap:Value)=.slice none 0 0->v'=.slice none 0 0):=by
 have hnil:=fun (w:World) (a:Option Addr) (n c:Nat)=>Go.run_eql_slice_nil (P:=Tryz.prog) w 26 139 a n c Tryz.underlying26
 obtain⟨i0,hi0,hz0,hs0,hb0⟩:=zEv;have HI0:=zz hi0;have HZ0:=zz hz0;have HS0:=zz hs0;have HB0:=zz hb0;have H4:=zz h4;clear hi0 hz0 hs0 hb0 h4;go_enter Tryz.func198,Tryz.ntmps198
 go_upto_region 3 with fail
 refine wp_region_lit ?_;iterate 6 go_step
 refine wpList_append_own _ rfl (.tmp 5) (.tmp 6) 26 rfl w.heap.size 139 i0 (.int .u32 0) 1 4 Tryz.underlying26 HI0.out HZ0.out HS0.out HB0.out rfl (by decide) (.slice (some ⟨w.heap.size,0,none⟩) 0 0) 0 [] rfl (World.ownsRow_made w #[] 0 (zQ _) (by decide) (by rfl)) ad l.length cap (l.map zAP) rfl (by simp) ?c1 (zDp l) ?c3 ?c4 ?c5 ?_
 case c1=>
  intro j u hj;obtain⟨hjl,rfl⟩:=zLX l j u hj;have:=((zK w.heap.size w).alloc (zQ _) (.cells #[] 139)).cell (p:=ad.add j) (by rw[zI2];exact h3 (by omega));rw[this];exact H4.out j hjl
 case c3=>unfold maxLen;omega
 case c4=>omega
 case c5=>simp
 intro v' w1 hown hgrow _
 have hb:Below w.heap.size w w1:=((zK w.heap.size w).alloc (zQ _) (.cells #[] 139)).trans
  ⟨hgrow.os,hgrow.tape,hgrow.output,hgrow.size,fun k hk=>hgrow.block k (by simp;omega) (fun e=>by simp[Value.ownBlock] at e;omega)⟩
 have hfin:zBK w.heap.size w1 v' l:=by
  obtain⟨hlen,⟨rfl,h0⟩|⟨g,cp,cur,rfl,hg,hc,hle,hm,hsz,htk⟩⟩:=hown
  ·rw[Nat.zero_add] at h0;have:l=[]:=List.eq_nil_of_length_eq_zero h0;subst this;exact⟨zAf.nil _,fun b o k c e=>by simp at e⟩
  ·refine⟨⟨hf,.inr ⟨g,0,cp,by rw[Nat.zero_add],by omega,by unfold maxLen at hm;omega,(Array.getElem?_eq_some_iff.1 hc).1,fun i hi=>?_⟩⟩,fun b o k c e=>by simp only[Value.slice.injEq,Option.some.injEq,Addr.mk.injEq] at e;omega⟩;have:w1.cell? ⟨g,0+i,none⟩=cur[i]?:=by rw[Nat.zero_add];simp[World.cell?,hc]
   rw[this,<-Array.getElem?_toList];have h9:(cur.toList.take ((0+l.length)*1))[i]?=(l.map zAP)[i]?:=by rw[htk];rfl
   rw[List.getElem?_take,if_pos (by omega)] at h9;rw[h9,List.getElem?_map,zZ hi,zw,zZ hi];rfl
 have HF:=zz hfin;have HB:=zz hb;clear hown hgrow hfin hb hnil;go_wp2;go_ret;exact⟨HB.out,v',rfl,HF.out,fun e=>by simp at e⟩
theorem zK8(w:World)(v:Value)(l:List Nat)(h:zAf w v l)(hl:l.length<=34359738368):
  Calls Tryz.prog 198 #[v] w fun e w'=>Below w.heap.size w w'/\∃ v',e=.returned v'/\zBK w.heap.size w' v' l/\(v=.slice none 0 0->v'=.slice none 0 0):=by
 have hnil:=fun (w:World) (a:Option Addr) (n c:Nat)=>Go.run_eql_slice_nil (P:=Tryz.prog) w 26 139 a n c Tryz.underlying26
 obtain⟨hf,⟨⟨p,rfl⟩,rfl⟩|⟨blk,off,cap,rfl,h1,h2,h3,h4⟩⟩:=h
 ·cases p with
  | some ad=>exact zIb w ad 0 [] hf (zQ _) (by omega) (fun h=>by simp at h) (fun i h=>by simp at h) hl
  | none=>
  go_enter Tryz.func198,Tryz.ntmps198
  go_wp2;go_ret;exact⟨zK _ _,_,rfl,⟨zAf.nil _,fun b o k c e=>by simp at e⟩,fun _=>rfl⟩
 ·exact zIb w ⟨blk,off,none⟩ cap l hf h1 h2 (fun _=>h3) (fun i hi=>by rw[zA1];exact h4 i hi) hl
theorem zPF:(Tryz.prog.info? 31).map (fun i=>(i.zero,i.size,i.bytes))=some (some (.agg #[.int .i8 0,.int .u64 0,.bool false,.slice none 0 0,.int .u64 0,.int .i8 0,.string ⟨#[]⟩,.slice none 0 0]),8,104):=by kernel_rfl
theorem zEd:∃ i,Tryz.prog.info? 31=some i/\i.zero=some (.agg #[.int .i8 0,.int .u64 0,.bool false,.slice none 0 0,.int .u64 0,.int .i8 0,.string ⟨#[]⟩,.slice none 0 0])/\i.size=8/\i.bytes=104:=by
 have hinfo:=zPF
 cases hq:Tryz.prog.info? 31 with
 | none=>rw[hq] at hinfo;cases hinfo
 | some i=>
  rw[hq] at hinfo;simp only[Option.map_some,Option.some.injEq,Prod.mk.injEq] at hinfo;exact⟨i,rfl,hinfo⟩
def zC4(m:Nat)(xs:Nat->Array Value):List Value:=(List.range (m*8)).map (fun j=>(xs (j / 8)).getD (j % 8) undef)
theorem zBS(m:Nat)(xs:Nat->Array Value)(j:Nat)(h:j<m*8):(zC4 m xs)[j]?=some ((xs (j / 8)).getD (j % 8) undef):=by
 unfold zC4;rw[List.getElem?_map,List.getElem?_range h];rfl
theorem zAM(m:Nat)(xs:Nat->Array Value):(zC4 m xs).length=m*8:=by simp[zC4]
theorem zCw(c:Array Value)(j:Nat)(h:j<c.size):c[j]?=some (c.getD j undef):=by
 rw[Array.getElem?_eq_getElem h];simp[Array.getD,h]
def zKH(m:Nat)(xs:Nat->Array Value):Prop:=∀ i,i<m->∀ j,j<8->((xs i).getD j undef).oneCell'=true
theorem zMe{m:Nat}{xs:Nat->Array Value}(h:zKH m xs):∀ u ∈ zC4 m xs,u.oneCell'=true:=by
 intro u hu;unfold zC4 at hu;obtain⟨j,hj,rfl⟩:=List.mem_map.1 hu;have:=List.mem_range.1 hj;exact h (j / 8) (by omega) (j % 8) (by omega)
theorem zBO.cell{w:World}{b o m:Nat}{xs:Nat->Array Value}(h:zBO w b o m xs)(j:Nat)(hj:j<m*8):w.cell? ⟨b,o+j,none⟩=some ((xs (j / 8)).getD (j % 8) undef):=by
 obtain⟨h8,hc⟩:=h (j / 8) (by omega);have:=hc (j % 8) (by omega);rw[show o+j / 8*8+j % 8=o+j by omega] at this;rw[this,zCw _ _ (by omega)]
theorem zEo{w:World}{g m:Nat}{cur:Array Value}{t:TypeId}{xs:Nat->Array Value}(hc:w.heap[g]?=some (.cells cur t (0,0)))(hx:∀ i,i<m->(xs i).size=8)(h:cur.toList.take (m*8)=zC4 m xs):zBO w g 0 m xs:=by
 intro i hi;refine⟨hx i hi,fun j hj=>?_⟩;have e:w.cell? ⟨g,0+i*8+j,none⟩=cur[i*8+j]?:=by rw[Nat.zero_add];simp[World.cell?,hc]
 rw[e,<-Array.getElem?_toList];have h9:(cur.toList.take (m*8))[i*8+j]?=(zC4 m xs)[i*8+j]?:=by rw[h]
 rw[List.getElem?_take,if_pos (by omega),zBS _ _ _ (by omega)] at h9;rw[h9,show (i*8+j) / 8=i by omega,show (i*8+j) % 8=j by omega,zCw _ _ (by rw[hx i hi];exact hj)]
def zNj(B:Nat)(w:World)(v:Value)(m:Nat)(xs:Nat->Array Value):Prop:=∃ g cp cur,v=.slice (some ⟨g,0,none⟩) m cp/\B<=g/\Blk w g cur 31/\m<=cp/\cp<=maxLen/\cur.size=cp*8/\cur.toList.take (m*8)=zC4 m xs
theorem zIG(w:World)(b o m cap:Nat)(xs:Nat->Array Value)(h3:b<w.heap.size)(hm:m<=1048576)(h:zBO w b o m xs)(h1:zKH m xs):
  Calls Tryz.prog 199 #[.slice (some ⟨b,o,none⟩) m cap] w fun e w'=>Below w.heap.size w w'/\∃ v',e=.returned v'/\zNj w.heap.size w' v' m xs:=by
 have hnil:=fun (w:World) (a:Option Addr) (n c:Nat)=>Go.run_eql_slice_nil (P:=Tryz.prog) w 29 31 a n c Tryz.underlying29
 obtain⟨i0,hi0,hz0,hs0,hb0⟩:=zEd;have HI0:=zz hi0;have HZ0:=zz hz0;have HS0:=zz hs0;have HB0:=zz hb0;have H:=zz h;have H1:=zz h1;clear hi0 hz0 hs0 hb0 h h1;go_enter Tryz.func199,Tryz.ntmps199
 go_upto_region 3 with fail
 refine wp_region_lit ?_;iterate 6 go_step
 refine wpList_append_own _ rfl (.tmp 5) (.tmp 6) 29 rfl w.heap.size 31 i0 _ 8 104 Tryz.underlying29 HI0.out HZ0.out HS0.out HB0.out rfl (by decide) (.slice (some ⟨w.heap.size,0,none⟩) 0 0) 0 [] rfl (World.ownsRow_made w #[] 0 (zQ _) (by decide) (by rfl)) ⟨b,o,none⟩ m cap (zC4 m xs) rfl (zAM m xs) ?c1 (zMe H1.out) ?c3 ?c4 ?c5 ?_
 case c1=>
  intro j u hj
  have hjl:j<m*8:=by
   rcases Nat.lt_or_ge j (m*8) with h|h
   ·exact h
   ·rw[List.getElem?_eq_none (by rw[zAM];exact h)] at hj;cases hj
  rw[zBS _ _ _ hjl] at hj;rw[zA1,((zK w.heap.size w).alloc (zQ _) (.cells #[] 31)).cell (p:=⟨b,o+j,none⟩) h3,H.out.cell j hjl];exact hj
 case c3=>unfold maxLen;omega
 case c4=>omega
 case c5=>simp
 intro v' w1 hown hgrow hnn
 have hb:Below w.heap.size w w1:=((zK w.heap.size w).alloc (zQ _) (.cells #[] 31)).trans
  ⟨hgrow.os,hgrow.tape,hgrow.output,hgrow.size,fun k hk=>hgrow.block k (by simp;omega) (fun e=>by simp[Value.ownBlock] at e;omega)⟩
 have hfin:zNj w.heap.size w1 v' m xs:=by
  obtain⟨hlen,⟨rfl,h0⟩|⟨g,cp,cur,rfl,hg,hc,hle,hm,hsz,htk⟩⟩:=hown
  ·have:=(hnn.1 rfl).1;simp at this
  ·rw[Nat.zero_add] at hle htk;exact⟨g,cp,cur,by rw[Nat.zero_add],hg,hc,hle,hm,hsz,htk⟩
 have HF:=zz hfin;have HB:=zz hb;clear hown hgrow hfin hb hnil hnn;go_wp2;go_ret;exact⟨HB.out,v',rfl,HF.out⟩
def zKq(w:World)(P:Nat->Prop)(kind n:Int)(mag:Value)(bits ext:Int)(text:List UInt8)(m X:Nat):Prop:=
 zDW w w.heap.size kind n mag bits ext text m X/\∀ b o k c,mag=.slice (some ⟨b,o,none⟩) k c->P b
def zAm(w:World)(P:Nat->Prop):F->Nat->Value->Prop
 | .stop,_,_=>False
 | .node t X fs,d,v=>∃ (kind n:Int) (mag:Value) (bits ext:Int) (text:List UInt8) (kids:Value) (m:Nat),v=.agg (zAa kind n false mag bits ext (zAc text) kids)/\zKq w P kind n mag bits ext text m X/\zQt kind n X text m t fs /\
  ((m=0/\kids=.slice none 0 0/\d=0) \/
   (0<m/\∃ (b o cap:Nat) (xs:Nat->Array Value) (ds:Nat->Nat),kids=.slice (some ⟨b,o,none⟩) m cap/\m<=cap/\cap<=9223372036854775807/\(b<w.heap.size/\P b)/\zBO w b o m xs/\(∀ i,i<m->zAm w P (fs i) (ds i) (.agg (xs i))/\ds i<d)/\∃ i,i<m/\ds i+1=d))
theorem zDW.lt{w:World}{N:Nat}{kind n:Int}{mag:Value}{bits ext:Int}{text:List UInt8}{m X:Nat}(h:zDW w N kind n mag bits ext text m X):∀ b o k c,mag=.slice (some ⟨b,o,none⟩) k c->b<w.heap.size/\b<N:=by
 intro b o k c e;obtain⟨_,⟨_,_,h,_⟩|⟨_,_,_,_,_,x,hx0,h,hN⟩|⟨_,_,h,_⟩|⟨_,_,h,_⟩|⟨_,_,h,_⟩|⟨_,_,h,_⟩|⟨_,_,h,_⟩⟩:=h
 ·rw[h] at e;simp at e
 ·refine⟨?_,hN b o k c e⟩;obtain⟨_,⟨_,h⟩|⟨blk,off,cap,h,_,_,h3,_⟩⟩:=h
  ·have hp:=zAk (n:=x) (by omega);rw[h] at hp;simp at hp
  ·rw[h] at e;simp only[Value.slice.injEq,Option.some.injEq,Addr.mk.injEq] at e;obtain⟨⟨rfl,_⟩,_⟩:=e;exact h3
 all_goals (rw[h] at e;simp at e)
theorem zDW.size{w:World}{N:Nat}{kind n:Int}{mag:Value}{bits ext:Int}{text:List UInt8}{m X:Nat}(h:zDW w N kind n mag bits ext text m X)(N':Nat)(hN:∀ b o k c,mag=.slice (some ⟨b,o,none⟩) k c->b<N'):zDW w N' kind n mag bits ext text m X:=by
 obtain⟨h0,h|⟨a1,a2,a3,a4,a5,x,hx,hl,h1⟩|h⟩:=h
 ·exact⟨h0,.inl h⟩
 ·exact⟨h0,.inr (.inl ⟨a1,a2,a3,a4,a5,x,hx,hl,hN⟩)⟩
 ·exact⟨h0,.inr (.inr h)⟩
theorem zAm.toN{w:World}{P:Nat->Prop}{N:Nat}(hP:∀ b,P b->b<w.heap.size->b<N):∀ (f:F) (d:Nat) (v:Value),zAm w P f d v->zAU w N f d v
 | .stop,_,_,h=>h
 | .node t X fs,d,v,⟨kind,n,mag,bits,ext,text,kids,m,hv,hf,ht,h⟩=>⟨kind,n,mag,bits,ext,text,kids,m,hv,hf.1.size _ (fun b o k c e=>hP b (hf.2 b o k c e) (hf.1.lt b o k c e).1),ht,by
  rcases h with h|⟨h0,b,o,cap,xs,ds,hk,h1,h2,h3,h4,h5,h6⟩
  ·exact .inl h
  ·exact .inr ⟨h0,b,o,cap,xs,ds,hk,h1,h2,hP b h3.2 h3.1,h4,fun i hi=>⟨zAm.toN hP (fs i) _ _ (h5 i hi).1,(h5 i hi).2⟩,h6⟩⟩
theorem zCe{w w':World}{b:Nat}(hb:b<w.heap.size)(h:w'.heap[b]?=w.heap[b]?):b<w'.heap.size:=by
 rw[Array.getElem?_eq_getElem hb] at h;exact (Array.getElem?_eq_some_iff.1 h).1
theorem zKq.same{w w':World}{P Q:Nat->Prop}{kind n:Int}{mag:Value}{bits ext:Int}{text:List UInt8}{m X:Nat}(h:zKq w P kind n mag bits ext text m X)(hs:∀ b,P b->b<w.heap.size->w'.heap[b]?=w.heap[b]?)(hQ:∀ b,P b->b<w.heap.size->Q b):zKq w' Q kind n mag bits ext text m X:=by
 obtain⟨⟨h0,h⟩,hp⟩:=h;rcases h with h|⟨a1,a2,a3,a4,a5,x,hx,hl,h1⟩|⟨a1,a2,a3,r⟩|⟨a1,a2,a3,r⟩|⟨a1,a2,a3,r⟩|⟨a1,a2,a3,r⟩|⟨a1,a2,a3,r⟩
 ·exact⟨⟨h0,.inl h⟩,fun b o k c e=>by rw[h.2.2.1] at e;simp at e⟩
 ·obtain⟨hf,⟨h,h'⟩|⟨blk,off,cap,hv,q1,q2,q3,q4⟩⟩:=hl
  ·have hp':=zAk (n:=x) (by omega);rw[h'] at hp';simp at hp'
  ·have hP:=hp _ _ _ _ hv;have he:=hs blk hP q3;refine⟨⟨h0,.inr (.inl ⟨a1,a2,a3,a4,a5,x,hx,⟨hf,.inr ⟨blk,off,cap,hv,q1,q2,zCe q3 he,fun i hi=>by rw[World.cell?_of_block (w:=w) (a:=⟨blk,off+i,none⟩) he];exact q4 i hi⟩⟩,fun b o k c e=>?_⟩)⟩,fun b o k c e=>?_⟩
   ·rw[hv] at e;simp only[Value.slice.injEq,Option.some.injEq,Addr.mk.injEq] at e;obtain⟨⟨rfl,_⟩,_⟩:=e;exact zCe q3 he
   ·rw[hv] at e;simp only[Value.slice.injEq,Option.some.injEq,Addr.mk.injEq] at e;obtain⟨⟨rfl,_⟩,_⟩:=e;exact hQ _ hP q3
 ·exact⟨⟨h0,.inr (.inr (.inl ⟨a1,a2,a3,r⟩))⟩,fun b o k c e=>by rw[a3] at e;simp at e⟩
 ·exact⟨⟨h0,.inr (.inr (.inr (.inl ⟨a1,a2,a3,r⟩)))⟩,fun b o k c e=>by rw[a3] at e;simp at e⟩
 ·exact⟨⟨h0,.inr (.inr (.inr (.inr (.inl ⟨a1,a2,a3,r⟩))))⟩,fun b o k c e=>by rw[a3] at e;simp at e⟩
 ·exact⟨⟨h0,.inr (.inr (.inr (.inr (.inr (.inl ⟨a1,a2,a3,r⟩)))))⟩,fun b o k c e=>by rw[a3] at e;simp at e⟩
 ·exact⟨⟨h0,.inr (.inr (.inr (.inr (.inr (.inr ⟨a1,a2,a3,r⟩)))))⟩,fun b o k c e=>by rw[a3] at e;simp at e⟩
theorem zAm.same{w w':World}{P Q:Nat->Prop}(hs:∀ b,P b->b<w.heap.size->w'.heap[b]?=w.heap[b]?)(hQ:∀ b,P b->b<w.heap.size->Q b):∀ (f:F) (d:Nat) (v:Value),zAm w P f d v->zAm w' Q f d v
 | .stop,_,_,h=>h
 | .node t X fs,d,v,⟨kind,n,mag,bits,ext,text,kids,m,hv,hf,ht,h⟩=>⟨kind,n,mag,bits,ext,text,kids,m,hv,hf.same hs hQ,ht,by
  rcases h with h|⟨h0,b,o,cap,xs,ds,hk,h1,h2,h3,h4,h5,h6⟩
  ·exact .inl h
  ·refine .inr ⟨h0,b,o,cap,xs,ds,hk,h1,h2,⟨zCe h3.1 (hs b h3.2 h3.1),hQ b h3.2 h3.1⟩,fun i hi=>⟨(h4 i hi).1,fun j hj=>?_⟩,fun i hi=>⟨zAm.same hs hQ (fs i) _ _ (h5 i hi).1,(h5 i hi).2⟩,h6⟩;rw[World.cell?_of_block (w:=w) (a:=⟨b,o+i*8+j,none⟩) (hs b h3.2 h3.1)];exact (h4 i hi).2 j hj⟩
theorem zB5(w:World)(v:Value)(l:List Nat)(n:Nat)(h:zAf w v l)(hl:l.length<=8589934592)(hn:n+zA7 (val l)<=8388608):
  Calls Tryz.prog 185 #[v,.int .i64 (n:Int)] w fun e w'=>Below w.heap.size w w'/\∃ v',e=.returned v'/\zAf w' v' (zAb (val l*2 ^ n)):=by
 have HS:=zz (zGG w v l n h hl hn);clear h hl hn;go_enter Tryz.func185,Tryz.ntmps185
 go_wp2_with fail
 refine HS.out.mono ?_;rintro e w2 ⟨hb2,v2,rfl,h2⟩;have HB2:=zz hb2;have H2:=zz h2;clear hb2 h2;go_wp2;go_ret;exact⟨HB2.out,_,rfl,H2.out⟩
theorem zP2(w:World)(hG:GW w):
  Calls Tryz.prog 187 #[.int .i64 0] w fun e w'=>Below w.heap.size w w'/\∃ v',e=.returned v'/\zAf w' v' (zAb 1):=by
 have HS:=zz (zPX w hG);clear hG;go_enter Tryz.func187,Tryz.ntmps187
 go_wp2_with fail
 refine HS.out.mono ?_;rintro e w2 ⟨hb2,v2,rfl,h2⟩;have HB2:=zz hb2;have H2:=zz h2;clear hb2 h2;go_wp2;go_ret;exact⟨HB2.out,_,rfl,by rw[show zAb 1=[1] from Limb.zAu (by decide) (by decide)];exact H2.out⟩
def zAx(vn vd vl vh:Value)(ev:Bool):Array Value:=#[vn,vd,vl,vh,.bool ev]
def RtC(w:World)(R:Nat)(vn vd vl vh:Value)(n d l h:Nat)(ev:Bool):Prop:=
 Blk w R (zAx vn vd vl vh ev) 277/\zAf w vn (zAb n)/\zAf w vd (zAb d)/\zAf w vl (zAb l)/\zAf w vh (zAb h)
def Rt(w:World)(R:Nat)(n d l h:Nat)(ev:Bool):Prop:=∃ vn vd vl vh,RtC w R vn vd vl vh n d l h ev
theorem RtC.below{w w':World}{R n d l h:Nat}{vn vd vl vh:Value}{ev:Bool}(hr:RtC w R vn vd vl vh n d l h ev)(hb:Below w.heap.size w w'):RtC w' R vn vd vl vh n d l h ev:=
 ⟨hr.1.below hb hr.1.lt,hr.2.1.below hb,hr.2.2.1.below hb,hr.2.2.2.1.below hb,hr.2.2.2.2.below hb⟩
theorem Rt.below{w w':World}{R n d l h:Nat}{ev:Bool}(hr:Rt w R n d l h ev)(hb:Below w.heap.size w w'):Rt w' R n d l h ev:=by
 obtain⟨vn,vd,vl,vh,hr⟩:=hr;exact⟨vn,vd,vl,vh,hr.below hb⟩
theorem zAf.ex{w w':World}{v:Value}{l:List Nat}(h:zAf w v l){R:Nat}{c:Array Value}{t:TypeId}(hk:Blk w R c t)(hc:∀ (i:Nat) (x:Int),c[i]?≠some (.int .u32 x))(he:Ex (fun k=>k=R) w.heap.size w w'):zAf w' v l:=by
 obtain⟨hf,h|⟨blk,off,cap,hv,h1,h2,h3,h4⟩⟩:=h
 ·exact⟨hf,.inl h⟩
 ·refine⟨hf,.inr ⟨blk,off,cap,hv,h1,h2,by have:=he.size;omega,fun j hj=>?_⟩⟩;have h5:=h4 j hj
  have hne:¬ blk=R:=by
   rintro rfl;rw[hk.cell] at h5;exact hc _ _ h5
  rw[he.cell (a:=⟨blk,off+j,none⟩) h3 hne];exact h5
theorem RtC.noint{w:World}{R n d l h:Nat}{vn vd vl vh:Value}{ev:Bool}(hr:RtC w R vn vd vl vh n d l h ev):∀ (i:Nat) (x:Int),(zAx vn vd vl vh ev)[i]?≠some (.int .u32 x):=by
 obtain⟨b1,c1,rfl⟩:=hr.2.1.slice;obtain⟨b2,c2,rfl⟩:=hr.2.2.1.slice;obtain⟨b3,c3,rfl⟩:=hr.2.2.2.1.slice;obtain⟨b4,c4,rfl⟩:=hr.2.2.2.2.slice;intro i x
 match i with
 | 0=>simp[zAx]
 | 1=>simp[zAx]
 | 2=>simp[zAx]
 | 3=>simp[zAx]
 | 4=>simp[zAx]
 | i+5=>simp[zAx]
structure SBy (R:Nat) (vn vl vh:Value) (u:Array Bool) (w:World):Prop where
 c0:u.getD 8 true=false->w.cell? ⟨R,0,none⟩=some vn
 c2:u.getD 14 true=false->w.cell? ⟨R,2,none⟩=some vl
 c3:u.getD 20 true=false->w.cell? ⟨R,3,none⟩=some vh
theorem SBy.anti{R:Nat}{vn vl vh:Value}(i:Nat)(h8:i≠8)(h14:i≠14)(h20:i≠20)(u:Array Bool)(w:World):SBy R vn vl vh (u.setIfInBounds i true) w ↔ SBy R vn vl vh u w:=by
 constructor
 ·intro h;exact⟨fun e=>h.c0 (by rw[Go.getD_set_ne true h8];exact e),fun e=>h.c2 (by rw[Go.getD_set_ne true h14];exact e),fun e=>h.c3 (by rw[Go.getD_set_ne true h20];exact e)⟩
 ·intro h;exact⟨fun e=>h.c0 (by rw[Go.getD_set_ne true h8] at e;exact e),fun e=>h.c2 (by rw[Go.getD_set_ne true h14] at e;exact e),fun e=>h.c3 (by rw[Go.getD_set_ne true h20] at e;exact e)⟩
theorem zGm(w:World)(R:Nat)(va:Value)(n d l h a:Nat)(ev:Bool)(hR:Rt w R n d l h ev)(ha:zAf w va (zAb a))(hn:(zAb n).length<=100000)(hl:(zAb l).length<=100000)(hh:(zAb h).length<=100000)(ha2:(zAb a).length<=100000):
  Calls Tryz.prog 188 #[.pointer (some ⟨R,0,none⟩),va] w fun e w'=>e=.returned (.tuple #[])/\Rt w' R (n*a) d (l*a) (h*a) ev/\Ex (fun k=>k=R) w.heap.size w w':=by
 obtain⟨vn,vd,vl,vh,hr⟩:=hR;have HLN:=zz hn;have HLL:=zz hl;have HLH:=zz hh;have HLA:=zz ha2;obtain⟨w0,hw0⟩:∃ w0,w0=w.drew:=⟨_,rfl⟩;have HR0:Hid (RtC w0 R vn vd vl vh n d l h ev):=zz (by rw[hw0];exact hr.below (zAd (zK w.heap.size w) 1));have HA0:Hid (zAf w0 va (zAb a)):=zz (by rw[hw0];exact ha.below (zAd (zK w.heap.size w) 1));have HB0:Hid (Below w.heap.size w w0):=zz (by rw[hw0];exact (zAd (zK w.heap.size w) 1));have HW:=zz hw0;clear hn hl hh ha2 hr ha hw0;go_enter Tryz.func188,Tryz.ntmps188
 go_upto_region 0 with fail
 refine wp_region_noPanic ?_;refine zDb (S:=SBy R vn vl vh) (by kernel_rfl) ?_;rw[<-HW.out];have hH:SBy R vn vl vh (Array.replicate 30 false) w0:=⟨fun _=>HR0.out.1.cell 0,fun _=>HR0.out.1.cell 2,fun _=>HR0.out.1.cell 3⟩;refine zAp (d:=some 4) (hd:=by rfl) (i:=0) (oi:=_) (v:=.pointer (some ⟨R,0,none⟩)) rfl (by kernel_rfl) (by kernel_rfl) (by kernel_rfl) (fun _ _ _ h=>h) (SBy.anti 0 (by decide) (by decide) (by decide)) (Or.inl ⟨by rfl,fun w' _=>?_⟩) hH (fun hH=>?_)
 ·clear hH;go_simp
 try simp only[Act.put,zy,zq,zj]
 refine zAp (d:=some 5) (hd:=by rfl) (i:=1) (oi:=_) (v:=.pointer (some ⟨R,0,none⟩)) rfl (by kernel_rfl) (by kernel_rfl) (by kernel_rfl) (fun _ _ _ h=>h) (SBy.anti 1 (by decide) (by decide) (by decide)) (Or.inl ⟨by rfl,fun w' _=>?_⟩) hH (fun hH=>?_)
 ·clear hH;go_simp
 try simp only[Act.put,zy,zq,zj]
 refine zAp (d:=some 6) (hd:=by rfl) (i:=2) (oi:=_) (v:=.pointer (some ⟨R,0,none⟩)) rfl (by kernel_rfl) (by kernel_rfl) (by kernel_rfl) (fun _ _ _ h=>h) (SBy.anti 2 (by decide) (by decide) (by decide)) (Or.inl ⟨by rfl,fun w' _=>?_⟩) hH (fun hH=>?_)
 ·clear hH;go_simp
 try simp only[Act.put,zy,zq,zj]
 refine zAp (d:=some 7) (hd:=by rfl) (i:=3) (oi:=_) (v:=.pointer (some ⟨R,0,none⟩)) rfl (by kernel_rfl) (by kernel_rfl) (by kernel_rfl) (fun _ _ _ h=>h) (SBy.anti 3 (by decide) (by decide) (by decide)) (Or.inl ⟨by rfl,fun w' _=>?_⟩) hH (fun hH=>?_)
 ·clear hH;go_simp
 try simp only[Act.put,zy,zq,zj]
 refine zAp (d:=some 8) (hd:=by rfl) (i:=4) (oi:=_) (v:=.pointer (some ⟨R,0,none⟩)) rfl (by kernel_rfl) (by kernel_rfl) (by kernel_rfl) (fun _ _ _ h=>h) (SBy.anti 4 (by decide) (by decide) (by decide)) (Or.inl ⟨by rfl,fun w' _=>?_⟩) hH (fun hH=>?_)
 ·clear hH;go_simp
 try simp only[Act.put,zy,zq,zj]
 refine zAp (d:=some 9) (hd:=by rfl) (i:=5) (oi:=_) (v:=.pointer (some ⟨R,0,none⟩)) rfl (by kernel_rfl) (by kernel_rfl) (by kernel_rfl) (fun _ _ _ h=>h) (SBy.anti 5 (by decide) (by decide) (by decide)) (Or.inl ⟨by rfl,fun w' _=>?_⟩) hH (fun hH=>?_)
 ·clear hH;go_simp
 try simp only[Act.put,zy,zq,zj]
 refine zDT (T:=fun w'=>w'.cell? ⟨R,0,none⟩=some vn) (d:=some 10) (hd:=by rfl) (i:=6) (k:=8) (oi:=_) (ok:=_) (v:=vn) rfl rfl (by kernel_rfl) (by kernel_rfl) (by kernel_rfl) (by kernel_rfl) (by kernel_rfl) (fun _ _ _ h=>h) (SBy.anti 6 (by decide) (by decide) (by decide)) (fun u w h hs=>hs.c0 h) (Or.inl ⟨by rfl,fun w' hT=>?_⟩) hH (fun hH=>?_)
 ·clear hH;have hT:w'.cell? ⟨R,0,none⟩=some vn:=hT;go_simp
 try simp only[Act.put,zy,zq,zj]
 refine zAp (d:=some 11) (hd:=by rfl) (i:=7) (oi:=_) (v:=va) rfl (by kernel_rfl) (by kernel_rfl) (by kernel_rfl) (fun _ _ _ h=>h) (SBy.anti 7 (by decide) (by decide) (by decide)) (Or.inl ⟨by rfl,fun w' _=>?_⟩) hH (fun hH=>?_)
 ·clear hH;go_simp
 try simp only[Act.put,zy,zq,zj]
 refine zAp (d:=some 13) (hd:=by rfl) (i:=9) (oi:=_) (v:=.pointer (some ⟨R,0,none⟩)) rfl (by kernel_rfl) (by kernel_rfl) (by kernel_rfl) (fun _ _ _ h=>h) (SBy.anti 9 (by decide) (by decide) (by decide)) (Or.inl ⟨by rfl,fun w' _=>?_⟩) hH (fun hH=>?_)
 ·clear hH;go_simp
 try simp only[Act.put,zy,zq,zj]
 refine zAp (d:=some 14) (hd:=by rfl) (i:=10) (oi:=_) (v:=.pointer (some ⟨R,0,none⟩)) rfl (by kernel_rfl) (by kernel_rfl) (by kernel_rfl) (fun _ _ _ h=>h) (SBy.anti 10 (by decide) (by decide) (by decide)) (Or.inl ⟨by rfl,fun w' _=>?_⟩) hH (fun hH=>?_)
 ·clear hH;go_simp
 try simp only[Act.put,zy,zq,zj]
 refine zAp (d:=some 15) (hd:=by rfl) (i:=11) (oi:=_) (v:=.pointer (some ⟨R,2,none⟩)) rfl (by kernel_rfl) (by kernel_rfl) (by kernel_rfl) (fun _ _ _ h=>h) (SBy.anti 11 (by decide) (by decide) (by decide)) (Or.inl ⟨by rfl,fun w' _=>?_⟩) hH (fun hH=>?_)
 ·clear hH;go_simp
 try simp only[Act.put,zy,zq,zj]
 refine zDT (T:=fun w'=>w'.cell? ⟨R,2,none⟩=some vl) (d:=some 16) (hd:=by rfl) (i:=12) (k:=14) (oi:=_) (ok:=_) (v:=vl) rfl rfl (by kernel_rfl) (by kernel_rfl) (by kernel_rfl) (by kernel_rfl) (by kernel_rfl) (fun _ _ _ h=>h) (SBy.anti 12 (by decide) (by decide) (by decide)) (fun u w h hs=>hs.c2 h) (Or.inl ⟨by rfl,fun w' hT=>?_⟩) hH (fun hH=>?_)
 ·clear hH;have hT:w'.cell? ⟨R,2,none⟩=some vl:=hT;go_simp
 try simp only[Act.put,zy,zq,zj]
 refine zAp (d:=some 17) (hd:=by rfl) (i:=13) (oi:=_) (v:=va) rfl (by kernel_rfl) (by kernel_rfl) (by kernel_rfl) (fun _ _ _ h=>h) (SBy.anti 13 (by decide) (by decide) (by decide)) (Or.inl ⟨by rfl,fun w' _=>?_⟩) hH (fun hH=>?_)
 ·clear hH;go_simp
 try simp only[Act.put,zy,zq,zj]
 refine zAp (d:=some 19) (hd:=by rfl) (i:=15) (oi:=_) (v:=.pointer (some ⟨R,0,none⟩)) rfl (by kernel_rfl) (by kernel_rfl) (by kernel_rfl) (fun _ _ _ h=>h) (SBy.anti 15 (by decide) (by decide) (by decide)) (Or.inl ⟨by rfl,fun w' _=>?_⟩) hH (fun hH=>?_)
 ·clear hH;go_simp
 try simp only[Act.put,zy,zq,zj]
 refine zAp (d:=some 20) (hd:=by rfl) (i:=16) (oi:=_) (v:=.pointer (some ⟨R,0,none⟩)) rfl (by kernel_rfl) (by kernel_rfl) (by kernel_rfl) (fun _ _ _ h=>h) (SBy.anti 16 (by decide) (by decide) (by decide)) (Or.inl ⟨by rfl,fun w' _=>?_⟩) hH (fun hH=>?_)
 ·clear hH;go_simp
 try simp only[Act.put,zy,zq,zj]
 refine zAp (d:=some 21) (hd:=by rfl) (i:=17) (oi:=_) (v:=.pointer (some ⟨R,3,none⟩)) rfl (by kernel_rfl) (by kernel_rfl) (by kernel_rfl) (fun _ _ _ h=>h) (SBy.anti 17 (by decide) (by decide) (by decide)) (Or.inl ⟨by rfl,fun w' _=>?_⟩) hH (fun hH=>?_)
 ·clear hH;go_simp
 try simp only[Act.put,zy,zq,zj]
 refine zDT (T:=fun w'=>w'.cell? ⟨R,3,none⟩=some vh) (d:=some 22) (hd:=by rfl) (i:=18) (k:=20) (oi:=_) (ok:=_) (v:=vh) rfl rfl (by kernel_rfl) (by kernel_rfl) (by kernel_rfl) (by kernel_rfl) (by kernel_rfl) (fun _ _ _ h=>h) (SBy.anti 18 (by decide) (by decide) (by decide)) (fun u w h hs=>hs.c3 h) (Or.inl ⟨by rfl,fun w' hT=>?_⟩) hH (fun hH=>?_)
 ·clear hH;have hT:w'.cell? ⟨R,3,none⟩=some vh:=hT;go_simp
 try simp only[Act.put,zy,zq,zj]
 refine zAp (d:=some 23) (hd:=by rfl) (i:=19) (oi:=_) (v:=va) rfl (by kernel_rfl) (by kernel_rfl) (by kernel_rfl) (fun _ _ _ h=>h) (SBy.anti 19 (by decide) (by decide) (by decide)) (Or.inl ⟨by rfl,fun w' _=>?_⟩) hH (fun hH=>?_)
 ·clear hH;go_simp
 try simp only[Act.put,zy,zq,zj]
 refine zBr (i:=8) (o:=_) (by kernel_rfl) rfl (fun K hK=>?_);go_simp;refine (zCp w0 vn va _ _ HR0.out.2.1 HA0.out (by have:=HLN.out;omega) (by have:=HLA.out;omega)).mono ?_;rintro e w1 ⟨hb1,v1,rfl,hv1⟩;rw[zAe,zAe] at hv1;obtain⟨sb1,sc1,hs1⟩:=hv1.slice;obtain⟨ln1,hl1⟩:∃ ln,ln=(zAb (n*a)).length:=⟨_,rfl⟩;rw[<-hl1] at hs1;subst hs1;have HR1:=zz (HR0.out.below hb1);have HA1:=zz (HA0.out.below hb1);have HB1:=zz (HB0.out.trans (hb1.mono HB0.out.size));have HL11:=zz hv1;clear hb1 hv1 hl1;go_wp2_with fail
 refine hK.out _ _ ⟨fun _=>HR1.out.1.cell 0,fun _=>HR1.out.1.cell 2,fun _=>HR1.out.1.cell 3⟩ (fun hH=>?_);clear hK K
 try simp only[Act.put,zy,zq,zj]
 refine zBr (i:=14) (o:=_) (by kernel_rfl) rfl (fun K hK=>?_);go_simp;refine (zCp w1 vl va _ _ HR1.out.2.2.2.1 HA1.out (by have:=HLL.out;omega) (by have:=HLA.out;omega)).mono ?_;rintro e w2 ⟨hb2,v2,rfl,hv2⟩;rw[zAe,zAe] at hv2;obtain⟨sb2,sc2,hs2⟩:=hv2.slice;obtain⟨ln2,hl2⟩:∃ ln,ln=(zAb (l*a)).length:=⟨_,rfl⟩;rw[<-hl2] at hs2;subst hs2;have HR2:=zz (HR1.out.below hb2);have HA2:=zz (HA1.out.below hb2);have HB2:=zz (HB1.out.trans (hb2.mono HB1.out.size));have HL21:=zz (HL11.out.below hb2);have HL22:=zz hv2;clear hb2 hv2 hl2;go_wp2_with fail
 refine hK.out _ _ ⟨fun _=>HR2.out.1.cell 0,fun _=>HR2.out.1.cell 2,fun _=>HR2.out.1.cell 3⟩ (fun hH=>?_);clear hK K
 try simp only[Act.put,zy,zq,zj]
 refine zBr (i:=20) (o:=_) (by kernel_rfl) rfl (fun K hK=>?_);go_simp;refine (zCp w2 vh va _ _ HR2.out.2.2.2.2 HA2.out (by have:=HLH.out;omega) (by have:=HLA.out;omega)).mono ?_;rintro e w3 ⟨hb3,v3,rfl,hv3⟩;rw[zAe,zAe] at hv3;obtain⟨sb3,sc3,hs3⟩:=hv3.slice;obtain⟨ln3,hl3⟩:∃ ln,ln=(zAb (h*a)).length:=⟨_,rfl⟩;rw[<-hl3] at hs3;subst hs3;have HR3:=zz (HR2.out.below hb3);have HA3:=zz (HA2.out.below hb3);have HB3:=zz (HB2.out.trans (hb3.mono HB2.out.size));have HL31:=zz (HL21.out.below hb3);have HL32:=zz (HL22.out.below hb3);have HL33:=zz hv3;clear hb3 hv3 hl3;go_wp2_with fail
 refine hK.out _ _ ⟨fun _=>HR3.out.1.cell 0,fun _=>HR3.out.1.cell 2,fun _=>HR3.out.1.cell 3⟩ (fun hH=>?_);clear hK K
 try simp only[Act.put,zy,zq,zj]
 have HXa:=zz HR3.out.1;have HEa:=zz (Ex.of_below (S:=fun k=>k=R) HB3.out);refine zAp (d:=some 25) (hd:=by rfl) (i:=21) (oi:=_) (v:=.pointer (some ⟨R,0,none⟩)) rfl (by kernel_rfl) (by kernel_rfl) (by kernel_rfl) (fun _ _ _ h=>h) (SBy.anti 21 (by decide) (by decide) (by decide)) (Or.inl ⟨by rfl,fun w' _=>?_⟩) hH (fun hH=>?_)
 ·clear hH;go_simp
 try simp only[Act.put,zy,zq,zj]
 refine zAp (d:=some 26) (hd:=by rfl) (i:=22) (oi:=_) (v:=.pointer (some ⟨R,0,none⟩)) rfl (by kernel_rfl) (by kernel_rfl) (by kernel_rfl) (fun _ _ _ h=>h) (SBy.anti 22 (by decide) (by decide) (by decide)) (Or.inl ⟨by rfl,fun w' _=>?_⟩) hH (fun hH=>?_)
 ·clear hH;go_simp
 try simp only[Act.put,zy,zq,zj]
 refine zBr (i:=23) (o:=_) (by kernel_rfl) rfl (fun K hK=>?_);have e0:=HXa.out.cell 0;have f0:=HXa.out.free 0;simp only[zAx,zv,zk,zx] at e0;go_simp;go_wp2_with fail
 clear e0 f0;refine hK.out _ _ ⟨fun h=>absurd h (by decide),fun h=>absurd h (by decide),fun h=>absurd h (by decide)⟩ (fun hH=>?_);clear hK K
 try simp only[Act.put,zy,zq,zj]
 have HXb:=zz (HXa.out.set 0 (.slice sb1 ln1 sc1));have HEb:=zz (HEa.out.setCell R 0 (Or.inl rfl) (.slice sb1 ln1 sc1));refine zAp (d:=some 27) (hd:=by rfl) (i:=24) (oi:=_) (v:=.pointer (some ⟨R,0,none⟩)) rfl (by kernel_rfl) (by kernel_rfl) (by kernel_rfl) (fun _ _ _ h=>h) (SBy.anti 24 (by decide) (by decide) (by decide)) (Or.inl ⟨by rfl,fun w' _=>?_⟩) hH (fun hH=>?_)
 ·clear hH;go_simp
 try simp only[Act.put,zy,zq,zj]
 refine zAp (d:=some 28) (hd:=by rfl) (i:=25) (oi:=_) (v:=.pointer (some ⟨R,2,none⟩)) rfl (by kernel_rfl) (by kernel_rfl) (by kernel_rfl) (fun _ _ _ h=>h) (SBy.anti 25 (by decide) (by decide) (by decide)) (Or.inl ⟨by rfl,fun w' _=>?_⟩) hH (fun hH=>?_)
 ·clear hH;go_simp
 try simp only[Act.put,zy,zq,zj]
 refine zBr (i:=26) (o:=_) (by kernel_rfl) rfl (fun K hK=>?_);have e2:=HXb.out.cell 2;have f2:=HXb.out.free 2;simp only[zAx,zv,zk,zx] at e2;go_simp;go_wp2_with fail
 clear e2 f2;refine hK.out _ _ ⟨fun h=>absurd h (by decide),fun h=>absurd h (by decide),fun h=>absurd h (by decide)⟩ (fun hH=>?_);clear hK K
 try simp only[Act.put,zy,zq,zj]
 have HXc:=zz (HXb.out.set 2 (.slice sb2 ln2 sc2));have HEc:=zz (HEb.out.setCell R 2 (Or.inl rfl) (.slice sb2 ln2 sc2));refine zAp (d:=some 29) (hd:=by rfl) (i:=27) (oi:=_) (v:=.pointer (some ⟨R,0,none⟩)) rfl (by kernel_rfl) (by kernel_rfl) (by kernel_rfl) (fun _ _ _ h=>h) (SBy.anti 27 (by decide) (by decide) (by decide)) (Or.inl ⟨by rfl,fun w' _=>?_⟩) hH (fun hH=>?_)
 ·clear hH;go_simp
 try simp only[Act.put,zy,zq,zj]
 refine zAp (d:=some 30) (hd:=by rfl) (i:=28) (oi:=_) (v:=.pointer (some ⟨R,3,none⟩)) rfl (by kernel_rfl) (by kernel_rfl) (by kernel_rfl) (fun _ _ _ h=>h) (SBy.anti 28 (by decide) (by decide) (by decide)) (Or.inl ⟨by rfl,fun w' _=>?_⟩) hH (fun hH=>?_)
 ·clear hH;go_simp
 try simp only[Act.put,zy,zq,zj]
 refine zBr (i:=29) (o:=_) (by kernel_rfl) rfl (fun K hK=>?_);have e3:=HXc.out.cell 3;have f3:=HXc.out.free 3;simp only[zAx,zv,zk,zx] at e3;go_simp;go_wp2_with fail
 clear e3 f3;refine hK.out _ _ ⟨fun h=>absurd h (by decide),fun h=>absurd h (by decide),fun h=>absurd h (by decide)⟩ (fun hH=>?_);clear hK K
 try simp only[Act.put,zy,zq,zj]
 have HXd:=zz (HXc.out.set 3 (.slice sb3 ln3 sc3));have HEd:=zz (HEc.out.setCell R 3 (Or.inl rfl) (.slice sb3 ln3 sc3));refine zED (by kernel_rfl) ?_ _;refine NoPanic.normal ?_;have HEz:Hid (Ex (fun k=>k=R) w3.heap.size w3 (((w3.setCell ⟨R,0,none⟩ (.slice sb1 ln1 sc1)).setCell ⟨R,2,none⟩ (.slice sb2 ln2 sc2)).setCell ⟨R,3,none⟩ (.slice sb3 ln3 sc3))):=zz ((((Ex.refl (fun k=>k=R) _ _).setCell R 0 (Or.inl rfl) _).setCell R 2 (Or.inl rfl) _).setCell R 3 (Or.inl rfl) _);have HNI:=zz (RtC.noint (w:=w3) (vn:=vn) (vd:=vd) (vl:=vl) (vh:=vh) (n:=n) (d:=d) (l:=l) (h:=h) (ev:=ev) (R:=R) HR3.out);go_wp2;go_end0
 exact⟨rfl,⟨_,_,_,_,HXd.out,HL31.out.ex HR3.out.1 HNI.out HEz.out,HR3.out.2.2.1.ex HR3.out.1 HNI.out HEz.out,HL32.out.ex HR3.out.1 HNI.out HEz.out,HL33.out.ex HR3.out.1 HNI.out HEz.out⟩,HEd.out⟩
def Mag(w:World)(N:Nat)(v:Value)(l:List Nat):Prop:=zAf w v l/\∀ b o k c,v=.slice (some ⟨b,o,none⟩) k c->0<c->b<N
def VA.fit(a:VA)(kind:Int):Prop:=a.kind=kind.toNat/\-128<=kind/\kind<128/\a.n<18446744073709551616/\a.bits<18446744073709551616/\-128<=a.ext/\a.ext<128
def zAh(a:VA)(kind:Int)(mag kids:Value):Array Value:=zAa kind (a.n:Int) a.neg mag (a.bits:Int) a.ext (zAc a.text) kids
def zAl(w:World)(N:Nat):VT->Value->Prop
 | .stop,_=>False
 | .node a m fs,v=>∃ (kind:Int) (mag:Value) (kb:Option Addr) (cap:Nat),v=.agg (zAh a kind mag (.slice kb m cap))/\a.fit kind/\Mag w N mag a.mag/\m<=cap/\cap<=9223372036854775807 /\
  (m=0 \/ ∃ (b o:Nat) (xs:Nat->Array Value),kb=some ⟨b,o,none⟩/\b<N/\zBO w b o m xs/\∀ i,i<m->zAl w N (fs i) (.agg (xs i)))
theorem Mag.below{w w':World}{N:Nat}{v:Value}{l:List Nat}(h:Mag w N v l)(hb:Below N w w'):Mag w' N v l:=by
 obtain⟨⟨hf,h⟩,hN⟩:=h;refine⟨⟨hf,?_⟩,hN⟩;rcases h with h|⟨blk,off,cap,hv,h1,h2,h3,h4⟩
 ·exact .inl h
 ·by_cases hc:cap=0
  ·subst hc;exact .inl ⟨⟨_,by rw[hv,show l.length=0 by omega]⟩,List.eq_nil_of_length_eq_zero (by omega)⟩
  have hbN:=hN _ _ _ _ hv (by omega);exact .inr ⟨blk,off,cap,hv,h1,h2,by have:=hb.size;omega,fun i hi=>by rw[hb.cell (p:=⟨blk,off+i,none⟩) hbN];exact h4 i hi⟩
theorem Mag.mono{w:World}{N N':Nat}{v:Value}{l:List Nat}(h:Mag w N v l)(hN:N<=N'):Mag w N' v l:=⟨h.1,fun b o k c e e2=>Nat.lt_of_lt_of_le (h.2 b o k c e e2) hN⟩
theorem zAl.below{w w':World}{N:Nat}(hb:Below N w w'):∀ (f:VT) (v:Value),zAl w N f v->zAl w' N f v
 | .stop,_,h=>h
 | .node a m fs,v,⟨kind,mag,kb,cap,hv,hf,hm,h1,h2,h⟩=>⟨kind,mag,kb,cap,hv,hf,hm.below hb,h1,h2,by
  rcases h with h|⟨b,o,xs,hk,h3,h4,h5⟩
  ·exact .inl h
  ·exact .inr ⟨b,o,xs,hk,h3,h4.below hb h3,fun i hi=>zAl.below hb (fs i) _ (h5 i hi)⟩⟩
theorem zAl.mono{w:World}{N N':Nat}(hN:N<=N'):∀ (f:VT) (v:Value),zAl w N f v->zAl w N' f v
 | .stop,_,h=>h
 | .node a m fs,v,⟨kind,mag,kb,cap,hv,hf,hm,h1,h2,h⟩=>⟨kind,mag,kb,cap,hv,hf,hm.mono hN,h1,h2,by
  rcases h with h|⟨b,o,xs,hk,h3,h4,h5⟩
  ·exact .inl h
  ·exact .inr ⟨b,o,xs,hk,by omega,h4,fun i hi=>zAl.mono hN (fs i) _ (h5 i hi)⟩⟩
theorem zAl.cells{w:World}{N:Nat}{f:VT}{v:Value}(h:zAl w N f v):∃ (a:VA) (kind:Int) (mb:Option Addr) (mn mc:Nat) (kb:Option Addr) (kn kc:Nat),v=.agg (zAh a kind (.slice mb mn mc) (.slice kb kn kc)):=by
 cases f with
 | stop=>exact h.elim
 | node a m fs=>
  obtain⟨kind,mag,kb,cap,rfl,_,hm,_⟩:=h;obtain⟨mb,mc,rfl⟩:=hm.1.slice;exact⟨a,kind,_,_,_,_,_,_,rfl⟩
def VT.small:Nat->VT->Prop
 | _,.stop=>False
 | d,.node a m fs=>a.mag.length<=1048576/\a.text.length<=2147483648/\m<=1048576/\∀ i,i<m->0<d/\(fs i).small (d - 1)
theorem VT.small.mono:∀ {f:VT} {d e:Nat},f.small d->d<=e->f.small e
 | .stop,_,_,h,_=>by cases ‹Nat› <;> exact h.elim
 | .node a m fs,d,e,h,hde=>by
  unfold VT.small at h ⊢;exact⟨h.1,h.2.1,h.2.2.1,fun i hi=>⟨by have:=(h.2.2.2 i hi).1;omega,(h.2.2.2 i hi).2.mono (by omega)⟩⟩
def VT.wide:VT->Prop
 | .stop=>True
 | .node a m fs=>a.mag.length<=70368744177664/\a.text.length<=140737488355328/\m<=70368744177664/\∀ i,i<m->(fs i).wide
theorem VA.kind_pos{a:VA}{m:Nat}(h:a.ok m):0<a.kind:=by
 rcases h with h|h|h|h|h|h|h|h|h|h|h <;> (have:=h.1;omega)
end Go.Proofs.YtcanfakaigpkgaaGreatDoor.D
