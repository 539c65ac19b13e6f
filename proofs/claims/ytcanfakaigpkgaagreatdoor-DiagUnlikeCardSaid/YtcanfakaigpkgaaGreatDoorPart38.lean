/-
  Of the proof that the law DiagUnlike answers true at every two values: a part, without conditions of its own.
-/
import Derived.Test.YtcanfakaigpkgaaGreatDoorPart36
set_option linter.unusedVariables false
set_option linter.unusedSimpArgs false
set_option maxRecDepth 100000
set_option maxHeartbeats 8000000
namespace Go.Proofs.YtcanfakaigpkgaaGreatDoor.D
open Go Go.RowKit Limb
attribute [local go_sem high] zAI zAg zBv zAz
structure Btw (S:List UInt8) (a b:Nat):Prop where
 f:∃ f0,btw S f0 a=b
 out:b<S.length->S.getD b 0 ∉ zDR
 le:a<=S.length
theorem Btw.call{S:List UInt8}{a b:Nat}(h:Btw S a b)(hS:S.length<=1099511627776)(w:World)(p:Nat)(op:Bool)(hr:Rd w p S a op):
  Calls Tryz.prog 28 #[.pointer (some ⟨p,0,none⟩)] w fun e w'=>e=.returned (.tuple #[])/\Rs p S b op w w':=by
 obtain⟨f0,hf⟩:=h.f;exact zHa w p S a b op hr hS f0 hf h.out h.le
theorem Btw.none{S:List UInt8}{a:Nat}(h:a<S.length->S.getD a 0 ∉ zDR)(hl:a<=S.length):Btw S a a:=⟨⟨0,rfl⟩,h,hl⟩
theorem zOo(S:List UInt8)(a b b1 e1 e2 ar n:Nat)(f:F)(d:Nat)(op1:Bool)(hn:n=1 \/ n=10)(har:ar<128)(hb:b<S.length)(hS:S.length<=1099511627776)(hB1:Btw S (b+1) b1)(hR:zCn S b1 e1 (ar+1) f d op1)(hB2:Btw S e1 e2)(he:e2<S.length)(hc:S.getD e2 0=41):
  zId 105 [.int .u64 (n:Int),.int .i64 (a:Int),.int .i64 (ar:Int)] S b (e2+1) (.node ((if (n:Int)=1 then [49] else [49,48]) ++ [40] ++ zAF [] [] 1 (fun _=>f) 1 ++ [41]) 0 (fun _=>f)) (d+1) false false:=by
 obtain⟨T,hTT⟩:∃ T,T=(if (n:Int)=1 then [49] else [49,48]) ++ [40] ++ zAF [] [] 1 (fun _=>f) 1 ++ [41]:=⟨_,rfl⟩;rw[<-hTT];have HTT:=zz hTT;have HN:=zz hn;clear hTT hn;intro w p hG hp hr;obtain⟨w0,hw0⟩:∃ w0,w0=w.alloc (.cells zAr 31):=⟨_,rfl⟩;have hb0:Below w.heap.size w w0:=by rw[hw0];exact (zK _ _).alloc (zQ _) _
 have hX:Blk w0 w.heap.size zAr 31:=by rw[hw0];exact Blk.new _ _ _
 have hr0:Rd w0 p S b false:=Blk.below hr hb0 (Blk.lt hr);have hpw:p<w.heap.size:=Blk.lt hr;have hpX:w.heap.size≠p:=by omega
 have hE0:Ex (fun k=>k=p) w.heap.size w w0:=Ex.of_below hb0;have c1:=hr0.at1;have f1:w0.frozen? ⟨p,1,none⟩=false:=Blk.free hr0 1;obtain⟨b',hb'⟩:∃ b',b'=b+1:=⟨_,rfl⟩;obtain⟨ar',har'⟩:∃ ar',ar'=ar+1:=⟨_,rfl⟩;rw[<-hb'] at hB1;rw[<-har'] at hR;have g3:IntKind.i64.wrap ((b:Int)+1)=(b':Int):=by rw[zY _ (by omega),hb'];simp
 have g4:IntKind.i64.wrap ((ar:Int)+1)=(ar':Int):=by rw[zY _ (by omega),har'];simp
 have hr1:Rd (w0.setCell ⟨p,1,none⟩ (.int .i64 (b':Int))) p S b' false:=hr0.set1 b';have hX1:=hX.set_other ⟨p,1,none⟩ (.int .i64 (b':Int)) hpX;have hE1:=hE0.setCell p 1 (.inl rfl) (.int .i64 (b':Int));have HG:=zz hG;have HW0:=zz hw0;have HR1:=zz hr1;have HX1:=zz hX1;have HE1:=zz hE1;have HRD:=zz hR;have HB1:=zz hB1;have HB2:=zz hB2;have HC:=zz hc;clear hG hw0 hb0 hX hr0 hr hE0 hr1 hX1 hE1 hR hB1 hB2 hc hb' har';show Calls _ _ #[_,_,_,_] _ _;go_enter Tryz.func105,Tryz.ntmps105
 go_upto_region 1 with fail
 change Code.wp _ _ _ _ (w.alloc (.cells zAr 31));rw[<-HW0.out];go_wp2_with fail
 refine (zFD w0 (ar:Int) (a:Int) (by omega)).mono ?_;rintro e w9 ⟨rfl,rfl⟩;go_upto_region 3 with fail
 clear c1 f1 g3;generalize w9.setCell ⟨p,1,none⟩ (.int .i64 (b':Int))=w1 at HR1 HX1 HE1 ⊢;have hsz1:w.heap.size<w1.heap.size:=HX1.out.lt;go_wp2_with fail
 refine (HB1.out.call hS w1 p false HR1.out).mono ?_;rintro e w2 ⟨rfl,hr2⟩;have HX2:=zz (hr2.2.blk HX1.out hsz1 hpX);have HE2:=zz (HE1.out.trans (hr2.2.mono (by omega) (fun _ h=>h)));have HR2:=zz hr2.1;have hsz2:w.heap.size<w2.heap.size:=HX2.out.lt;clear hr2 HX1 HE1 HR1 hsz1 HW0;have HQ:=zz (HRD.out false w2 p (HG.out.ex HE2.out hp) hp HR2.out);go_wp2_with fail
 refine HQ.out.mono ?_;rintro e w3 ⟨hr3,v3,rfl,hT3⟩;obtain⟨k1,k2,k3,k4,k5,k6,k7,k8,k9,k10,k11,rfl⟩:=hT3.row;have hX3:=hr3.2.blk HX2.out hsz2 hpX;have hE3:=HE2.out.trans (hr3.2.mono (by omega) (fun _ h=>h));obtain⟨w4,hw4⟩:∃ w4,w4=w3.alloc (.cells (zAa k1 k2 false (.slice k3 k4 k5) k6 k7 (zAc k8) (.slice k9 k10 k11)) 31):=⟨_,rfl⟩;have hb4:Below w3.heap.size w3 w4:=by rw[hw4];exact (zK _ _).alloc (zQ _) _
 have hY4:Blk w4 w3.heap.size (zAa k1 k2 false (.slice k3 k4 k5) k6 k7 (zAc k8) (.slice k9 k10 k11)) 31:=by rw[hw4];exact Blk.new _ _ _
 have hsz3:w.heap.size<w3.heap.size:=hX3.lt;have HX4:=zz (hX3.below hb4 hX3.lt);have HR4:Hid (Rd w4 p S e1 op1):=zz (Blk.below hr3.1 hb4 (Blk.lt hr3.1));have HE4:=zz (hE3.trans (Ex.of_below (hb4.mono (Nat.le_of_lt hsz3))));have HT4:=zz (zAm.same (Q:=fun k=>w.heap.size<k/\k<w3.heap.size) (fun k _ hk'=>hb4.block k hk') (fun k hk hk'=>⟨by omega,hk'⟩) _ _ _ hT3);have HY4:=zz hY4;have HW4:=zz hw4;have hpY:w3.heap.size≠p:=by have:=Blk.lt hr3.1;omega
 obtain⟨Y,hY⟩:∃ Y,Y=w3.heap.size:=⟨_,rfl⟩;rw[<-hY] at HY4 HT4 hpY hsz3;have HYY:=zz hY;clear hr3 hX3 hE3 hT3 hb4 hY4 hw4 HQ HX2 HE2 HR2 hsz2 HRD hY;simp only[zAa];go_upto_region 5 with fail
 change Code.wp _ _ _ _ (w3.alloc (.cells (zAa k1 k2 false (.slice k3 k4 k5) k6 k7 (zAc k8) (.slice k9 k10 k11)) 31));rw[<-HW4.out,<-HYY.out];have hsz4:w.heap.size<w4.heap.size:=HX4.out.lt;have hY4:Y<w4.heap.size:=HY4.out.lt;go_wp2_with fail
 refine (HB2.out.call hS w4 p op1 HR4.out).mono ?_;rintro e w5 ⟨rfl,hr5⟩;have HX5:=zz (hr5.2.blk HX4.out hsz4 hpX);have HY5:=zz (hr5.2.blk HY4.out hY4 hpY);have HE5:=zz (HE4.out.trans (hr5.2.mono (by omega) (fun _ h=>h)));have HT5:=zz (zAm.same (fun k hk hk'=>hr5.2.block k hk' (fun e=>by omega)) (fun k hk _=>hk) _ _ _ HT4.out);have HR5:=zz hr5.1;have hsz5:w.heap.size<w5.heap.size:=HX5.out.lt;clear hr5 HX4 HY4 HE4 HT4 HR4 hsz4 hY4 HW4;go_wp2_with fail
 refine (zDL w5 p S e2 op1 HR5.out [41] (by show e2+1<=S.length;omega) hS (fun i hi=>by
  have h0:i=0:=by simpa using hi
  subst h0;exact HC.out)).mono ?_
 rintro e w6 ⟨rfl,hr6⟩;have hx6:=hr6.2.blk HX5.out hsz5 hpX;have hy6:=hr6.2.blk HY5.out HY5.out.lt hpY;have he6:=HE5.out.trans (hr6.2.mono (by omega) (fun _ h=>h));have ht6:=zAm.same (Q:=fun k=>w.heap.size<k/\k<Y) (fun k hk hk'=>hr6.2.block k hk' (fun e=>by omega)) (fun k hk _=>hk) _ _ _ HT5.out;have c2:=hr6.1.at2;have f2:w6.frozen? ⟨p,2,none⟩=false:=Blk.free hr6.1 2;have HR7:Hid (Rd (w6.setCell ⟨p,2,none⟩ (.bool false)) p S (e2+1) false):=zz (hr6.1.set2 false);have HX7:=zz (hx6.set_other ⟨p,2,none⟩ (.bool false) hpX);have hy7:=hy6.set_other ⟨p,2,none⟩ (.bool false) hpY;have HE7:=zz (he6.setCell p 2 (.inl rfl) (.bool false));have HT7:=zz (zAm.same (w':=w6.setCell ⟨p,2,none⟩ (.bool false)) (Q:=fun k=>w.heap.size<k/\k<Y) (fun k hk _=>Below.heap_setCell _ _ _ _ (by show k≠p;omega)) (fun k hk _=>hk) _ _ _ ht6);clear hr6 HX5 HY5 HE5 HT5 HR5 hsz5 hx6 hy6 he6 ht6;go_upto_region 8 with fail
 clear c2 f2;generalize w6.setCell ⟨p,2,none⟩ (.bool false)=w7 at HR7 HX7 hy7 HE7 HT7 ⊢;have d0:=hy7.cell 0;have d1:=hy7.cell 1;have d2:=hy7.cell 2;have d3:=hy7.cell 3;have d4:=hy7.cell 4;have d5:=hy7.cell 5;have d6:=hy7.cell 6;have d7:=hy7.cell 7;simp only[zAa,zv,zk,zx] at d0 d1 d2 d3 d4 d5 d6 d7;have hsz7:w.heap.size<w7.heap.size:=HX7.out.lt;have HY7:=zz hy7;clear hy7;obtain⟨w8,hw8⟩:∃ w8,w8=w7.alloc (.cells (zAa k1 k2 false (.slice k3 k4 k5) k6 k7 (zAc k8) (.slice k9 k10 k11)) 31):=⟨_,rfl⟩;have hb8:Below w7.heap.size w7 w8:=by rw[hw8];exact (zK _ _).alloc (zQ _) _
 have hZ8:Blk w8 w7.heap.size (zAa k1 k2 false (.slice k3 k4 k5) k6 k7 (zAc k8) (.slice k9 k10 k11)) 31:=by rw[hw8];exact Blk.new _ _ _
 have HX8:=zz (HX7.out.below hb8 hsz7);have HR8:Hid (Rd w8 p S (e2+1) false):=zz (Blk.below HR7.out hb8 (Blk.lt HR7.out));have HE8:=zz (HE7.out.trans (Ex.of_below (hb8.mono (Nat.le_of_lt hsz7))));have HT8:=zz (zAm.same (Q:=fun k=>w.heap.size<k) (fun k _ hk'=>hb8.block k hk') (fun k hk hk'=>hk.1) _ _ _ HT7.out);have HZ8:=zz hZ8;have HW8:=zz hw8;clear hb8 hZ8 hw8 HX7 HR7 HE7 HT7;clear d0 d1 d2 d3 d4 d5 d6 d7;refine wp_region_lit ?_;iterate 3 go_step
 refine wpList_load_row rfl 31 _ rfl Y rfl 31 _ (0,0) _ HY7.out Tryz.underlying31 rfl (by kernel_rfl) ?_;simp only[zAa] at HW8 ⊢;iterate 6 go_step
 rw[<-HW8.out];refine wpList_store_row rfl 31 _ _ rfl w.heap.size (zAa 9 n false (.slice none 0 0) 0 0 ⟨#[]⟩ (.slice (some ⟨w7.heap.size,0,none⟩) 1 1)) rfl rfl 31 _ HX8.out (by kernel_rfl) rfl (zAo _ _ _ _ _ _ _ _ rfl rfl) ?_;have HFIN:Hid (Blk (w8.setRow w.heap.size (zAa 9 n false (.slice none 0 0) 0 0 ⟨#[]⟩ (.slice (some ⟨w7.heap.size,0,none⟩) 1 1))) w.heap.size (zAa 9 n false (.slice none 0 0) 0 0 ⟨#[]⟩ (.slice (some ⟨w7.heap.size,0,none⟩) 1 1)) 31):=zz (setRow_heap _ _ _ _ _ _ HX8.out);go_wp2;refine bodyPost_ret (v:=.agg (zAa 9 n false (.slice none 0 0) 0 0 (zAc []) (.slice (some ⟨w7.heap.size,0,none⟩) 1 1))) (results_cell_row rfl _ _ w.heap.size 31 _ (0,0) _ rfl HFIN.out Tryz.underlying31 rfl (by kernel_rfl)) rfl ⟨Rs.setRow ⟨HR8.out,HE8.out⟩ (zQ _) hpX _,_,rfl,?_⟩;have hoth:∀ k,k≠w.heap.size->(w8.setRow w.heap.size (zAa 9 n false (.slice none 0 0) 0 0 ⟨#[]⟩ (.slice (some ⟨w7.heap.size,0,none⟩) 1 1))).heap[k]?=w8.heap[k]?:=fun k hk=>setRow_other _ _ _ _ hk
 have hz:w7.heap.size<w8.heap.size:=HZ8.out.lt;refine⟨9,n,.slice none 0 0,0,0,[],_,1,rfl,⟨⟨rfl,.inr (.inr (.inr (.inr (.inr (.inr ⟨rfl,by have:=HN.out;omega,rfl,rfl,rfl,rfl⟩)))))⟩,New.none _ _ _⟩,?_,.inr ⟨by omega,w7.heap.size,0,1,fun _=>zAa k1 k2 false (.slice k3 k4 k5) k6 k7 (zAc k8) (.slice k9 k10 k11),fun _=>d,rfl,zQ _,by omega,⟨by simpa using hz,by omega⟩,?_,fun i hi=>⟨?_,Nat.lt_succ_self d⟩,⟨0,by omega,rfl⟩⟩⟩
 ·exact⟨fun e=>by omega,fun e=>by omega,fun e=>by omega,fun e=>by omega,fun e=>by omega,fun e=>by omega,fun _=>HTT.out⟩
 ·intro i hi;obtain rfl:i=0:=by omega
  refine⟨rfl,fun j hj=>?_⟩;rw[World.cell?_of_block (w:=w8) (a:=⟨w7.heap.size,0+0*8+j,none⟩) (hoth _ (by show w7.heap.size≠_;omega)),HZ8.out.cell];simp
 ·exact zAm.same (fun k hk _=>hoth k (by omega)) (fun k hk _=>by omega) _ _ _ HT8.out
end Go.Proofs.YtcanfakaigpkgaaGreatDoor.D
namespace Go.Proofs.YtcanfakaigpkgaaGreatDoor.D
open Go Go.RowKit Limb
theorem zG6(w:World)(base:Nat)(v:Value)(n:Nat)(xs:List Value)(hown:w.ownsRow base 31 8 v n xs)(a:Addr)(m c:Nat)(hm:0<m)(news:List Value)(hl:news.length=m*8)(hnews:∀ j u,news[j]?=some u->w.cell? (a.add j)=some u)(h1:∀ u ∈ news,u.oneCell'=true)
  (hn:n+m<=1000) (hbase:base<=w.heap.size) (ty:TypeId) :
  ∃ v' w',(Builtin.append_ #[29,29] ty #[v,.slice (some a) m c]).run Tryz.prog w=.ok v' w'/\w'.ownsRow base 31 8 v' (n+m) (xs ++ news)/\w.grownBy w' v.ownBlock/\∃ g cp,v'=.slice (some ⟨g,0,none⟩) (n+m) cp/\(v.ownBlock=some g \/ w.heap.size<=g):=by
 obtain⟨i0,hi0,hz0,hs0,hb0⟩:=zEd;have h63:n+m<=maxLen:=by unfold maxLen;omega
 have hby:(n+m)*104<=140737488355328:=by omega
 rcases hown.2 with ⟨rfl,rfl⟩|⟨g,cap,cur,rfl,hbg,hg,hnc,hcm,hcs,htake⟩
 ·have hx:xs=[]:=List.eq_nil_of_length_eq_zero (by simpa using hown.1);subst hx;obtain⟨v',w',hr,h2,h3,h4⟩:=run_append_own (P:=Tryz.prog) w w.heap.size 29 ty 31 i0 _ 8 104 Tryz.underlying29 hi0 hz0 hs0 hb0 rfl (by decide) _ 0 [] (World.ownsRow_nil _ _ _ _) a m c news hl hnews h1 h63 hby (zQ _);refine⟨v',w',hr,?_,h3,?_⟩
  ·obtain⟨p1,p2|⟨g,cap,cur,p3,p4,p5⟩⟩:=h2
   ·exact⟨p1,.inl p2⟩
   ·exact⟨p1,.inr ⟨g,cap,cur,p3,by omega,p5⟩⟩
  ·rcases h2.2 with ⟨p,_⟩|⟨g,cap,cur,p3,p4,_⟩
   ·have:=(h4.1 p).2;omega
   ·exact⟨g,cap,p3,.inr p4⟩
 ·obtain⟨v',w',hr,h2,h3,h4⟩:=run_append_own (P:=Tryz.prog) w base 29 ty 31 i0 _ 8 104 Tryz.underlying29 hi0 hz0 hs0 hb0 rfl (by decide) _ n xs hown a m c news hl hnews h1 h63 hby hbase;refine⟨v',w',hr,h2,h3,?_⟩;by_cases hroom:n+m<=cap
  ·have hfit:n*i0.size+news.length<=cur.size:=by rw[hs0,hl,hcs,<-Nat.add_mul];exact Nat.mul_le_mul_right _ hroom
   have hr':=run_append_room (P:=Tryz.prog) w 29 ty 31 i0 Tryz.underlying29 hi0 g n cap cur hg a m c news (by rw[hs0];exact hl) hnews h1 hroom hfit;rw[hr] at hr';injection hr' with hv _
   exact⟨g,cap,hv,.inl rfl⟩
  ·have holds:∀ j u,xs[j]?=some u->w.cell? ((⟨g,0,none⟩:Addr).add j)=some u:=hown.cells (g:=g) rfl;have hr':=run_append_grow (P:=Tryz.prog) w 29 ty 31 i0 _ Tryz.underlying29 hi0 hz0 ⟨g,0,none⟩ n cap xs (by rw[hs0];exact hown.1) holds a m c news (by rw[hs0];exact hl) hnews (by omega) (by omega) (by rw[hb0];exact growslice_fits (by omega) hby);rw[hr] at hr';injection hr' with hv _
   exact⟨_,_,hv,.inr (zQ _)⟩
theorem zB7{o:Oper}{a:Act}{w:World}{K:Act->World->Prop}{Q:Exit->Act->World->Prop}(s x:Operand)
  (ho:o.op=.call { callee:=.builtin .append,args:=#[s,x],argTypes:=#[29,29] }) (base:Nat) (v:Value) (n:Nat) (xs:List Value) (hs:a.eval s=v) (hown:w.ownsRow base 31 8 v n xs)
  (ad:Addr) (m c:Nat) (hm:0<m) (news:List Value) (hx:a.eval x=.slice (some ad) m c) (hl:news.length=m*8) (hnews:∀ j u,news[j]?=some u->w.cell? (ad.add j)=some u) (h1:∀ u ∈ news,u.oneCell'=true) (hn:n+m<=1000) (hbase:base<=w.heap.size)
  (h:∀ v' w',w'.ownsRow base 31 8 v' (n+m) (xs ++ news)->w.grownBy w' v.ownBlock->(∃ g cp,v'=.slice (some ⟨g,0,none⟩) (n+m) cp/\(v.ownBlock=some g \/ w.heap.size<=g))->K (a.put o.dst v') w'):o.wp Tryz.prog a w K Q:=by
 obtain⟨v',w',hr,h2,h3,h4⟩:=zG6 w base v n xs hown ad m c hm news hl hnews h1 hn hbase o.type;unfold Oper.wp execOp;simp only[ho,resolve,invoke,builtin,Sem.run_bind,Sem.run_pure,Result.andThen_ok,List.map_toArray,List.map_cons,List.map_nil,hs,hx,hr];exact h v' w' h2 h3 h4
structure KS (w0:Nat) (w:World) (kv:Value) (k:Nat) (ys:Nat->Array Value) (fs:Nat->F) (ds:Nat->Nat):Prop where
 own:w.ownsRow w0 31 8 kv k (zC4 k ys)
 s8:∀ i,i<k->(ys i).size=8
 one:∀ i,i<k->(ys i).all (·.oneCell')=true
 tr:∀ i,i<k->zAm w (fun b=>w0<=b/\kv.ownBlock≠some b) (fs i) (ds i) (.agg (ys i))
theorem zEn(k:Nat)(ys:Nat->Array Value)(z:Array Value)(h8:z.size=8):zC4 (k+1) (fun i=>if i=k then z else ys i)=zC4 k ys ++ z.toList:=by
 apply List.ext_getElem?;intro j;rcases Nat.lt_or_ge j (k*8) with h|h
 ·rw[List.getElem?_append_left (by rw[zAM];exact h),zBS _ _ _ (by omega),zBS _ _ _ h,if_neg (by omega)]
 ·rw[List.getElem?_append_right (by rw[zAM];exact h),zAM];rcases Nat.lt_or_ge j ((k+1)*8) with h2|h2
  ·rw[zBS _ _ _ h2,if_pos (by omega),Array.getElem?_toList,zCw _ _ (by omega),show j % 8=j - k*8 by omega]
  ·rw[List.getElem?_eq_none (by rw[zAM];exact h2),List.getElem?_eq_none (by simp;omega)]
theorem KS.nil(w0:Nat)(w:World)(ys:Nat->Array Value)(fs:Nat->F)(ds:Nat->Nat):KS w0 w (.slice none 0 0) 0 ys fs ds:=
 ⟨World.ownsRow_nil _ _ _ _,fun i hi=>by omega,fun i hi=>by omega,fun i hi=>by omega⟩
theorem zMC{w w':World}{base n:Nat}{v:Value}{xs:List Value}(h:w.ownsRow base 31 8 v n xs)(hs:∀ k,base<=k->k<w.heap.size->w'.heap[k]?=w.heap[k]?):w'.ownsRow base 31 8 v n xs:=by
 obtain⟨h1,h2|⟨g,cap,cur,hv,hb,hg,r⟩⟩:=h
 ·exact⟨h1,.inl h2⟩
 ·exact⟨h1,.inr ⟨g,cap,cur,hv,hb,by rw[hs g hb (Array.getElem?_eq_some_iff.1 hg).1];exact hg,r⟩⟩
theorem KS.same{w0:Nat}{w w':World}{kv:Value}{k:Nat}{ys:Nat->Array Value}{fs:Nat->F}{ds:Nat->Nat}(h:KS w0 w kv k ys fs ds)(hs:∀ b,w0<=b->b<w.heap.size->w'.heap[b]?=w.heap[b]?):KS w0 w' kv k ys fs ds:=
 ⟨zMC h.own hs,h.s8,h.one,fun i hi=>zAm.same (fun b hb hl=>hs b hb.1 hl) (fun b hb _=>hb) _ _ _ (h.tr i hi)⟩
theorem KS.snoc{w0:Nat}{w w':World}{kv kv':Value}{k:Nat}{ys:Nat->Array Value}{fs:Nat->F}{ds:Nat->Nat}{z:Array Value}(h:KS w0 w kv k ys fs ds)(h8:z.size=8)(h1:z.all (·.oneCell')=true){wa:Nat}(ht:zAm w (fun b=>wa<=b) (fs k) (ds k) (.agg z))(hwa:w0<=wa)(hlt:∀ g,kv.ownBlock=some g->g<wa)
  (hown:w'.ownsRow w0 31 8 kv' (k+1) (zC4 k ys ++ z.toList)) (hgrow:w.grownBy w' kv.ownBlock) (hg:∃ g cp,kv'=.slice (some ⟨g,0,none⟩) (k+1) cp/\(kv.ownBlock=some g \/ w.heap.size<=g)):KS w0 w' kv' (k+1) (fun i=>if i=k then z else ys i) fs ds:=by
 obtain⟨g,cp,rfl,hgo⟩:=hg
 have hne:∀ b,b<w.heap.size->kv.ownBlock≠some b->(Value.slice (some ⟨g,0,none⟩) (k+1) cp).ownBlock≠some b:=by
  intro b hb hn e;simp only[Value.ownBlock,Option.some.injEq] at e;subst e;rcases hgo with hgo|hgo
  ·exact hn hgo
  ·omega
 refine⟨by rw[zEn k ys z h8];exact hown,fun i hi=>?_,fun i hi=>?_,fun i hi=>?_⟩
 ·by_cases e:i=k
  ·rw[if_pos e];exact h8
  ·rw[if_neg e];exact h.s8 i (by omega)
 ·by_cases e:i=k
  ·rw[if_pos e];exact h1
  ·rw[if_neg e];exact h.one i (by omega)
 ·by_cases e:i=k
  ·subst e;rw[if_pos rfl];have hno:∀ b,wa<=b->kv.ownBlock≠some b:=fun b hb e=>by have:=hlt b e;omega
   exact zAm.same (fun b hb hl=>hgrow.block b hl (fun e=>hno b hb e.symm)) (fun b hb hl=>⟨by omega,hne b hl (hno b hb)⟩) _ _ _ ht
  ·rw[if_neg e];exact zAm.same (fun b hb hl=>hgrow.block b hl (fun e=>hb.2 e.symm)) (fun b hb hl=>⟨hb.1,hne b hl hb.2⟩) _ _ _ (h.tr i (by omega))
theorem KS.list{w0 B:Nat}{w:World}{g m cp:Nat}{ys:Nat->Array Value}{fs:Nat->F}{ds:Nat->Nat}(h:KS w0 w (.slice (some ⟨g,0,none⟩) m cp) m ys fs ds)(hB:B<=w0)(m1:1<=m)(m3:m<=3)(T:List UInt8)(hT:T=[91] ++ zAF [44,32] [44,32] m fs m ++ [93])(d:Nat)(hd:∀ i,i<m->ds i<d)(hd1:∃ i,i<m/\ds i+1=d):
  zAm w (fun b=>B<=b) (.node T 0 fs) d (.agg (zAa 7 0 false (.slice none 0 0) 0 0 (zAc []) (.slice (some ⟨g,0,none⟩) m cp))):=by
 obtain⟨_,⟨h1,_⟩|⟨g',cap,cur,hv,hb,hg,hle,hmax,hsz,htk⟩⟩:=h.own
 ·simp at h1
 ·simp only[Value.slice.injEq,Option.some.injEq,Addr.mk.injEq] at hv;obtain⟨⟨rfl,_⟩,_,rfl⟩:=hv;have hlt:=(Array.getElem?_eq_some_iff.1 hg).1;refine⟨7,0,_,0,0,[],_,m,rfl,⟨⟨rfl,.inr (.inr (.inr (.inr (.inl ⟨rfl,rfl,rfl,rfl,rfl,m1,m3⟩))))⟩,New.none _ _ _⟩,?_,.inr ⟨by omega,g,0,cp,ys,ds,rfl,hle,by unfold maxLen at hmax;omega,⟨hlt,by omega⟩,zEo hg h.s8 htk,fun i hi=>⟨zAm.same (fun b _ _=>rfl) (fun b hb _=>by omega) _ _ _ (h.tr i hi),hd i hi⟩,hd1⟩⟩;exact⟨fun e=>by omega,fun e=>by omega,fun e=>by omega,fun e=>by omega,fun _=>hT,fun e=>by omega,fun e=>by omega⟩
theorem zMP{w:World}{base:Nat}{v:Value}{z0 z1:Array Value}(h:w.ownsRow base 31 8 v 2 (z0.toList ++ z1.toList))(h0:z0.size=8)(h1:z1.size=8):
  ∃ g cp,v=.slice (some ⟨g,0,none⟩) 2 cp/\base<=g/\g<w.heap.size/\zBO w g 0 2 (fun i=>if i=1 then z1 else if i=0 then z0 else #[]):=by
 obtain⟨_,⟨_,h2⟩|⟨g,cap,cur,hv,hb,hg,hle,hmax,hsz,htk⟩⟩:=h
 ·omega
 ·refine⟨g,cap,hv,hb,(Array.getElem?_eq_some_iff.1 hg).1,zEo hg (fun i hi=>?_) ?_⟩
  ·rcases (by omega:i=0 \/ i=1) with rfl|rfl
   ·exact h0
   ·exact h1
  ·rw[htk,zEn 1 _ z1 h1,zEn 0 _ z0 h0];have:zC4 0 (fun _=>(#[]:Array Value))=[]:=rfl;rw[this,List.nil_append]
theorem zM5{ds:List Nat}{n:Int}(h:ds.length<=96000)(h1:-20400<=n)(h2:n<=20400):(zDQ ds n).length<=97000:=by
 have hl:∀ x:Nat,x<=100000->(zAZ x).length<=20:=fun x hx=>zB6 (by omega)
 unfold zDQ
 split
 ·rename_i hh
  simp only[List.length_append,List.length_map,List.length_replicate];omega
 ·split
  ·simp only[List.length_append,List.length_map,List.length_take,List.length_drop,List.length_cons,List.length_nil];omega
  ·split
   ·simp only[List.length_append,List.length_map,List.length_replicate,List.length_cons,List.length_nil];omega
   ·rw[List.length_append,List.length_append,List.length_append];have e3:((ds.take 1).map dig).length<=1:=by rw[List.length_map,List.length_take];omega
    have e4:([101]:List UInt8).length=1:=rfl
    have e1:(if 1<ds.length then [46] ++ (ds.drop 1).map dig else ([]:List UInt8)).length<=96001:=by
     split
     ·simp;omega
     ·simp
    have e2:(if 0<n then [43] ++ zAZ (n - 1).toNat else [45] ++ zAZ (1 - n).toNat).length<=21:=by
     split
     ·have:=hl (n - 1).toNat (by omega);rw[List.length_append,List.length_singleton];omega
     ·have:=hl (1 - n).toNat (by omega);rw[List.length_append,List.length_singleton];omega
    omega
theorem zKe(w:World)(hG:GV w)(b:Nat)(hb:b<18446744073709551616):Calls Tryz.prog 41 #[.int .u64 (b:Int)] w fun e w'=>(e=.returned (.string (zAc (zBM b)))/\(zBM b).length<=100000)/\Below w.heap.size w w':=by
 have HCL:=zz (zEC w hG.g.s b hb);have HG:=zz hG;clear hG;by_cases k1:9218868437227405312<b % 9223372036854775808
 ·rw[show zCV (b % 9223372036854775808)=5 by unfold zCV;rw[if_pos k1]] at HCL;rw[show zBM b=[78,97,78] by unfold zBM;rw[if_pos k1]];clear k1 hb;generalize (b:Int)=B at *;go_enter Tryz.func41,Tryz.ntmps41
  go_wp2_with fail
  refine HCL.out.mono ?_;rintro e w1 ⟨rfl,hb1⟩;have HB1:=zz hb1;clear hb1;go_wp2;go_ret;exact⟨⟨rfl,by decide⟩,HB1.out⟩
 by_cases k2:b % 9223372036854775808=9218868437227405312
 ·rw[show zCV (b % 9223372036854775808)=4 by unfold zCV;rw[if_neg k1,if_pos k2]] at HCL;by_cases k3:9223372036854775808<=b
  ·rw[show zBM b=[45,73,110,102,105,110,105,116,121] by unfold zBM;rw[if_neg k1,if_pos k2,if_pos k3]];have hsh:(b:Int) / 9223372036854775808=1:=by omega
   clear k1 k2 k3 hb;generalize (b:Int)=B at *;go_enter Tryz.func41,Tryz.ntmps41
   go_wp2_with fail
   refine HCL.out.mono ?_;rintro e w1 ⟨rfl,hb1⟩;have HB1:=zz hb1;clear hb1;go_wp2;go_ret;exact⟨⟨rfl,by decide⟩,HB1.out⟩
  ·rw[show zBM b=[73,110,102,105,110,105,116,121] by unfold zBM;rw[if_neg k1,if_pos k2,if_neg k3]];have hsh:(b:Int) / 9223372036854775808=0:=by omega
   clear k1 k2 k3 hb;generalize (b:Int)=B at *;go_enter Tryz.func41,Tryz.ntmps41
   go_wp2_with fail
   refine HCL.out.mono ?_;rintro e w1 ⟨rfl,hb1⟩;have HB1:=zz hb1;clear hb1;go_wp2;go_ret;exact⟨⟨rfl,by decide⟩,HB1.out⟩
 by_cases k3:b % 9223372036854775808=0
 ·rw[show zCV (b % 9223372036854775808)=1 by unfold zCV;rw[if_neg k1,if_neg k2,if_pos k3]] at HCL;rw[show zBM b=[48] by unfold zBM;rw[if_neg k1,if_neg k2,if_pos k3]];clear k1 k2 k3 hb;generalize (b:Int)=B at *;go_enter Tryz.func41,Tryz.ntmps41
  go_wp2_with fail
  refine HCL.out.mono ?_;rintro e w1 ⟨rfl,hb1⟩;have HB1:=zz hb1;clear hb1;go_wp2;go_ret;exact⟨⟨rfl,by decide⟩,HB1.out⟩
 obtain⟨cl,hcl⟩:∃ cl,cl=zCV (b % 9223372036854775808):=⟨_,rfl⟩;have hc5:(cl == 5)=false:=beq_eq_false_iff_ne.2 (by rw[hcl];unfold zCV;rw[if_neg k1,if_neg k2,if_neg k3];split <;> decide);have hc4:(cl == 4)=false:=beq_eq_false_iff_ne.2 (by rw[hcl];unfold zCV;rw[if_neg k1,if_neg k2,if_neg k3];split <;> decide);have hc1:(cl == 1)=false:=beq_eq_false_iff_ne.2 (by rw[hcl];unfold zCV;rw[if_neg k1,if_neg k2,if_neg k3];split <;> decide);rw[<-hcl] at HCL;have HDG:=zz (fun w hG=>zIm w hG b hb (by omega) (by omega));have HFT:Hid (zBM b=zBa (decide (9223372036854775808<=b)) ++ zDQ (zDv 1075 (b % 9223372036854775808)).1 (zDv 1075 (b % 9223372036854775808)).2):=zz (by unfold zBM;rw[if_neg k1,if_neg k2,if_neg k3]);have hFI:=zFl 1075 (b % 9223372036854775808) (by omega) (by omega);have HFI:=zz hFI;clear hcl k1 k2 k3 hb hFI;generalize decide (9223372036854775808<=b)=ng at HDG HFT;obtain⟨fT,hfT⟩:∃ fT,fT=zBM b:=⟨_,rfl⟩;rw[<-hfT] at HFT ⊢;clear hfT;generalize zDv 1075 (b % 9223372036854775808)=fR at HDG HFT HFI;generalize (b:Int)=B at *;go_enter Tryz.func41,Tryz.ntmps41
 go_wp2_with fail
 refine HCL.out.mono ?_;rintro e w1 ⟨rfl,hb1⟩;have HB1:=zz hb1;have HD1:=zz (HDG.out w1 (HG.out.step hb1));clear hb1 HCL HG HDG;go_wp2_with fail
 refine HD1.out.mono ?_;rintro e w2 ⟨rfl,hb2,hl2,hp2,hq2⟩;have HB2:=zz (HB1.out.trans (hb2.mono HB1.out.size));obtain⟨w3,hw3⟩:∃ w3,w3=w2.alloc (.cells #[.bool ng,.string (zAc (fR.1.map dig)),.int .i64 fR.2] 130):=⟨_,rfl⟩;have HB3:Hid (Below w.heap.size w w3):=zz (by rw[hw3];exact HB2.out.alloc HB2.out.size _);have HW3:=zz hw3;have HLY:=zz (zIB w3 ng fR.1 fR.2 HFI.out.1 HFI.out.2.2 hl2 hp2 hq2);rw[<-HFT.out] at HLY
 have HLN:Hid (fT.length<=100000):=zz (by
  rw[HFT.out,List.length_append];have h1:=zM5 hl2 hp2 hq2;have h2:(zBa ng).length<=1:=by cases ng <;> simp[zBa]
  omega)
 clear hw3 HB2 hb2 hl2 hp2 hq2 HB1 HD1;go_wp2_with fail
 change Calls _ _ _ (w2.alloc (.cells #[.bool ng,.string (zAc (fR.1.map dig)),.int .i64 fR.2] 130)) _;rw[<-HW3.out];refine HLY.out.mono ?_;rintro e w4 ⟨rfl,hb4⟩;have HB4:=zz (HB3.out.trans (hb4.mono HB3.out.size));clear hb4 HB3 HLY;go_wp2;go_ret;exact⟨⟨rfl,HLN.out⟩,HB4.out⟩
end Go.Proofs.YtcanfakaigpkgaaGreatDoor.D
