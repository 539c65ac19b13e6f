/-
  Of the proof that the law DiagUnlike answers true at every two values: a part, without conditions of its own.
-/
import Derived.Test.YtcanfakaigpkgaaGreatDoorPart19
import Derived.Deep.Strs
import Derived.OpenShut
import Derived.Deep.Slices
import Derived.ChangeSlices
import Derived.ProofKit
import Derived.LaidSub
import Derived.Deep.MidRow
import Derived.Test.YtcanfakaigpkgaaGreatDoorPart16
set_option linter.unusedVariables false
set_option linter.unusedSimpArgs false
set_option maxRecDepth 100000
set_option maxHeartbeats 8000000
namespace Go.Proofs.YtcanfakaigpkgaaGreatDoor.D
open Go Go.RowKit Go.ChangeShapes Go.WideShapes Go.ChangeAt Limb
theorem zJI:Tryz.prog.cellsOf 31=8:=by kernel_rfl
theorem zCx:Tryz.prog.cellsOf 28=2:=by kernel_rfl
theorem zB1:Tryz.prog.cellsOf 26=1:=by kernel_rfl
theorem zHR:Tryz.prog.cellsOf 139=1:=by kernel_rfl
theorem zBL:Tryz.prog.cellsOf 24=1:=by kernel_rfl
theorem zCD:Tryz.prog.cellsOf 22=1:=by kernel_rfl
theorem zBF:Tryz.prog.cellsOf 23=1:=by kernel_rfl
theorem zBx:Tryz.prog.cellsOf 4=1:=by kernel_rfl
theorem zBA:Tryz.prog.cellsOf 9=1:=by kernel_rfl
theorem zBy:Tryz.prog.cellsOf 29=1:=by kernel_rfl
theorem zM4:Tryz.prog.bytesOf 139=4:=by kernel_rfl
theorem zO3:Tryz.prog.bytesOf 31=104:=by kernel_rfl
theorem zID{H:Type}{t:TypeId}{d:DataW H}{l:List (DataW H)}(h:d ∈ l){x:Nat}(hx:x ∈ DataW.weights Tryz.prog t d):x ∈ DataW.weightsAll Tryz.prog t l:=by
 induction l with
 | nil=>cases h
 | cons y r ih=>
  unfold DataW.weightsAll;rcases List.mem_cons.1 h with e|e
  ·subst e;exact List.mem_append_left _ hx
  ·exact List.mem_append_right _ (ih e)
section
variable {H:Type} {enc:TypeId × Value->H} {w:World} {held:Bool}
theorem zPj{fuel:Nat}{v:Value}{d:DataW H}{ps:List MemPlace}(h:DataW.trod enc Tryz.prog w 0 (fun _=>true) held fuel 26 [v]=some (d,ps))(hw:∀ x ∈ DataW.weights Tryz.prog 26 d,x<=reachBytes):
  ∃ l,Mag w w.heap.size v l/\l.length<=70368744177664:=by
 rcases open_ints Tryz.underlying26 Tryz.underlying139 zHR h with ⟨hc,-⟩|⟨a,len,cap,zs,hc,-,hl,hcap,hz,hx,hcell,hwf⟩
 ·simp only[List.cons.injEq,and_true] at hc;subst hc;exact⟨[],⟨zAf.nil _,fun b o k c e=>by simp at e⟩,by simp⟩
 ·simp only[List.cons.injEq,and_true] at hc;subst hc;simp only[if_true] at hz;simp only[Prod.mk.injEq] at hx;have hll:((zs.take len).map Int.toNat).length=len:=by simp;omega
  have hbulk:len<=70368744177664:=by
   rw[hx.1] at hw;simp only[DataW.weights,Tryz.underlying26] at hw;have:=hw _ (List.mem_cons_self ..);rw[zM4] at this;simp only[lits,List.length_map,List.length_take,List.length_drop] at this;unfold reachBytes at this;omega
  by_cases h0:cap=0
  ·subst h0;obtain rfl:len=0:=by omega
   refine⟨[],⟨zAf.empty _ _,fun b o k c e e2=>?_⟩,by simp⟩;simp only[Value.slice.injEq] at e;omega
  ·obtain⟨b,o,s⟩:=a;have hc0:=hcell 0 (by omega);obtain rfl:s=none:=by simpa[Addr.add] using World.cell?_spot hc0
   rw[Addr.add_mid] at hc0;have hlt:=World.block_lt_of_cell? w ⟨b,o+0,none⟩ hc0;refine⟨(zs.take len).map Int.toNat,⟨⟨fun x hx2=>?_,.inr ⟨b,o,cap,by rw[hll],by rw[hll];exact hl,by unfold maxLen at hcap;omega,hlt,fun i hi=>?_⟩⟩,fun b' o' k c e _=>?_⟩,by rw[hll];exact hbulk⟩
   ·obtain⟨z,hz2,rfl⟩:=List.mem_map.1 hx2;have:=bounds_u32 (hwf z (List.mem_of_mem_take hz2));omega
   ·rw[hll] at hi;have hc:=hcell i (by omega);rw[Addr.add_mid] at hc;rw[hc];congr 1;have hzi:zs.getD i 0=zs[i]'(by omega):=by rw[zw,zZ (by omega)];rfl
    have hb:=bounds_u32 (hwf (zs[i]'(by omega)) (List.getElem_mem _))
    have hg:((zs.take len).map Int.toNat).getD i 0=(zs[i]'(by omega)).toNat:=by
     rw[zw,List.getElem?_map,List.getElem?_take,if_pos hi,zZ (by omega)];rfl
    rw[hg,hzi];congr 1;omega
   ·simp only[Value.slice.injEq,Option.some.injEq,Addr.mk.injEq] at e;obtain⟨⟨rfl,_⟩,_⟩:=e;exact hlt
theorem zHI:∀ (fuel:Nat) (cs:List Value) (d:DataW H) (ps:List MemPlace),DataW.trod enc Tryz.prog w 0 (fun _=>true) held fuel 31 cs=some (d,ps)->(∀ x ∈ DataW.weights Tryz.prog 31 d,x<=reachBytes) ->
  ∃ f:VT,zAl w w.heap.size f (.agg cs.toArray)/\f.wide:=by
 intro fuel
 induction fuel using Nat.strongRecOn with
 | ind fuel ih=>
 intro cs d ps h hL;obtain⟨xs,n,hfu,hx,hlen,hxl,hf⟩:=DataW.trod_struct Tryz.underlying31 h;rw[zJI] at hlen
 match cs,hlen with
 | [c0,c1,c2,c3,c4,c5,c6,c7],_=>
 match xs,hxl with
 | [x0,x1,x2,x3,x4,x5,x6],_=>
 have t0:DataW.trod enc Tryz.prog w 0 (fun _=>true) held n 23 (([c0,c1,c2,c3,c4,c5,c6,c7].drop 0).take (Tryz.prog.cellsOf 23))=some x0:=hf 0 _ rfl;have t1:DataW.trod enc Tryz.prog w 0 (fun _=>true) held n 24 (([c0,c1,c2,c3,c4,c5,c6,c7].drop 1).take (Tryz.prog.cellsOf 24))=some x1:=hf 1 _ rfl;have t2:DataW.trod enc Tryz.prog w 0 (fun _=>true) held n 28 (([c0,c1,c2,c3,c4,c5,c6,c7].drop 2).take (Tryz.prog.cellsOf 28))=some x2:=hf 2 _ rfl;have t3:DataW.trod enc Tryz.prog w 0 (fun _=>true) held n 24 (([c0,c1,c2,c3,c4,c5,c6,c7].drop 4).take (Tryz.prog.cellsOf 24))=some x3:=hf 3 _ rfl;have t4:DataW.trod enc Tryz.prog w 0 (fun _=>true) held n 22 (([c0,c1,c2,c3,c4,c5,c6,c7].drop 5).take (Tryz.prog.cellsOf 22))=some x4:=hf 4 _ rfl;have t5:DataW.trod enc Tryz.prog w 0 (fun _=>true) held n 9 (([c0,c1,c2,c3,c4,c5,c6,c7].drop 6).take (Tryz.prog.cellsOf 9))=some x5:=hf 5 _ rfl;have t6:DataW.trod enc Tryz.prog w 0 (fun _=>true) held n 29 (([c0,c1,c2,c3,c4,c5,c6,c7].drop 7).take (Tryz.prog.cellsOf 29))=some x6:=hf 6 _ rfl;clear hf h;simp only[zBF,zBL,zCx,zCD,zBA,zBy,List.drop_zero,List.drop_succ_cons,List.take_succ_cons,List.take_zero] at t0 t1 t2 t3 t4 t5 t6;simp only[Prod.mk.injEq] at hx;obtain⟨rfl,-⟩:=hx;simp only[List.map_cons,List.map_nil,DataW.weights,Tryz.underlying31,DataW.weightsEach,List.append_nil,List.mem_append] at hL;obtain⟨kd,e0,-,k0⟩:=DataW.trod_int Tryz.underlying23 t0;obtain⟨nn,e1,-,k1⟩:=DataW.trod_int Tryz.underlying24 t1;obtain⟨y0,y1,n2,hy,-,u0,u1⟩:=trod_struct2 Tryz.underlying28 t2;obtain⟨bt,e3,-,k3⟩:=DataW.trod_int Tryz.underlying24 t3;obtain⟨ex,e4,-,k4⟩:=DataW.trod_int Tryz.underlying22 t4;obtain⟨tx,e5,hx5,k5⟩:=DataW.trod_string Tryz.underlying9 t5;simp only[zBx,zB1,List.drop_zero,List.drop_succ_cons,List.take_succ_cons,List.take_zero] at u0 u1
 obtain⟨ng,e2,-⟩:=DataW.trod_bool Tryz.underlying4 u0;rw[hy,hx5] at hL;simp only[DataW.weights,Tryz.underlying28] at hL;obtain⟨ml,hmag,hml⟩:=zPj (d:=y1.1) (ps:=y1.2) u1 (fun x hx=>hL x (.inr (.inr (.inl (show x ∈ DataW.weightsEach Tryz.prog [4,26] [y0.1,y1.1] from by simp[DataW.weightsEach,hx])))));simp only[List.cons.injEq,and_true] at e0 e1 e2 e3 e4 e5;subst e0 e1 e2 e3 e4 e5
 have htw:tx.data.toList.length<=140737488355328:=by
  have:=hL tx.data.toList.length (by simp);unfold reachBytes at this;omega
 have b0:=bounds_i8 k0;have b1:=bounds_u64 k1;have b3:=bounds_u64 k3;have b4:=bounds_i8 k4
 have hst:zAc tx.data.toList=tx:=by
  apply ByteArray.ext;simp[zAc]
 obtain⟨a,ha⟩:∃ a:VA,a=⟨kd.toNat,nn.toNat,ng,ml,bt.toNat,ex,tx.data.toList⟩:=⟨_,rfl⟩;have hfit:a.fit kd:=by rw[ha];exact⟨rfl,by omega,by omega,by show nn.toNat<_;omega,by show bt.toNat<_;omega,by show _<=ex;omega,by show ex<_;omega⟩
 have hcs:∀ kids:Value,([.int .i8 kd,.int .u64 nn,.bool ng,c3,.int .u64 bt,.int .i8 ex,.string tx,kids]:List Value).toArray=zAh a kd c3 kids:=by
  intro kids;rw[ha];unfold zAh zAa;rw[hst,Int.toNat_of_nonneg b1.1,Int.toNat_of_nonneg b3.1]
 have hma:a.mag=ml:=by rw[ha]
 have hta:a.text.length=tx.data.toList.length:=by rw[ha]
 rcases DataW.trod_slice Tryz.underlying29 t6 with ⟨hc,-⟩|⟨ad,len,cap,elems,rest,m,hfm,hc,hx6,-,hl,hm,hln,hel,-,-⟩
 ·simp only[List.cons.injEq,and_true] at hc;subst hc;refine⟨.node a 0 (fun _=>.stop),⟨kd,c3,none,0,by rw[hcs],hfit,by rw[hma];exact hmag,zQ _,by omega,.inl rfl⟩,⟨by rw[hma];exact hml,by rw[hta];exact htw,by omega,fun i hi=>by omega⟩⟩
 ·simp only[List.cons.injEq,and_true] at hc;subst hc;have h6:∀ x ∈ DataW.weights Tryz.prog 29 x6.1,x<=reachBytes:=fun x hx=>hL x (by simp[hx])
  rw[hx6] at h6;simp only[DataW.weights,Tryz.underlying29,List.length_map] at h6;have h60:=h6 _ (List.mem_cons_self ..);rw[zO3,hln] at h60;unfold reachBytes at h60
  haveI:Inhabited (VT × Array Value):=⟨(.stop,#[])⟩
  have key:∀ i,i<len->∃ z:VT × Array Value,zAl w w.heap.size z.1 (.agg z.2)/\z.1.wide/\z.2.size=8/\∀ j,j<8->w.cell? (ad.add (i*8) |>.add j)=z.2[j]?:=by
   intro i hi;have h1:=hel i hi;rw[zJI,zZ (by omega)] at h1;simp only[Option.bind_eq_some_iff] at h1;obtain⟨cz,hcz,ht⟩:=h1;have hmem:(elems[i]'(by omega)).1 ∈ elems.map (·.1):=List.mem_map.2 ⟨_,List.getElem_mem (l:=elems) (n:=i) (by omega),rfl⟩;obtain⟨f,hf1,hf2⟩:=ih m (by omega) cz (elems[i]'(by omega)).1 (elems[i]'(by omega)).2 ht (fun x hx=>h6 x (List.mem_cons_of_mem _ (List.mem_append_left _ (zID hmem hx))));obtain⟨-,q1,q2⟩:=World.cells?_some hcz;exact⟨(f,cz.toArray),hf1,hf2,by simpa using q1,fun j hj=>by rw[q2 j hj];simp⟩
  obtain⟨z,hz⟩:=Go.Deep.choose_lt key;refine⟨.node a len (fun i=>(z i).1),⟨kd,c3,some ad,cap,by rw[hcs],hfit,by rw[hma];exact hmag,hl,by unfold maxLen at hm;omega,?_⟩,⟨by rw[hma];exact hml,by rw[hta];exact htw,by omega,fun i hi=>(hz i hi).2.1⟩⟩;by_cases h0:len=0
  ·exact .inl h0
  ·have hc0:=(hz 0 (by omega)).2.2.2 0 (by omega);have hs0:=(hz 0 (by omega)).2.2.1;obtain⟨b,o,s⟩:=ad;rw[Array.getElem?_eq_getElem (by omega)] at hc0;obtain rfl:s=none:=by simpa[Addr.add] using World.cell?_spot hc0
   rw[Nat.zero_mul,Addr.add_mid,Addr.add_mid] at hc0;refine .inr ⟨b,o,fun i=>(z i).2,rfl,World.block_lt_of_cell? w _ hc0,fun i hi=>⟨(hz i hi).2.2.1,fun j hj=>?_⟩,fun i hi=>(hz i hi).1⟩;rw[<-(hz i hi).2.2.2 j hj,Addr.add_mid,Addr.add_mid]
end
end Go.Proofs.YtcanfakaigpkgaaGreatDoor.D
namespace Go.Proofs.YtcanfakaigpkgaaGreatDoor.D
open Go Go.RowKit Limb
def zOV(a b:VA)(k1 k2:Int):Int:=orC [sgI k1 k2,sgI a.n b.n,sgI a.ext b.ext,zJy a.neg (val a.mag) b.neg (val b.mag),zJv a.bits b.bits,zJb a.text b.text]
theorem zF9(w:World)(hG:zAK w)(a b:VA)(kind kind2:Int)(hka:a.fit kind)(hkb:b.fit kind2)(mb mb2 kb kb2:Option Addr)(mn mn2 mc mc2 kn kn2 kc kc2:Nat)(hma:zAf w (.slice mb mn mc) a.mag)(hmb:zAf w (.slice mb2 mn2 mc2) b.mag)(hla:a.mag.length<=1048576)(hlb:b.mag.length<=1048576)
  (K:Int->Prop) (hK:zOV a b kind kind2≠0->K (zOV a b kind kind2)) (hF:zOV a b kind kind2=0->∀ w',Below w.heap.size w w'->Calls Tryz.prog 25 #[.slice kb kn kc,.slice kb2 kn2 kc2,.func (.func 8) #[] #[]] w' fun e w''=>(∃ c:Int,e=.returned (.int .i64 c)/\K c)/\Below w'.heap.size w' w'') :
  Calls Tryz.prog 8 #[.agg (zAh a kind (.slice mb mn mc) (.slice kb kn kc)),.agg (zAh b kind2 (.slice mb2 mn2 mc2) (.slice kb2 kn2 kc2))] w fun e w'=>(∃ c:Int,e=.returned (.int .i64 c)/\K c)/\Below w.heap.size w w':=by
 obtain⟨w0,hw0⟩:∃ w0,w0=(w.alloc (.cells (zAh a kind (.slice mb mn mc) (.slice kb kn kc)) 31)).alloc (.cells (zAh b kind2 (.slice mb2 mn2 mc2) (.slice kb2 kn2 kc2)) 31):=⟨_,rfl⟩;have hb0:Below w.heap.size w w0:=by rw[hw0];exact ((zK _ _).alloc (zQ _) _).alloc (by simp) _
 have hB1:Blk w0 w.heap.size (zAh a kind (.slice mb mn mc) (.slice kb kn kc)) 31:=by rw[hw0];exact (Blk.new _ _ _).alloc _
 have hB2:Blk w0 (w.heap.size+1) (zAh b kind2 (.slice mb2 mn2 mc2) (.slice kb2 kn2 kc2)) 31:=by
  rw[hw0,show w.heap.size+1=(w.alloc (.cells (zAh a kind (.slice mb mn mc) (.slice kb kn kc)) 31)).heap.size by simp];exact Blk.new _ _ _
 have hG0:=hG.below hb0 hG.size;have hma0:=hma.below hb0;have hmb0:=hmb.below hb0;have HB0:=zz hb0;have HW0:=zz hw0;have HF:=zz hF;have HK:=zz hK;have HN:Hid (a.n<18446744073709551616/\b.n<18446744073709551616/\a.bits<18446744073709551616/\b.bits<18446744073709551616):=zz ⟨hka.2.2.2.1,hkb.2.2.2.1,hka.2.2.2.2.1,hkb.2.2.2.2.1⟩;have HLL:Hid (a.mag.length<=8589934592/\b.mag.length<=8589934592):=zz ⟨by omega,by omega⟩;generalize hX:w.heap.size=X at hB1 hB2 ⊢;have HXE:=zz hX
 have HS0:Hid ((w0.drew).cell? ⟨X,0,none⟩=some (.int .i8 kind)/\(w0.drew).cell? ⟨X,1,none⟩=some (.int .u64 (a.n:Int))/\(w0.drew).cell? ⟨X,2,none⟩=some (.bool a.neg)/\(w0.drew).cell? ⟨X,3,none⟩=some (.slice mb mn mc)/\(w0.drew).cell? ⟨X,4,none⟩=some (.int .u64 (a.bits:Int))/\(w0.drew).cell? ⟨X,5,none⟩=some (.int .i8 a.ext)/\(w0.drew).cell? ⟨X,6,none⟩=some (.string (zAc a.text))/\(w0.drew).cell? ⟨X,7,none⟩=some (.slice kb kn kc)/\(w0.drew).cell? ⟨X+1,0,none⟩=some (.int .i8 kind2)/\(w0.drew).cell? ⟨X+1,1,none⟩=some (.int .u64 (b.n:Int))/\(w0.drew).cell? ⟨X+1,2,none⟩=some (.bool b.neg)/\(w0.drew).cell? ⟨X+1,3,none⟩=some (.slice mb2 mn2 mc2)/\(w0.drew).cell? ⟨X+1,4,none⟩=some (.int .u64 (b.bits:Int))/\(w0.drew).cell? ⟨X+1,5,none⟩=some (.int .i8 b.ext)/\(w0.drew).cell? ⟨X+1,6,none⟩=some (.string (zAc b.text))/\(w0.drew).cell? ⟨X+1,7,none⟩=some (.slice kb2 kn2 kc2)/\Blk (w0.drew) X (zAh a kind (.slice mb mn mc) (.slice kb kn kc)) 31/\Blk (w0.drew) (X+1) (zAh b kind2 (.slice mb2 mn2 mc2) (.slice kb2 kn2 kc2)) 31/\zAf (w0.drew) (.slice mb mn mc) a.mag/\zAf (w0.drew) (.slice mb2 mn2 mc2) b.mag/\zAK (w0.drew)/\Below w0.heap.size w0 (w0.drew)):=zz (by
  have h1:=hB1.drew;have h2:=hB2.drew;have hd:=zAd (zK w0.heap.size w0) 1;exact⟨h1.cell 0,h1.cell 1,h1.cell 2,h1.cell 3,h1.cell 4,h1.cell 5,h1.cell 6,h1.cell 7,h2.cell 0,h2.cell 1,h2.cell 2,h2.cell 3,h2.cell 4,h2.cell 5,h2.cell 6,h2.cell 7,h1,h2,hma0.below hd,hmb0.below hd,hG0.below hd hG0.size,hd⟩)
 have HT:Hid (∀ w' w'',(w'.cell? ⟨X,0,none⟩=some (.int .i8 kind)/\w'.cell? ⟨X,1,none⟩=some (.int .u64 (a.n:Int))/\w'.cell? ⟨X,2,none⟩=some (.bool a.neg)/\w'.cell? ⟨X,3,none⟩=some (.slice mb mn mc)/\w'.cell? ⟨X,4,none⟩=some (.int .u64 (a.bits:Int))/\w'.cell? ⟨X,5,none⟩=some (.int .i8 a.ext)/\w'.cell? ⟨X,6,none⟩=some (.string (zAc a.text))/\w'.cell? ⟨X,7,none⟩=some (.slice kb kn kc)/\w'.cell? ⟨X+1,0,none⟩=some (.int .i8 kind2)/\w'.cell? ⟨X+1,1,none⟩=some (.int .u64 (b.n:Int))/\w'.cell? ⟨X+1,2,none⟩=some (.bool b.neg)/\w'.cell? ⟨X+1,3,none⟩=some (.slice mb2 mn2 mc2)/\w'.cell? ⟨X+1,4,none⟩=some (.int .u64 (b.bits:Int))/\w'.cell? ⟨X+1,5,none⟩=some (.int .i8 b.ext)/\w'.cell? ⟨X+1,6,none⟩=some (.string (zAc b.text))/\w'.cell? ⟨X+1,7,none⟩=some (.slice kb2 kn2 kc2)/\Blk w' X (zAh a kind (.slice mb mn mc) (.slice kb kn kc)) 31/\Blk w' (X+1) (zAh b kind2 (.slice mb2 mn2 mc2) (.slice kb2 kn2 kc2)) 31/\zAf w' (.slice mb mn mc) a.mag/\zAf w' (.slice mb2 mn2 mc2) b.mag/\zAK w'/\Below w0.heap.size w0 w')->Hid (Below w'.heap.size w' w'')->(w''.cell? ⟨X,0,none⟩=some (.int .i8 kind)/\w''.cell? ⟨X,1,none⟩=some (.int .u64 (a.n:Int))/\w''.cell? ⟨X,2,none⟩=some (.bool a.neg)/\w''.cell? ⟨X,3,none⟩=some (.slice mb mn mc)/\w''.cell? ⟨X,4,none⟩=some (.int .u64 (a.bits:Int))/\w''.cell? ⟨X,5,none⟩=some (.int .i8 a.ext)/\w''.cell? ⟨X,6,none⟩=some (.string (zAc a.text))/\w''.cell? ⟨X,7,none⟩=some (.slice kb kn kc)/\w''.cell? ⟨X+1,0,none⟩=some (.int .i8 kind2)/\w''.cell? ⟨X+1,1,none⟩=some (.int .u64 (b.n:Int))/\w''.cell? ⟨X+1,2,none⟩=some (.bool b.neg)/\w''.cell? ⟨X+1,3,none⟩=some (.slice mb2 mn2 mc2)/\w''.cell? ⟨X+1,4,none⟩=some (.int .u64 (b.bits:Int))/\w''.cell? ⟨X+1,5,none⟩=some (.int .i8 b.ext)/\w''.cell? ⟨X+1,6,none⟩=some (.string (zAc b.text))/\w''.cell? ⟨X+1,7,none⟩=some (.slice kb2 kn2 kc2)/\Blk w'' X (zAh a kind (.slice mb mn mc) (.slice kb kn kc)) 31/\Blk w'' (X+1) (zAh b kind2 (.slice mb2 mn2 mc2) (.slice kb2 kn2 kc2)) 31/\zAf w'' (.slice mb mn mc) a.mag/\zAf w'' (.slice mb2 mn2 mc2) b.mag/\zAK w''/\Below w0.heap.size w0 w'')):=zz (fun w' w'' h hk=>by
  obtain⟨_,_,_,_,_,_,_,_,_,_,_,_,_,_,_,_,q1,q2,q3,q4,q5,q6⟩:=h;have h1:=q1.below hk.out q1.lt;have h2:=q2.below hk.out q2.lt;exact⟨h1.cell 0,h1.cell 1,h1.cell 2,h1.cell 3,h1.cell 4,h1.cell 5,h1.cell 6,h1.cell 7,h2.cell 0,h2.cell 1,h2.cell 2,h2.cell 3,h2.cell 4,h2.cell 5,h2.cell 6,h2.cell 7,h1,h2,q3.below hk.out,q4.below hk.out,q5.below hk.out q5.size,q6.trans (hk.out.mono q6.size)⟩)
 have HWC:Hid (∀ w',(w'.cell? ⟨X,0,none⟩=some (.int .i8 kind)/\w'.cell? ⟨X,1,none⟩=some (.int .u64 (a.n:Int))/\w'.cell? ⟨X,2,none⟩=some (.bool a.neg)/\w'.cell? ⟨X,3,none⟩=some (.slice mb mn mc)/\w'.cell? ⟨X,4,none⟩=some (.int .u64 (a.bits:Int))/\w'.cell? ⟨X,5,none⟩=some (.int .i8 a.ext)/\w'.cell? ⟨X,6,none⟩=some (.string (zAc a.text))/\w'.cell? ⟨X,7,none⟩=some (.slice kb kn kc)/\w'.cell? ⟨X+1,0,none⟩=some (.int .i8 kind2)/\w'.cell? ⟨X+1,1,none⟩=some (.int .u64 (b.n:Int))/\w'.cell? ⟨X+1,2,none⟩=some (.bool b.neg)/\w'.cell? ⟨X+1,3,none⟩=some (.slice mb2 mn2 mc2)/\w'.cell? ⟨X+1,4,none⟩=some (.int .u64 (b.bits:Int))/\w'.cell? ⟨X+1,5,none⟩=some (.int .i8 b.ext)/\w'.cell? ⟨X+1,6,none⟩=some (.string (zAc b.text))/\w'.cell? ⟨X+1,7,none⟩=some (.slice kb2 kn2 kc2)/\Blk w' X (zAh a kind (.slice mb mn mc) (.slice kb kn kc)) 31/\Blk w' (X+1) (zAh b kind2 (.slice mb2 mn2 mc2) (.slice kb2 kn2 kc2)) 31/\zAf w' (.slice mb mn mc) a.mag/\zAf w' (.slice mb2 mn2 mc2) b.mag/\zAK w'/\Below w0.heap.size w0 w')->Calls Tryz.prog 22 #[.agg #[.bool a.neg,.slice mb mn mc],.agg #[.bool b.neg,.slice mb2 mn2 mc2]] w' fun e w''=>Below w'.heap.size w' w''/\e=.returned (.int .i64 (zJy a.neg (val a.mag) b.neg (val b.mag)))):=zz (fun w' h=>by
  obtain⟨_,_,_,_,_,_,_,_,_,_,_,_,_,_,_,_,q1,q2,q3,q4,q5,q6⟩:=h;exact zLU w' a.neg b.neg _ _ _ _ q3 q4 HLL.out.1 HLL.out.2)
 have HTO:Hid (∀ w',(w'.cell? ⟨X,0,none⟩=some (.int .i8 kind)/\w'.cell? ⟨X,1,none⟩=some (.int .u64 (a.n:Int))/\w'.cell? ⟨X,2,none⟩=some (.bool a.neg)/\w'.cell? ⟨X,3,none⟩=some (.slice mb mn mc)/\w'.cell? ⟨X,4,none⟩=some (.int .u64 (a.bits:Int))/\w'.cell? ⟨X,5,none⟩=some (.int .i8 a.ext)/\w'.cell? ⟨X,6,none⟩=some (.string (zAc a.text))/\w'.cell? ⟨X,7,none⟩=some (.slice kb kn kc)/\w'.cell? ⟨X+1,0,none⟩=some (.int .i8 kind2)/\w'.cell? ⟨X+1,1,none⟩=some (.int .u64 (b.n:Int))/\w'.cell? ⟨X+1,2,none⟩=some (.bool b.neg)/\w'.cell? ⟨X+1,3,none⟩=some (.slice mb2 mn2 mc2)/\w'.cell? ⟨X+1,4,none⟩=some (.int .u64 (b.bits:Int))/\w'.cell? ⟨X+1,5,none⟩=some (.int .i8 b.ext)/\w'.cell? ⟨X+1,6,none⟩=some (.string (zAc b.text))/\w'.cell? ⟨X+1,7,none⟩=some (.slice kb2 kn2 kc2)/\Blk w' X (zAh a kind (.slice mb mn mc) (.slice kb kn kc)) 31/\Blk w' (X+1) (zAh b kind2 (.slice mb2 mn2 mc2) (.slice kb2 kn2 kc2)) 31/\zAf w' (.slice mb mn mc) a.mag/\zAf w' (.slice mb2 mn2 mc2) b.mag/\zAK w'/\Below w0.heap.size w0 w')->Calls Tryz.prog 23 #[.int .u64 (a.bits:Int),.int .u64 (b.bits:Int)] w' fun e w''=>e=.returned (.int .i64 (zJv a.bits b.bits))/\Below w'.heap.size w' w''):=zz (fun w' h=>by
  obtain⟨_,_,_,_,_,_,_,_,_,_,_,_,_,_,_,_,q1,q2,q3,q4,q5,q6⟩:=h;exact zJD w' q5 a.bits b.bits HN.out.2.2.1 HN.out.2.2.2)
 have HX:Hid (∀ w',(w'.cell? ⟨X,0,none⟩=some (.int .i8 kind)/\w'.cell? ⟨X,1,none⟩=some (.int .u64 (a.n:Int))/\w'.cell? ⟨X,2,none⟩=some (.bool a.neg)/\w'.cell? ⟨X,3,none⟩=some (.slice mb mn mc)/\w'.cell? ⟨X,4,none⟩=some (.int .u64 (a.bits:Int))/\w'.cell? ⟨X,5,none⟩=some (.int .i8 a.ext)/\w'.cell? ⟨X,6,none⟩=some (.string (zAc a.text))/\w'.cell? ⟨X,7,none⟩=some (.slice kb kn kc)/\w'.cell? ⟨X+1,0,none⟩=some (.int .i8 kind2)/\w'.cell? ⟨X+1,1,none⟩=some (.int .u64 (b.n:Int))/\w'.cell? ⟨X+1,2,none⟩=some (.bool b.neg)/\w'.cell? ⟨X+1,3,none⟩=some (.slice mb2 mn2 mc2)/\w'.cell? ⟨X+1,4,none⟩=some (.int .u64 (b.bits:Int))/\w'.cell? ⟨X+1,5,none⟩=some (.int .i8 b.ext)/\w'.cell? ⟨X+1,6,none⟩=some (.string (zAc b.text))/\w'.cell? ⟨X+1,7,none⟩=some (.slice kb2 kn2 kc2)/\Blk w' X (zAh a kind (.slice mb mn mc) (.slice kb kn kc)) 31/\Blk w' (X+1) (zAh b kind2 (.slice mb2 mn2 mc2) (.slice kb2 kn2 kc2)) 31/\zAf w' (.slice mb mn mc) a.mag/\zAf w' (.slice mb2 mn2 mc2) b.mag/\zAK w'/\Below w0.heap.size w0 w')->w'.cell? ⟨X,7,none⟩=some (.slice kb kn kc)/\w'.cell? ⟨X+1,7,none⟩=some (.slice kb2 kn2 kc2)/\Below w0.heap.size w0 w'):=zz (fun w' h=>by
  obtain⟨_,_,_,_,_,_,_,h7,_,_,_,_,_,_,_,h8,q1,q2,q3,q4,q5,q6⟩:=h;exact⟨h7,h8,q6⟩)
 obtain⟨c,hc⟩:∃ c,c=zOV a b kind kind2:=⟨_,rfl⟩;have HC0:=zz hc;rw[<-hc] at HF HK
 have HOR:Hid (∀ w':World,Calls Tryz.prog 18 #[.slice (some ⟨w'.heap.size,0,none⟩) 6 6] (w'.alloc (.cells #[.int .i64 (sgI kind kind2),.int .i64 (sgI a.n b.n),.int .i64 (sgI a.ext b.ext),.int .i64 (zJy a.neg (val a.mag) b.neg (val b.mag)),.int .i64 (zJv a.bits b.bits),.int .i64 (zJb a.text b.text)] 3)) fun e w''=>e=.returned (.int .i64 c)/\w''=w'.alloc (.cells #[.int .i64 (sgI kind kind2),.int .i64 (sgI a.n b.n),.int .i64 (sgI a.ext b.ext),.int .i64 (zJy a.neg (val a.mag) b.neg (val b.mag)),.int .i64 (zJv a.bits b.bits),.int .i64 (zJb a.text b.text)] 3)):=zz (fun w'=>by
  refine (zOZ _ w'.heap.size 0 6 [sgI kind kind2,sgI a.n b.n,sgI a.ext b.ext,zJy a.neg (val a.mag) b.neg (val b.mag),zJv a.bits b.bits,zJb a.text b.text] (by simp) (fun i hi=>?_)).mono ?_
  ·rw[Nat.zero_add,(Blk.new w' _ _).cell]
   match i,hi with
   | 0,_=>rfl
   | 1,_=>rfl
   | 2,_=>rfl
   | 3,_=>rfl
   | 4,_=>rfl
   | 5,_=>rfl
  ·rintro e w'' ⟨rfl,rfl⟩;exact⟨by rw[hc];rfl,rfl⟩)
 have HCK:=zz (fun w=>zMQ w kind kind2);have HCN:=zz (fun w=>zGK w (a.n:Int) (b.n:Int));have HCE:=zz (fun w=>zPl w a.ext b.ext);have HCS:=zz (fun w=>zNB w a.text b.text);clear hG hka hkb hma hmb hla hlb hK hF hw0 hb0 hB1 hB2 hG0 hma0 hmb0 hX hc;generalize sgI kind kind2=c1 at HCK HOR;generalize sgI (a.n:Int) (b.n:Int)=c2 at HCN HOR;generalize sgI a.ext b.ext=c3 at HCE HOR;generalize zJy a.neg (val a.mag) b.neg (val b.mag)=c4 at HWC HOR;generalize zJv a.bits b.bits=c5 at HTO HOR;generalize zJb a.text b.text=c6 at HCS HOR;unfold zAh;unfold zAa;go_enter Tryz.func8,Tryz.ntmps8
 go_upto_region 1 with fail
 change Code.wp _ _ _ _ ((w.alloc (.cells (zAh a kind (.slice mb mn mc) (.slice kb kn kc)) 31)).alloc (.cells (zAh b kind2 (.slice mb2 mn2 mc2) (.slice kb2 kn2 kc2)) 31));rw[<-HW0.out,HXE.out];go_cut [5] from 6 to 37 (fun cv wx=>cv=.int .i64 c/\wx.cell? ⟨X,7,none⟩=some (.slice kb kn kc)/\wx.cell? ⟨X+1,7,none⟩=some (.slice kb2 kn2 kc2)/\Hid (Below w0.heap.size w0 wx))
 case first=>
  go_region_held3 (fun w'=>(w'.cell? ⟨X,0,none⟩=some (.int .i8 kind)/\w'.cell? ⟨X,1,none⟩=some (.int .u64 (a.n:Int))/\w'.cell? ⟨X,2,none⟩=some (.bool a.neg)/\w'.cell? ⟨X,3,none⟩=some (.slice mb mn mc)/\w'.cell? ⟨X,4,none⟩=some (.int .u64 (a.bits:Int))/\w'.cell? ⟨X,5,none⟩=some (.int .i8 a.ext)/\w'.cell? ⟨X,6,none⟩=some (.string (zAc a.text))/\w'.cell? ⟨X,7,none⟩=some (.slice kb kn kc)/\w'.cell? ⟨X+1,0,none⟩=some (.int .i8 kind2)/\w'.cell? ⟨X+1,1,none⟩=some (.int .u64 (b.n:Int))/\w'.cell? ⟨X+1,2,none⟩=some (.bool b.neg)/\w'.cell? ⟨X+1,3,none⟩=some (.slice mb2 mn2 mc2)/\w'.cell? ⟨X+1,4,none⟩=some (.int .u64 (b.bits:Int))/\w'.cell? ⟨X+1,5,none⟩=some (.int .i8 b.ext)/\w'.cell? ⟨X+1,6,none⟩=some (.string (zAc b.text))/\w'.cell? ⟨X+1,7,none⟩=some (.slice kb2 kn2 kc2)/\Blk w' X (zAh a kind (.slice mb mn mc) (.slice kb kn kc)) 31/\Blk w' (X+1) (zAh b kind2 (.slice mb2 mn2 mc2) (.slice kb2 kn2 kc2)) 31/\zAf w' (.slice mb mn mc) a.mag/\zAf w' (.slice mb2 mn2 mc2) b.mag/\zAK w'/\Below w0.heap.size w0 w'))
   (first
    | exact HS0.out
    | assumption
    | (refine HT.out _ _ ?_ hb9;assumption)
    | (refine HT.out _ _ ?_ (zz ((zK _ _).alloc (zQ _) _));assumption))
   ((first
    | (go_at_call 19;refine (HCK.out _).mono ?_;rintro e w9 ⟨rfl,rfl⟩)
    | (go_at_call 20;refine (HCN.out _).mono ?_;rintro e w9 ⟨rfl,rfl⟩)
    | (go_at_call 21;refine (HCE.out _).mono ?_;rintro e w9 ⟨rfl,rfl⟩)
    | (go_at_call 24;refine (HCS.out _).mono ?_;rintro e w9 ⟨rfl,rfl⟩)
    | (go_at_call 22;refine (HWC.out _ (by first|exact HS0.out|assumption|(refine HT.out _ _ ?_ (by assumption);first|exact HS0.out|assumption))).mono ?_;rintro e w9 ⟨hb9,rfl⟩;replace hb9:=zz hb9)
    | (go_at_call 23;refine (HTO.out _ (by first|exact HS0.out|assumption|(refine HT.out _ _ ?_ (by assumption);first|exact HS0.out|assumption))).mono ?_;rintro e w9 ⟨rfl,hb9⟩;replace hb9:=zz hb9)
    | (go_at_call 18;refine (HOR.out _).mono ?_;rintro e w9 ⟨rfl,rfl⟩)))
  have hx:=HX.out (w9.alloc (.cells #[.int .i64 c1,.int .i64 c2,.int .i64 c3,.int .i64 c4,.int .i64 c5,.int .i64 c6] 3)) (by assumption);clear HX HT HS0 HWC HTO HOR HCK HCN HCE HCS;go_wp2;go_meet
  exact⟨rfl,hx.1,hx.2.1,zz hx.2.2⟩
 case rest=>
  obtain⟨rfl,k1,k2,HBw⟩:=hcut;have HBZ:=zz (HB0.out.trans (HBw.out.mono HB0.out.size));clear HX HT HS0 HWC HTO HOR HCK HCN HCE HCS HBw;by_cases hc0:c=0
  ·have HF1:=zz (HF.out hc0 wc HBZ.out);have hq:(c != 0)=false:=by rw[hc0];rfl
   clear HF HK hc0 HC0;go_wp2_with fail
   refine HF1.out.mono ?_;rintro e w9 ⟨⟨cc,rfl,hk⟩,hb9⟩;have HB9:=zz (HBZ.out.trans (hb9.mono HBZ.out.size));have HKK:=zz hk;clear hb9 hk k1 k2;go_wp2;go_ret;exact⟨⟨cc,rfl,HKK.out⟩,(by rw[<-HXE.out];exact HB9.out)⟩
  ·have hq:(c != 0)=true:=bne_iff_ne.2 hc0;have HKK:=zz (HK.out hc0);clear HF HK hc0 HC0 k1 k2;go_wp2;go_ret;exact⟨⟨c,rfl,HKK.out⟩,(by rw[<-HXE.out];exact HBZ.out)⟩
def zPf(f g:VT):Prop:=∀ (w:World) (N:Nat) (v u:Value) (d:Nat),zAK w->N<=w.heap.size->zAl w N f v->zAl w N g u->f.small d->g.small d ->
 Calls Tryz.prog 8 #[v,u] w fun e w'=>(∃ c:Int,e=.returned (.int .i64 c)/\(f.good->g.good->c=f.cmp g))/\Below w.heap.size w w'
theorem zHh(w:World)(N m k d:Nat)(hG:zAK w)(hN:N<=w.heap.size)(b o cap b2 o2 cap2:Nat)(kb kb2:Option Addr)(xs ys:Nat->Array Value)(fs gs:Nat->VT)(hb:0<m->kb=some ⟨b,o,none⟩/\b<N/\zBO w b o m xs)(hb2:0<k->kb2=some ⟨b2,o2,none⟩/\b2<N/\zBO w b2 o2 k ys)
  (hm:m<=1048576) (hk:k<=1048576) (hf:∀ i,i<m->zAl w N (fs i) (.agg (xs i))/\(fs i).small d) (hg:∀ i,i<k->zAl w N (gs i) (.agg (ys i))/\(gs i).small d) (hI:∀ i,i<m->∀ g,zPf (fs i) g) :
  Calls Tryz.prog 25 #[.slice kb m cap,.slice kb2 k cap2,.func (.func 8) #[] #[]] w fun e w'=>(∃ c:Int,e=.returned (.int .i64 c)/\((∀ i,i<m->(fs i).good)->(∀ i,i<k->(gs i).good)->c=zFB (fun i=>(fs i).cmp (gs i)) m k m))/\Below w.heap.size w w':=by
 have HB:=zz hb;have HB2:=zz hb2;have HF:=zz hf;have HGG:=zz hg;have HI:=zz hI;have HS:=zz hG;have HN:=zz hN;have hcf:∀ (args:Array Value) (w:World),(callFunc 8 args).run Tryz.prog w=.ok (.enter 8 args) w:=fun _ _=>by kernel_rfl
 clear hb hb2 hf hg hI hG hN;go_enter Tryz.func25,Tryz.ntmps25
 go_wp2;go_loopw [13] (fun iv wr=>∃ i:Nat,i<=m/\iv=.int .i64 (i:Int)/\Hid ((∀ i,i<m->(fs i).good)->(∀ i,i<k->(gs i).good)->zFB (fun i=>(fs i).cmp (gs i)) m k (m - i)=zFB (fun i=>(fs i).cmp (gs i)) m k m)/\Hid (i<=k)/\Hid (Below w.heap.size w wr)) (fun iv _=>m - (intOf iv).toNat)
 case atStart=>exact⟨0,by omega,rfl,zz (fun _ _=>rfl),zz (Nat.zero_le _),zz (zK _ _)⟩
 case round=>
  obtain⟨i,hi,rfl,HQ,HIK,HBr⟩:=hrel;have hik:=HIK.out;by_cases h1:i<m
  ·have hI:(i:Int)<(m:Int):=by omega
   obtain⟨rfl,hbN,hrow⟩:=HB.out (by omega);have hTk:=zAl.below (HBr.out.mono HN.out) _ _ (HF.out i h1).1;obtain⟨hx8,hxc⟩:=(hrow.below (HBr.out.mono HN.out) hbN) i h1;obtain⟨a1,kind1,mb1,mn1,mc1,kb1,kn1,kc1,hxk⟩:=hTk.cells;have HTK:=zz hTk;simp only[Value.agg.injEq] at hxk;rw[hxk] at hxc HTK;have d0:=hxc 0 (by omega);have d1:=hxc 1 (by omega);have d2:=hxc 2 (by omega);have d3:=hxc 3 (by omega);have d4:=hxc 4 (by omega);have d5:=hxc 5 (by omega);have d6:=hxc 6 (by omega);have d7:=hxc 7 (by omega);simp only[zAh,zAa,zv,zk,zx,Nat.add_zero] at d0 d1 d2 d3 d4 d5 d6 d7;clear hx8 hxc hxk hTk hrow;have hby:Below wr.heap.size wr (wr.alloc (.cells (zAh a1 kind1 (.slice mb1 mn1 mc1) (.slice kb1 kn1 kc1)) 31)):=(zK _ _).alloc (zQ _) _;have hbl:=Blk.new wr (zAh a1 kind1 (.slice mb1 mn1 mc1) (.slice kb1 kn1 kc1)) 31;have HBY:=zz (HBr.out.trans (hby.mono HBr.out.size));have HBL:=zz hbl;have HT1:=zz (zAl.below (hby.mono (zJ HN.out HBr.out.size)) _ _ HTK.out);clear hby hbl HTK;go_upto_region 4 with fail
   change Code.wp _ _ _ _ (wr.alloc (.cells (zAh a1 kind1 (.slice mb1 mn1 mc1) (.slice kb1 kn1 kc1)) 31));clear d0 d1 d2 d3 d4 d5 d6 d7;have HWS:Hid (w.heap.size<=wr.heap.size):=zz HBr.out.size;generalize wr.alloc (.cells (zAh a1 kind1 (.slice mb1 mn1 mc1) (.slice kb1 kn1 kc1)) 31)=w1 at HBY HBL HT1 ⊢;generalize wr.heap.size=X1 at HBL HWS ⊢;clear HBr;by_cases h2:k<=i
   ·have hI2:(k:Int)<=(i:Int):=by omega
    have HRES:Hid ((∀ i,i<m->(fs i).good)->(∀ i,i<k->(gs i).good)->1=zFB (fun i=>(fs i).cmp (gs i)) m k m):=zz (fun g1 g2=>by
     rw[<-HQ.out g1 g2];obtain⟨r,hr⟩:∃ r,m - i=r+1:=⟨m - i - 1,by omega⟩;rw[hr,zFB,if_pos (by omega)])
    go_wp2;go_ret;exact⟨⟨1,rfl,HRES.out⟩,HBY.out⟩
   ·have hI2:¬ (k:Int)<=(i:Int):=by omega
    have hI3:(i:Int)<(k:Int):=by omega
    obtain⟨rfl,hbN2,hrow2⟩:=HB2.out (by omega);have hTk:=zAl.below (HBY.out.mono HN.out) _ _ (HGG.out i (by omega)).1;obtain⟨hx8,hxc⟩:=(hrow2.below (HBY.out.mono HN.out) hbN2) i (by omega);obtain⟨a2,kind2,mb2,mn2,mc2,kb2,kn2,kc2,hxk⟩:=hTk.cells;have HTK:=zz hTk;simp only[Value.agg.injEq] at hxk;rw[hxk] at hxc HTK;have d0:=hxc 0 (by omega);have d1:=hxc 1 (by omega);have d2:=hxc 2 (by omega);have d3:=hxc 3 (by omega);have d4:=hxc 4 (by omega);have d5:=hxc 5 (by omega);have d6:=hxc 6 (by omega);have d7:=hxc 7 (by omega);simp only[zAh,zAa,zv,zk,zx,Nat.add_zero] at d0 d1 d2 d3 d4 d5 d6 d7;clear hx8 hxc hxk hTk hrow2;have hby:Below w1.heap.size w1 (w1.alloc (.cells (zAh a2 kind2 (.slice mb2 mn2 mc2) (.slice kb2 kn2 kc2)) 31)):=(zK _ _).alloc (zQ _) _;have hbl:=Blk.new w1 (zAh a2 kind2 (.slice mb2 mn2 mc2) (.slice kb2 kn2 kc2)) 31;have HBY2:=zz (HBY.out.trans (hby.mono HBY.out.size));have HBL2:=zz hbl;have HBL1:=zz (HBL.out.below hby HBL.out.lt);have HT2:=zz (zAl.below (hby.mono (zJ HN.out HBY.out.size)) _ _ HTK.out);have HT11:=zz (zAl.below (hby.mono (zJ HN.out HBY.out.size)) _ _ HT1.out);clear hby hbl HTK HT1 HBL;go_upto_region 7 with fail
    change Code.wp _ _ _ _ (w1.alloc (.cells (zAh a2 kind2 (.slice mb2 mn2 mc2) (.slice kb2 kn2 kc2)) 31));clear d0 d1 d2 d3 d4 d5 d6 d7;generalize w1.alloc (.cells (zAh a2 kind2 (.slice mb2 mn2 mc2) (.slice kb2 kn2 kc2)) 31)=w2 at HBY2 HBL2 HBL1 HT2 HT11 ⊢;generalize w1.heap.size=X2 at HBL2 ⊢;clear HBY;have HC:=zz (HI.out i h1 (gs i) w2 N _ _ d (HS.out.below HBY2.out HS.out.size) (zJ HN.out HBY2.out.size) HT11.out HT2.out (HF.out i h1).2 (HGG.out i (by omega)).2);refine wp_region_lit ?_;iterate 3 go_step
    refine wpList_load_row rfl 31 _ rfl X1 rfl 31 _ (0,0) _ HBL1.out Tryz.underlying31 rfl (by kernel_rfl) ?_;refine wpList_load_row rfl 31 _ rfl X2 rfl 31 _ (0,0) _ HBL2.out Tryz.underlying31 rfl (by kernel_rfl) ?_;go_wp2_with fail
    refine HC.out.mono ?_;rintro e w3 ⟨⟨c,rfl,hc⟩,hb3⟩;have HB3:=zz (HBY2.out.trans (hb3.mono HBY2.out.size));have HCC:=zz hc;clear hb3 hc HC HBY2 HBL2 HBL1 HT2 HT11;by_cases hc0:c=0
    ·have hq:(c != 0)=false:=by rw[hc0];rfl
     have gi:IntKind.i64.wrap ((i:Int)+1)=(i:Int)+1:=zY _ (by omega)
     have HRES:Hid ((∀ i,i<m->(fs i).good)->(∀ i,i<k->(gs i).good)->zFB (fun i=>(fs i).cmp (gs i)) m k (m - (i+1))=zFB (fun i=>(fs i).cmp (gs i)) m k m):=zz (fun g1 g2=>by
      rw[<-HQ.out g1 g2];obtain⟨r,hr⟩:∃ r,m - i=r+1:=⟨m - i - 1,by omega⟩;have e1:m - (i+1)=r:=by omega
      have e2:m - (r+1)=i:=by omega
      have h3:=HCC.out (g1 i h1) (g2 i (by omega));rw[hr,e1,zFB,e2,if_neg (by omega),if_pos (by rw[<-h3];exact hc0)])
     clear hc0;go_wp2;go_roundw
     case rel=>exact⟨i+1,by omega,by simp,HRES,zz (by omega),HB3⟩
     case measure=>simp[intOf];omega
    ·have hq:(c != 0)=true:=bne_iff_ne.2 hc0
     have HRES:Hid ((∀ i,i<m->(fs i).good)->(∀ i,i<k->(gs i).good)->c=zFB (fun i=>(fs i).cmp (gs i)) m k m):=zz (fun g1 g2=>by
      rw[<-HQ.out g1 g2];obtain⟨r,hr⟩:∃ r,m - i=r+1:=⟨m - i - 1,by omega⟩;have e2:m - (r+1)=i:=by omega
      have h3:=HCC.out (g1 i h1) (g2 i (by omega));rw[hr,zFB,e2,if_neg (by omega),if_neg (by rw[<-h3];exact hc0),h3])
     clear hc0;go_wp2;go_ret;exact⟨⟨c,rfl,HRES.out⟩,HB3.out⟩
  ·obtain rfl:m=i:=by omega
   have hI:¬ (m:Int)<(m:Int):=by omega
   by_cases h3:m<k
   ·have hI3:(m:Int)<(k:Int):=by omega
    have HRES:Hid ((∀ i,i<m->(fs i).good)->(∀ i,i<k->(gs i).good)->(-1:Int)=zFB (fun i=>(fs i).cmp (gs i)) m k m):=zz (fun g1 g2=>by
     rw[<-HQ.out g1 g2,Nat.sub_self,zFB,if_pos h3])
    go_wp2;go_ret;exact⟨⟨-1,rfl,HRES.out⟩,HBr.out⟩
   ·have hI3:¬ (m:Int)<(k:Int):=by omega
    have HRES:Hid ((∀ i,i<m->(fs i).good)->(∀ i,i<k->(gs i).good)->(0:Int)=zFB (fun i=>(fs i).cmp (gs i)) m k m):=zz (fun g1 g2=>by
     rw[<-HQ.out g1 g2,Nat.sub_self,zFB,if_neg h3])
    go_wp2;go_ret;exact⟨⟨0,rfl,HRES.out⟩,HBr.out⟩
theorem zCm:∀ (f g:VT),zPf f g
 | .stop,g=>fun w N v u d hG hN h=>h.elim
 | .node a m fs,.stop=>fun w N v u d hG hN h h2=>h2.elim
 | .node a m fs,.node b k gs=>fun w N v u d hG hN h h2 hs hs2=>by
  obtain⟨kind,mag,kb,cap,rfl,hfit,hmag,hc1,hc2,hkids⟩:=h;obtain⟨kind2,mag2,kb2,cap2,rfl,hfit2,hmag2,hc3,hc4,hkids2⟩:=h2;obtain⟨s1,s2,s3,s4⟩:=hs;obtain⟨t1,t2,t3,t4⟩:=hs2;have hl:=hmag.1;have hl2:=hmag2.1;obtain⟨mb,mc,rfl⟩:=hl.slice;obtain⟨mb2,mc2,rfl⟩:=hl2.slice
  have hcmp:(VT.node a m fs).good->(VT.node b k gs).good->zOV a b kind kind2=zOT a b:=fun g1 g2=>by
   have e1:(a.kind:Int)=kind:=by
    have h1:=hfit.1;have h2:=VA.kind_pos g1.1;omega
   have e2:(b.kind:Int)=kind2:=by
    have h1:=hfit2.1;have h2:=VA.kind_pos g2.1;omega
   unfold zOV zOT;rw[e1,e2]
  refine zF9 w hG a b kind kind2 hfit hfit2 mb mb2 kb kb2 _ _ mc mc2 m k cap cap2 hl hl2 s1 t1 (fun c=>(VT.node a m fs).good->(VT.node b k gs).good->c=(VT.node a m fs).cmp (VT.node b k gs)) (fun h0 g1 g2=>?_) (fun h0 w' hb=>?_)
  ·rw[hcmp g1 g2] at h0 ⊢;rw[VT.cmp,if_neg h0]
  ·obtain⟨b1,o1,xs,hx⟩:∃ b1 o1 xs,(0<m->kb=some ⟨b1,o1,none⟩/\b1<N/\zBO w' b1 o1 m xs)/\(∀ i,i<m->zAl w' N (fs i) (.agg (xs i))):=by
    rcases hkids with h|⟨b1,o1,xs,hk,h3,h4,h5⟩
    ·exact⟨0,0,fun _=>#[],fun h'=>by omega,fun i hi=>by omega⟩
    ·exact⟨b1,o1,xs,fun _=>⟨hk,h3,h4.below (hb.mono hN) h3⟩,fun i hi=>zAl.below (hb.mono hN) _ _ (h5 i hi)⟩
   obtain⟨b2,o2,ys,hy⟩:∃ b1 o1 xs,(0<k->kb2=some ⟨b1,o1,none⟩/\b1<N/\zBO w' b1 o1 k xs)/\(∀ i,i<k->zAl w' N (gs i) (.agg (xs i))):=by
    rcases hkids2 with h|⟨b1,o1,xs,hk,h3,h4,h5⟩
    ·exact⟨0,0,fun _=>#[],fun h'=>by omega,fun i hi=>by omega⟩
    ·exact⟨b1,o1,xs,fun _=>⟨hk,h3,h4.below (hb.mono hN) h3⟩,fun i hi=>zAl.below (hb.mono hN) _ _ (h5 i hi)⟩
   refine (zHh w' N m k (d - 1) (hG.below hb hG.size) (zJ hN hb.size) b1 o1 cap b2 o2 cap2 kb kb2 xs ys fs gs hx.1 hy.1 s3 t3 (fun i hi=>⟨hx.2 i hi,(s4 i hi).2⟩) (fun i hi=>⟨hy.2 i hi,(t4 i hi).2⟩) (fun i _ g=>zCm (fs i) g)).mono ?_;rintro e w'' ⟨⟨c,rfl,hc⟩,hb'⟩;refine⟨⟨c,rfl,fun g1 g2=>?_⟩,hb'⟩;rw[hc (fun i hi=>g1.2.2 i hi) (fun i hi=>g2.2.2 i hi),VT.cmp,if_pos (by rw[<-hcmp g1 g2];exact h0)]
end Go.Proofs.YtcanfakaigpkgaaGreatDoor.D
