/-
  Of the proof that the law DiagUnlike answers true at every two values: a part, without conditions of its own.
-/
import Derived.Test.YtcanfakaigpkgaaGreatDoorPart40
set_option linter.unusedVariables false
set_option linter.unusedSimpArgs false
set_option maxRecDepth 100000
set_option maxHeartbeats 8000000
namespace Go.Proofs.YtcanfakaigpkgaaGreatDoor.D
open Go Go.RowKit Limb
attribute [local go_sem high] zAI zAg zBv zAz
structure zPZ (S:List UInt8) (a ar m:Nat) (ps qs rs:Nat->Nat) (fs:Nat->F) (ds:Nat->Nat) (ops:Nat->Bool):Prop where
 b0:Btw S (a+1) (ps 0)
 lt:∀ i,i<m->ps i<S.length/\S.getD (ps i) 0≠93
 rd:∀ i,i<m->zCn S (ps i) (qs i) ar (fs i) (ds i) (ops i)
 bt:∀ i,i<m->Btw S (qs i) (rs i)
 rl:∀ i,i<m->rs i<S.length
 bad:S.getD (rs 0) 0≠93/\S.getD (rs 0) 0≠44
theorem zLI(S:List UInt8)(a ar:Nat)(ps qs rs:Nat->Nat)(fs:Nat->F)(ds:Nat->Nat)(ops:Nat->Bool)(ha:a<S.length)(hS:S.length<=1099511627776)(hA:zPZ S a ar 1 ps qs rs fs ds ops):
  zQk 60 [.int .i64 (ar:Int)] S a false 3 (rs 0):=by
 have HA:=zz hA;have HBAD:=zz hA.bad;obtain⟨m,hm⟩:∃ m,m=1:=⟨1,rfl⟩;have HM:=zz hm;rw[<-hm] at HA;have hm3:m<2:=by omega
 have hm1:1<=m:=by omega
 clear hA hm;intro w p hG hp hr;obtain⟨w0,hw0⟩:∃ w0,w0=w.alloc (.cells zAr 31):=⟨_,rfl⟩;obtain⟨w1,hw1⟩:∃ w1,w1=w0.alloc (.cells (zAR (.slice none 0 0)) 31):=⟨_,rfl⟩;have hb0:Below w.heap.size w w0:=by rw[hw0];exact (zK _ _).alloc (zQ _) _
 have hX:Blk w0 w.heap.size zAr 31:=by rw[hw0];exact Blk.new _ _ _
 have hb1:Below w0.heap.size w0 w1:=by rw[hw1];exact (zK _ _).alloc (zQ _) _
 have hs0:w0.heap.size=w.heap.size+1:=by rw[hw0];simp
 have hs1:w1.heap.size=w.heap.size+2:=by rw[hw1];simp;omega
 have hY:Blk w1 (w.heap.size+1) (zAR (.slice none 0 0)) 31:=by rw[hw1,<-hs0];exact Blk.new _ _ _
 have hpw:p<w.heap.size:=Blk.lt hr;have hpX:w.heap.size≠p:=by omega
 have hpY:w.heap.size+1≠p:=by omega
 have hr1:Rd w1 p S a false:=Blk.below (Blk.below hr hb0 hpw) hb1 (by omega);have hX1:=hX.below hb1 (by omega);have hE1:Ex (fun k=>k=p) w.heap.size w w1:=Ex.of_below (hb0.trans (hb1.mono (by omega)));have c1:=hr1.at1;have f1:w1.frozen? ⟨p,1,none⟩=false:=Blk.free hr1 1;obtain⟨a',ha'⟩:∃ a',a'=a+1:=⟨_,rfl⟩;have g3:IntKind.i64.wrap ((a:Int)+1)=(a':Int):=by rw[zY _ (by omega),ha'];simp
 have hr2:Rd (w1.setCell ⟨p,1,none⟩ (.int .i64 (a':Int))) p S a' false:=hr1.set1 a';have hX2:=hX1.set_other ⟨p,1,none⟩ (.int .i64 (a':Int)) hpX;have hY2:=hY.set_other ⟨p,1,none⟩ (.int .i64 (a':Int)) hpY;have hE2:=hE1.setCell p 1 (.inl rfl) (.int .i64 (a':Int));have HB0:Hid (Btw S a' (ps 0)):=zz (by rw[ha'];exact HA.out.b0);have HG:=zz hG;have HW0:=zz hw0;have HW1:=zz hw1;have HR2:=zz hr2;have HX2:=zz hX2;have HY2:=zz hY2;have HE2:=zz hE2;clear hG hw0 hw1 hb0 hb1 hX hY hr hr1 hX1 hE1 hr2 hX2 hY2 hE2 ha' hs0 hs1;show Calls _ _ #[_,_] _ _;go_enter Tryz.func60,Tryz.ntmps60
 go_upto_region 2 with fail
 change Code.wp _ _ _ _ ((w.alloc (.cells zAr 31)).alloc (.cells (zAR (.slice none 0 0)) 31));rw[<-HW0.out,<-HW1.out];go_upto_region 3 with fail
 clear c1 f1 g3;generalize w1.setCell ⟨p,1,none⟩ (.int .i64 (a':Int))=w2 at HR2 HX2 HY2 HE2 ⊢;have hsz2:w.heap.size+1<w2.heap.size:=HY2.out.lt;go_wp2_with fail
 refine (HB0.out.call hS w2 p false HR2.out).mono ?_;rintro e w3 ⟨rfl,hr3⟩;have HX3:=zz (hr3.2.blk HX2.out (by omega) hpX);have HY3:=zz (hr3.2.blk HY2.out hsz2 hpY);have HE3:=zz (HE2.out.trans (hr3.2.mono (by omega) (fun _ h=>h)));have HR3:=zz hr3.1;clear hr3 HX2 HY2 HE2 HR2 HW0 HW1 hsz2;go_wp2_with fail
 go_loopw [] (fun wr=>∃ (k:Nat) (op:Bool) (kv:Value) (ys:Nat->Array Value),k<m/\Hid (Blk wr w.heap.size zAr 31)/\Hid (Blk wr (w.heap.size+1) (zAR kv) 31)/\Hid (Ex (fun k=>k=p) w.heap.size w wr)/\Hid (Rd wr p S (ps k) op)/\Hid (KS (w.heap.size+2) wr kv k ys fs ds)) (fun wr=>S.length - zPI wr p)
 case atStart=>exact⟨0,false,_,fun _=>#[],by omega,HX3,HY3,HE3,HR3,zz (KS.nil _ _ _ _ _)⟩
 case round=>
  clear HX3 HY3 HE3 HR3;obtain⟨k,op,kv,ys,hkm,HXr,HYr,HEr,HRr,HKr⟩:=hrel;have hlt:=HA.out.lt k hkm;have HAT:=zz HRr.out.atOf
  obtain⟨kb,kc,hkv⟩:∃ kb kc,kv=.slice kb k kc:=by
   rcases HKr.out.own.2 with ⟨rfl,rfl⟩|⟨g,cap,cur,hv,_⟩
   ·exact⟨none,0,rfl⟩
   ·exact⟨_,_,hv⟩
  subst hkv;have HLT:=zz hlt;clear hlt;go_wp2_with fail
  refine (zAT wr p S (ps k) op HRr.out [93] (fun _=>by simpa using HLT.out.2)).mono ?_;rintro e w4 ⟨rfl,n4,rfl⟩;have HR4:=zz (HRr.out.drewN n4);have HX4:=zz (HXr.out.drewN n4);have HY4:=zz (HYr.out.drewN n4);have HE4:=zz (HEr.out.drewN n4);have HK4:Hid (KS (w.heap.size+2) (wr.drewN n4) (.slice kb k kc) k ys fs ds):=zz (HKr.out.same (fun b _ _=>rfl));generalize wr.drewN n4=w4 at HR4 HX4 HY4 HE4 HK4 ⊢;clear HXr HYr HEr HRr HKr;go_upto_region 5 with fail
  have hsz4:w.heap.size+1<w4.heap.size:=HY4.out.lt;have HQ:Hid (∀ w',Rd w' p S (ps k) op->GW w'->Calls Tryz.prog 29 #[.pointer (some ⟨p,0,none⟩),.int .i64 (ar:Int)] w' fun e w''=>Rs p S (qs k) (ops k) w' w''/\∃ v,e=.returned v/\zAm w'' (fun b=>w'.heap.size<=b) (fs k) (ds k) v):=zz (fun w' h hg=>HA.out.rd k hkm op w' p hg hp h);have c7:∀ w',Blk w' (w.heap.size+1) (zAR (.slice kb k kc)) 31->w'.cell? ⟨w.heap.size+1,7,none⟩=some (.slice kb k kc):=fun w' h=>h.cell 7
  have HC7:=zz c7;clear c7;refine wp_region_noPanic ?_;refine wp_region_held_drew (S:=fun w'=>True) (by kernel_rfl) trivial (fun hH=>?_);refine zAy (d:=some 25) (hd:=by rfl) (i:=0) (oi:=_) (v:=.pointer (some ⟨w.heap.size+1,7,none⟩)) rfl (by kernel_rfl) (by kernel_rfl) (by kernel_rfl) (fun _ _ _ h=>h) (Or.inl ⟨by rfl,fun w' hSw=>?_⟩) hH ?_
  ·clear hH hSw;go_simp
  try simp only[Act.put,zy,zq,zj]
  refine zAy (d:=some 27) (hd:=by rfl) (i:=2) (oi:=_) (v:=.pointer (some ⟨p,0,none⟩)) rfl (by kernel_rfl) (by kernel_rfl) (by kernel_rfl) (fun _ _ _ h=>h) (Or.inl ⟨by rfl,fun w' hSw=>?_⟩) hH ?_
  ·clear hH hSw;go_simp
  try simp only[Act.put,zy,zq,zj]
  refine zAy (d:=some 28) (hd:=by rfl) (i:=3) (oi:=_) (v:=.int .i64 (ar:Int)) rfl (by kernel_rfl) (by kernel_rfl) (by kernel_rfl) (fun _ _ _ h=>h) (Or.inl ⟨by rfl,fun w' hSw=>?_⟩) hH ?_
  ·clear hH hSw;go_simp
  try simp only[Act.put,zy,zq,zj]
  have hgx:GW w4.drew:=HG.out.ex (p:=p) (HE4.out.drewN 1) hp;have HGx:=zz hgx;have HRx:Hid (Rd w4.drew p S (ps k) op):=zz (HR4.out.drewN 1);have HYx:Hid (Blk w4.drew (w.heap.size+1) (zAR (.slice kb k kc)) 31):=zz (HY4.out.drewN 1);clear hgx;refine wpAnyH_ready (rs:=[1,4]) (by kernel_rfl) (by simp) ?_;refine AllReadyH.cons (o:=_) rfl (fun K hK=>?_) (AllReadyH.cons (o:=_) rfl (fun K hK=>?_) AllReadyH.nil)
  rotate_left
  focus
   go_simp;refine (HQ.out _ HRx.out HGx.out).mono ?_;rintro e w5 ⟨hr5,v5,rfl,hT5⟩;obtain⟨k1,k2,k3,k4,k5,k6,k7,k8,k9,k10,k11,rfl⟩:=hT5.row;have HR5:=zz hr5;have HT5:=zz hT5;clear hr5 hT5;simp only[zAa];go_wp2_with fail
   refine hK.out _ _ trivial (fun hH=>?_);clear hK K
   try simp only[Act.put,zy,zq,zj]
   have HYx5:Hid (Blk w5 (w.heap.size+1) (zAR (.slice kb k kc)) 31):=zz (HR5.out.2.blk HYx.out (Blk.lt HYx.out) hpY);have hw6:Below w5.heap.size w5 (w5.alloc (.cells #[.int .i8 k1,.int .u64 k2,.bool false,.slice k3 k4 k5,.int .u64 k6,.int .i8 k7,.string (zAc k8),.slice k9 k10 k11] 31)):=(zK _ _).alloc (zQ _) _;have hZ6:=Blk.new w5 #[.int .i8 k1,.int .u64 k2,.bool false,.slice k3 k4 k5,.int .u64 k6,.int .i8 k7,.string (zAc k8),.slice k9 k10 k11] 31;have HYx6:Hid (Blk (w5.alloc (.cells #[.int .i8 k1,.int .u64 k2,.bool false,.slice k3 k4 k5,.int .u64 k6,.int .i8 k7,.string (zAc k8),.slice k9 k10 k11] 31)) (w.heap.size+1) (zAR (.slice kb k kc)) 31):=zz (HYx5.out.below hw6 HYx5.out.lt);refine wpAnyH_ready (rs:=[1,5]) (by kernel_rfl) (by simp) ?_;refine AllReadyH.cons (o:=_) rfl (fun K hK=>?_) (AllReadyH.cons (o:=_) rfl (fun K hK=>?_) AllReadyH.nil)
   focus
    have c7:=HC7.out w5 HYx5.out;go_simp;refine hK.out _ _ trivial (fun hH=>?_);clear hK K c7
    try simp only[Act.put,zy,zq,zj]
    refine wpAnyH_ready (rs:=[5]) (by kernel_rfl) (by simp) ?_;refine AllReadyH.cons (o:=_) rfl (fun K hK=>?_) AllReadyH.nil;go_simp;refine hK.out _ _ trivial (fun hH=>?_);clear hK K
    try simp only[Act.put,zy,zq,zj]
   rotate_left
   focus
    go_simp;refine hK.out _ _ trivial (fun hH=>?_);clear hK K
    try simp only[Act.put,zy,zq,zj]
    refine wpAnyH_ready (rs:=[1]) (by kernel_rfl) (by simp) ?_;refine AllReadyH.cons (o:=_) rfl (fun K hK=>?_) AllReadyH.nil;have c7:=HC7.out (w5.alloc (.cells #[.int .i8 k1,.int .u64 k2,.bool false,.slice k3 k4 k5,.int .u64 k6,.int .i8 k7,.string (zAc k8),.slice k9 k10 k11] 31)) HYx6.out;go_simp;refine hK.out _ _ trivial (fun hH=>?_);clear hK K c7
    try simp only[Act.put,zy,zq,zj]
  rotate_left 2
  focus
   have c7:=HC7.out w4.drew HYx.out;go_simp;refine hK.out _ _ trivial (fun hH=>?_);clear hK K c7
   try simp only[Act.put,zy,zq,zj]
   refine wpAnyH_ready (rs:=[4]) (by kernel_rfl) (by simp) ?_;refine AllReadyH.cons (o:=_) rfl (fun K hK=>?_) AllReadyH.nil;go_simp;refine (HQ.out _ HRx.out HGx.out).mono ?_;rintro e w5 ⟨hr5,v5,rfl,hT5⟩;obtain⟨k1,k2,k3,k4,k5,k6,k7,k8,k9,k10,k11,rfl⟩:=hT5.row;have HR5:=zz hr5;have HT5:=zz hT5;clear hr5 hT5;simp only[zAa];go_wp2_with fail
   refine hK.out _ _ trivial (fun hH=>?_);clear hK K
   try simp only[Act.put,zy,zq,zj]
   have HYx5:Hid (Blk w5 (w.heap.size+1) (zAR (.slice kb k kc)) 31):=zz (HR5.out.2.blk HYx.out (Blk.lt HYx.out) hpY);have hw6:Below w5.heap.size w5 (w5.alloc (.cells #[.int .i8 k1,.int .u64 k2,.bool false,.slice k3 k4 k5,.int .u64 k6,.int .i8 k7,.string (zAc k8),.slice k9 k10 k11] 31)):=(zK _ _).alloc (zQ _) _;have hZ6:=Blk.new w5 #[.int .i8 k1,.int .u64 k2,.bool false,.slice k3 k4 k5,.int .u64 k6,.int .i8 k7,.string (zAc k8),.slice k9 k10 k11] 31;have HYx6:Hid (Blk (w5.alloc (.cells #[.int .i8 k1,.int .u64 k2,.bool false,.slice k3 k4 k5,.int .u64 k6,.int .i8 k7,.string (zAc k8),.slice k9 k10 k11] 31)) (w.heap.size+1) (zAR (.slice kb k kc)) 31):=zz (HYx5.out.below hw6 HYx5.out.lt);refine wpAnyH_ready (rs:=[5]) (by kernel_rfl) (by simp) ?_;refine AllReadyH.cons (o:=_) rfl (fun K hK=>?_) AllReadyH.nil;go_simp;refine hK.out _ _ trivial (fun hH=>?_);clear hK K
   try simp only[Act.put,zy,zq,zj]
  all_goals
   refine wpAnyH_ready (rs:=[6]) (by kernel_rfl) (by simp) ?_;refine AllReadyH.cons (o:=_) rfl (fun K hK=>?_) AllReadyH.nil;rw[if_pos (by rfl)];have hsz45:w4.heap.size<=w5.heap.size:=HR5.out.2.size;have hks6:KS (w.heap.size+2) (w5.alloc (.cells #[.int .i8 k1,.int .u64 k2,.bool false,.slice k3 k4 k5,.int .u64 k6,.int .i8 k7,.string (zAc k8),.slice k9 k10 k11] 31)) (.slice kb k kc) k ys fs ds:=HK4.out.same (fun b hb hl=>(hw6.block b (by omega)).trans (HR5.out.2.block b hl (fun e=>by omega)));have hone6:(#[.int .i8 k1,.int .u64 k2,.bool false,.slice k3 k4 k5,.int .u64 k6,.int .i8 k7,.string (zAc k8),.slice k9 k10 k11]:Array Value).all (·.oneCell')=true:=zAo k1 k2 false (.slice k3 k4 k5) k6 k7 (zAc k8) (.slice k9 k10 k11) rfl rfl;have HONE:=zz hone6;refine zB7 (.tmp 26) (.tmp 30) rfl (w.heap.size+2) (.slice kb k kc) k (zC4 k ys) rfl hks6.own ⟨w5.heap.size,0,none⟩ 1 1 (by omega) (#[.int .i8 k1,.int .u64 k2,.bool false,.slice k3 k4 k5,.int .u64 k6,.int .i8 k7,.string (zAc k8),.slice k9 k10 k11]:Array Value).toList rfl rfl ?c1 ?c2 (by omega) ?c5 ?_
   case c1=>
    intro j u hj;rw[zA1,Nat.zero_add,hZ6.cell j]
    simpa using hj
   case c2=>
    intro u hu;have:=HONE.out;rw[Array.all_eq_true_iff_forall_mem] at this;exact this u (by simpa using hu)
   case c5=>simp;omega
   intro v7 w7 hown7 hgrow7 hg7;have hlt7:∀ g,(Value.slice kb k kc).ownBlock=some g->g<w4.heap.size:=fun g hg=>(HK4.out.own.lt g hg).2
   have hge7:∀ g,(Value.slice kb k kc).ownBlock=some g->w.heap.size+2<=g:=fun g hg=>(HK4.out.own.lt g hg).1
   have HKS7:=zz (hks6.snoc (z:=#[.int .i8 k1,.int .u64 k2,.bool false,.slice k3 k4 k5,.int .u64 k6,.int .i8 k7,.string (zAc k8),.slice k9 k10 k11]) rfl hone6 (wa:=w4.heap.size) (zAm.same (fun b _ hl=>hw6.block b hl) (fun b hb _=>hb) _ _ _ HT5.out) (by omega) hlt7 hown7 hgrow7 hg7);obtain⟨g7,cp7,rfl,_⟩:=hg7;have hlow:∀ b,b<w.heap.size+2->w7.heap[b]?=w5.heap[b]?:=fun b hb=>(hgrow7.block b (by simp;omega) (fun e=>by have:=hge7 b e.symm;omega)).trans (hw6.block b (by omega))
   have hx5:=HR5.out.2.blk (HX4.out.drewN 1) (by show w.heap.size<w4.heap.size;omega) hpX;have hy5:=HYx5.out;have HX7:Hid (Blk w7 w.heap.size zAr 31):=zz (by unfold Blk at hx5 ⊢;rw[hlow _ (by omega)];exact hx5);have hy7:Blk w7 (w.heap.size+1) (zAR (.slice kb k kc)) 31:=by unfold Blk at hy5 ⊢;rw[hlow _ (by omega)];exact hy5
   have hr7:Rd w7 p S (qs k) (ops k):=by have:=HR5.out.1;unfold Rd Blk at this ⊢;rw[hlow _ (by omega)];exact this
   have he7:Ex (fun k=>k=p) w.heap.size w w7:=((HE4.out.drewN 1).trans (HR5.out.2.mono (by show w.heap.size<=w4.heap.size;omega) (fun _ h=>h))).trans ⟨hgrow7.os.trans hw6.os,hgrow7.tape.trans hw6.tape,hgrow7.output.trans hw6.output,zJ hw6.size hgrow7.size,fun b hb _=>hlow b (by omega)⟩;have e7:w7.cell? ⟨w.heap.size+1,7,none⟩=some (.slice kb k kc):=hy7.cell 7;have f7:w7.frozen? ⟨w.heap.size+1,7,none⟩=false:=hy7.free 7;have hsz7:w.heap.size+1<w7.heap.size:=hy7.lt;have HY8:Hid (Blk (w7.setCell ⟨w.heap.size+1,7,none⟩ (.slice (some ⟨g7,0,none⟩) (k+1) cp7)) (w.heap.size+1) (zAR (.slice (some ⟨g7,0,none⟩) (k+1) cp7)) 31):=zz (by rw[<-zEU];exact hy7.set 7 _);have HX8:=zz (HX7.out.set_other ⟨w.heap.size+1,7,none⟩ (.slice (some ⟨g7,0,none⟩) (k+1) cp7) (by simp));have HR8:Hid (Rd (w7.setCell ⟨w.heap.size+1,7,none⟩ (.slice (some ⟨g7,0,none⟩) (k+1) cp7)) p S (qs k) (ops k)):=zz (Blk.set_other hr7 _ _ (by show p≠w.heap.size+1;omega));have HE8:=zz (he7.setCell (w.heap.size+1) 7 (.inr (by omega)) (.slice (some ⟨g7,0,none⟩) (k+1) cp7));have HK8:Hid (KS (w.heap.size+2) (w7.setCell ⟨w.heap.size+1,7,none⟩ (.slice (some ⟨g7,0,none⟩) (k+1) cp7)) (.slice (some ⟨g7,0,none⟩) (k+1) cp7) (k+1) (fun i=>if i=k then #[.int .i8 k1,.int .u64 k2,.bool false,.slice k3 k4 k5,.int .u64 k6,.int .i8 k7,.string (zAc k8),.slice k9 k10 k11] else ys i) fs ds):=zz (HKS7.out.same (fun b hb _=>Below.heap_setCell _ _ _ _ (by show b≠w.heap.size+1;omega)));clear hown7 hgrow7 hlt7 hge7 hks6 hone6 hlow hx5 hy5 hy7 hr7 he7 hw6 hZ6 HKS7 HX7 HYx5 HYx6 HT5 HR5 HX4 HY4 HE4 HK4 HR4 HGx HRx HYx HQ HC7 hsz45 hsz4 HONE;refine hK.out _ _ trivial (fun hH=>?_);clear hK K
   try simp only[Act.put,zy,zq,zj]
   refine zAy (d:=some 32) (hd:=by rfl) (i:=7) (oi:=_) (v:=.pointer (some ⟨w.heap.size+1,7,none⟩)) rfl (by kernel_rfl) (by kernel_rfl) (by kernel_rfl) (fun _ _ _ h=>h) (Or.inl ⟨by rfl,fun w' hSw=>?_⟩) hH ?_
   ·clear hH hSw;go_simp
   try simp only[Act.put,zy,zq,zj]
   refine wpAnyH_ready (rs:=[8]) (by kernel_rfl) (by simp) ?_;refine AllReadyH.cons (o:=_) rfl (fun K hK=>?_) AllReadyH.nil;go_simp;refine hK.out _ _ trivial (fun hH=>?_);clear hK K e7 f7
   try simp only[Act.put,zy,zq,zj]
   refine wpAnyH_done (by kernel_rfl) ?_ _;refine NoPanic.normal ?_;clear hH;generalize w7.setCell ⟨w.heap.size+1,7,none⟩ (.slice (some ⟨g7,0,none⟩) (k+1) cp7)=w8 at HX8 HY8 HR8 HE8 HK8 ⊢;clear hsz7;have HBT:=zz (HA.out.bt k hkm);have hsz8:w.heap.size+1<w8.heap.size:=HY8.out.lt;go_wp2_with fail
   refine (HBT.out.call hS w8 p (ops k) HR8.out).mono ?_;rintro e w9 ⟨rfl,hr9⟩;have HX9:=zz (hr9.2.blk HX8.out (by omega) hpX);have HY9:=zz (hr9.2.blk HY8.out hsz8 hpY);have HE9:=zz (HE8.out.trans (hr9.2.mono (by omega) (fun _ h=>h)));have HK9:=zz (HK8.out.same (fun b hb hl=>hr9.2.block b hl (fun e=>by omega)));have HR9:=zz hr9.1;have hsz9:w.heap.size+1<w9.heap.size:=HY9.out.lt;clear hr9 HX8 HY8 HE8 HK8 HR8 hsz8 HBT;obtain rfl:k=0:=by omega
   go_wp2_with fail
   refine (zAT w9 p S (rs 0) (ops 0) HR9.out [93] (fun _=>by simpa using HBAD.out.1)).mono ?_;rintro e wa ⟨rfl,na,rfl⟩;have HRa:=zz (HR9.out.drewN na);have HEa:=zz (HE9.out.drewN na);generalize w9.drewN na=wa at HRa HEa ⊢;clear HR9 HX9 HY9 HE9 HK9 hsz9;go_wp2_with fail
   refine (zMT wa p S (rs 0) (ops 0) HRa.out 44 [] (fun _=>HBAD.out.2)).mono ?_;rintro e wb ⟨rfl,hrb⟩;have HEb:=zz (HEa.out.trans (hrb.2.mono (by have:=HEa.out.size;omega) (fun _ h=>h)));clear hrb;go_wp2;exact⟨rfl,HEb.out,rfl⟩
end Go.Proofs.YtcanfakaigpkgaaGreatDoor.D
namespace Go.Proofs.YtcanfakaigpkgaaGreatDoor.D
open Go Go.RowKit Go.Extern.Stop Go.Stop Go.Extern Limb
structure zN7 (S:List UInt8) (w w3:World):Prop where
 b3:Below w.heap.size w w3
 v:Blk w3 w.heap.size zAr 31
 e:Blk w3 (w.heap.size+1) #[.nilIface] 35
 r:Rd w3 (w.heap.size+2) S 0 false
 s3:w3.heap.size=w.heap.size+3
theorem zKm(S:List UInt8)(w:World):zN7 S w (((w.alloc (.cells zAr 31)).alloc (.cells #[.nilIface] 35)).alloc (.cells #[.string (zAc S),.int .i64 0,.bool false] 70)):=by
 have s1:(w.alloc (.cells zAr 31)).heap.size=w.heap.size+1:=by simp
 have s2:((w.alloc (.cells zAr 31)).alloc (.cells #[.nilIface] 35)).heap.size=w.heap.size+2:=by simp
 refine⟨(((zK _ _).alloc (zQ _) _).alloc (by omega) _).alloc (by omega) _,((Blk.new _ _ _).alloc _).alloc _,?_,?_,by simp⟩
 ·have:=Blk.new (w.alloc (.cells zAr 31)) #[.nilIface] 35;rw[s1] at this;exact this.alloc _
 ·have:=Blk.new ((w.alloc (.cells zAr 31)).alloc (.cells #[.nilIface] 35)) #[.string (zAc S),.int .i64 0,.bool false] 70;rw[s2] at this;exact this
theorem zLn(e:Nat->Addr)(S:List UInt8)(a:Nat)(code at_:Nat)(hc:code=3 \/ code=5)(hS:S.length<=1048576)(hB:Btw S 0 a)(hF:zOk S a 0 code at_)(w:World)(hG:GW w)(hE:zCB e w):
  Calls Tryz.prog 9 #[.string (zAc S)] w fun r w'=>∃ v,r=.returned (.tuple #[.agg zAr,v])/\Below w.heap.size w w'/\zBp e w' code at_ v:=by
 have hmf:∀ (fn:Fn) (first cap:Array Value) (w:World),(Instr.makeFunc fn first cap).run Tryz.prog w=.ok (.func fn first cap) w:=fun _ _ _ _=>rfl
 have hlen:¬ (1048576<((zAc S).size:Int)):=by rw[zAg];omega
 have hst:=zKm S w;obtain⟨w3,hw3⟩:∃ w3,w3=((w.alloc (.cells zAr 31)).alloc (.cells #[.nilIface] 35)).alloc (.cells #[.string (zAc S),.int .i64 0,.bool false] 70):=⟨_,rfl⟩;rw[<-hw3] at hst;have HW3:=zz hw3;have HST:=zz hst;have HS40:Hid (S.length<=1099511627776):=zz (by omega);have HC:=zz hc;have HB:=zz hB;have HF:=zz hF;have HG:=zz hG;have HE:=zz hE;clear hw3 hst hc hS hB hF hG hE;go_enter_defers Tryz.func9,Tryz.ntmps9
 go_upto_region 5 with fail
 change Code.wp _ _ _ _ (((w.alloc (.cells zAr 31)).alloc (.cells #[.nilIface] 35)).alloc (.cells #[.string (zAc S),.int .i64 0,.bool false] 70));rw[<-HW3.out];go_wp2_with fail
 refine (HB.out.call HS40.out w3 (w.heap.size+2) false HST.out.r).mono ?_;rintro r w4 ⟨rfl,hr4,hx4⟩;have hv4:=hx4.blk HST.out.v (by have:=HST.out.s3;omega) (by omega);have he4:=hx4.blk HST.out.e (by have:=HST.out.s3;omega) (by omega);have hsz4:w3.heap.size<=w4.heap.size:=hx4.size;have hb4:Below w.heap.size w w4:=HST.out.b3.trans (hx4.below (by have:=HST.out.s3;omega) (fun k hk=>by omega));have hG4:=HG.out.step hb4;have hFF:=HF.out false w4 (w.heap.size+2) hG4 (by have:=HG.out.size;omega) hr4;have HV4:=zz hv4;have HE4:=zz he4;have HB4:=zz hb4;have HFF:=zz hFF;have HS4:=zz hsz4;clear hr4 hx4 hv4 he4 hb4 hG4 hFF hsz4;go_wp2_with fail
 refine HFF.out.mono ?_;rintro r w5 ⟨hx5,rfl⟩;have hb5:Below w.heap.size w w5:=HB4.out.trans (hx5.below (by have:=HS4.out;have:=HST.out.s3;omega) (fun k hk=>by omega));have hv5:=hx5.blk HV4.out (by have:=HS4.out;have:=HST.out.s3;omega) (by omega);have he5:=hx5.blk HE4.out (by have:=HS4.out;have:=HST.out.s3;omega) (by omega);have HB5:=zz hb5;have HV5:=zz hv5;have HE5:=zz he5;have HX5:Hid (w4.heap.size<=w5.heap.size):=zz hx5.size;clear hb5 hv5 he5 hx5;go_wp2;refine leaves_cons (f:=27) (args:=#[.pointer (some ⟨w.heap.size,0,none⟩),.pointer (some ⟨w.heap.size+1,0,none⟩)]) (by simp) (by simp[go_sem]) ?_;refine (zJo e w5 (HE.out.step HB5.out HG.out.size) (Nat.lt_of_lt_of_le HG.out.size HB5.out.size) code at_ HC.out w.heap.size (w.heap.size+1) (by omega) HV5.out HE5.out []).mono ?_;rintro r u w6 ⟨rfl,rfl,hx6,hv6,v,he6,hF6⟩;have c0:w6.cell? ⟨w.heap.size,0,none⟩=some (.int .i8 0):=hv6.cell 0;have c1:w6.cell? ⟨w.heap.size,1,none⟩=some (.int .u64 0):=hv6.cell 1;have c2:w6.cell? ⟨w.heap.size,2,none⟩=some (.bool false):=hv6.cell 2;have c3:w6.cell? ⟨w.heap.size,3,none⟩=some (.slice none 0 0):=hv6.cell 3;have c4:w6.cell? ⟨w.heap.size,4,none⟩=some (.int .u64 0):=hv6.cell 4;have c5:w6.cell? ⟨w.heap.size,5,none⟩=some (.int .i8 0):=hv6.cell 5;have c6:w6.cell? ⟨w.heap.size,6,none⟩=some (.string ⟨#[]⟩):=hv6.cell 6;have c7:w6.cell? ⟨w.heap.size,7,none⟩=some (.slice none 0 0):=hv6.cell 7;have d0:w6.cell? ⟨w.heap.size+1,0,none⟩=some v:=he6.cell 0;simp[Leaves,settle,results,Tryz.results9,go_sem,c0,c1,c2,c3,c4,c5,c6,c7,d0];exact⟨v,⟨rfl,rfl⟩,HB5.out.trans (hx6.below HB5.out.size (fun k hk=>by omega)),hF6⟩
theorem zOj(S:List UInt8)(a b d:Nat)(f:F)(op:Bool)(hS:S.length<=1048576)(hB:Btw S 0 a)(hR:zCn S a b 0 f d op)(hZ:Btw S b S.length)(w:World)(hG:GW w):
  Calls Tryz.prog 9 #[.string (zAc S)] w fun r w'=>∃ v,r=.returned (.tuple #[v,.nilIface])/\Below w.heap.size w w'/\zAm w' (fun k=>w.heap.size<=k) f d v:=by
 have hmf:∀ (fn:Fn) (first cap:Array Value) (w:World),(Instr.makeFunc fn first cap).run Tryz.prog w=.ok (.func fn first cap) w:=fun _ _ _ _=>rfl
 have hlen:¬ (1048576<((zAc S).size:Int)):=by rw[zAg];omega
 have hst:=zKm S w;obtain⟨w3,hw3⟩:∃ w3,w3=((w.alloc (.cells zAr 31)).alloc (.cells #[.nilIface] 35)).alloc (.cells #[.string (zAc S),.int .i64 0,.bool false] 70):=⟨_,rfl⟩;rw[<-hw3] at hst;have HW3:=zz hw3;have HST:=zz hst;have HS40:Hid (S.length<=1099511627776):=zz (by omega);have HB:=zz hB;have HR:=zz hR;have HZ:=zz hZ;have HG:=zz hG;clear hw3 hst hS hB hR hZ hG;go_enter_defers Tryz.func9,Tryz.ntmps9
 go_upto_region 5 with fail
 change Code.wp _ _ _ _ (((w.alloc (.cells zAr 31)).alloc (.cells #[.nilIface] 35)).alloc (.cells #[.string (zAc S),.int .i64 0,.bool false] 70));rw[<-HW3.out];go_wp2_with fail
 refine (HB.out.call HS40.out w3 (w.heap.size+2) false HST.out.r).mono ?_;rintro r w4 ⟨rfl,hr4,hx4⟩;have hv4:=hx4.blk HST.out.v (by have:=HST.out.s3;omega) (by omega);have he4:=hx4.blk HST.out.e (by have:=HST.out.s3;omega) (by omega);have hsz4:w3.heap.size<=w4.heap.size:=hx4.size;have hb4:Below w.heap.size w w4:=HST.out.b3.trans (hx4.below (by have:=HST.out.s3;omega) (fun k hk=>by omega));have hG4:=HG.out.step hb4;have hRR:=HR.out false w4 (w.heap.size+2) hG4 (by have:=HG.out.size;omega) hr4;have HV4:=zz hv4;have HE4:=zz he4;have HB4:=zz hb4;have HRR:=zz hRR;have HS4:Hid (w.heap.size+3<=w4.heap.size):=zz (by have:=HST.out.s3;omega);clear hr4 hx4 hv4 he4 hb4 hG4 hRR hsz4;go_upto_region 6 with fail
 refine wp_region_lit ?_;iterate 5 go_step
 refine HRR.out.mono ?_;rintro r w5 ⟨⟨hr5,hx5⟩,v,rfl,hT5⟩;obtain⟨kind,nn,mb,mn,mc,bits,ext,text,kb,kn,kc,rfl⟩:=hT5.row;have hb5:Below w.heap.size w w5:=HB4.out.trans (hx5.below (by have:=HS4.out;omega) (fun k hk=>by omega));have hv5:=hx5.blk HV4.out (by have:=HS4.out;omega) (by omega);have he5:=hx5.blk HE4.out (by have:=HS4.out;omega) (by omega);obtain⟨w6,hw6⟩:∃ w6,w6=w5.setRow w.heap.size (zAa kind nn false (.slice mb mn mc) bits ext (zAc text) (.slice kb kn kc)):=⟨_,rfl⟩;have hrow:∀ k,k≠w.heap.size->w6.heap[k]?=w5.heap[k]?:=fun k hk=>by rw[hw6];exact setRow_other _ _ _ _ hk
 have hv6:Blk w6 w.heap.size (zAa kind nn false (.slice mb mn mc) bits ext (zAc text) (.slice kb kn kc)) 31:=by rw[hw6];exact setRow_heap _ _ _ _ _ _ hv5
 have he6:Blk w6 (w.heap.size+1) #[.nilIface] 35:=by unfold Blk at *;rw[hrow _ (by omega)];exact he5
 have hr6:Rd w6 (w.heap.size+2) S b op:=by unfold Rd Blk at *;rw[hrow _ (by omega)];exact hr5
 have hb6:Below w.heap.size w w6:=by rw[hw6];exact zAO hb5 (zQ _) _
 have hsz6:w6.heap.size=w5.heap.size:=by rw[hw6];simp
 have hT6:zAm w6 (fun k=>w4.heap.size<=k) f d (.agg (zAa kind nn false (.slice mb mn mc) bits ext (zAc text) (.slice kb kn kc))):=zAm.same (fun k hk _=>hrow k (by have:=HS4.out;omega)) (fun k hk _=>hk) _ _ _ hT5;have HV5:=zz hv5;have HV6:=zz hv6;have HE6:=zz he6;have HB6:=zz hb6;have HT6:=zz hT6;have HS6:Hid (w4.heap.size<=w6.heap.size):=zz (by rw[hsz6];exact hx5.size);have HZC:=zz (HZ.out.call HS40.out w6 (w.heap.size+2) op hr6);have HW6:=zz hw6;clear hv5 hv6 he5 he6 hr5 hr6 hb5 hb6 hT5 hT6 hsz6 hx5 hrow hw6;dsimp only;go_step;refine wpList_store_row rfl 31 _ _ rfl w.heap.size (zAa kind nn false (.slice mb mn mc) bits ext (zAc text) (.slice kb kn kc)) rfl rfl 31 _ HV5.out (by kernel_rfl) rfl (zAo _ _ _ _ _ _ _ _ rfl rfl) ?_;rw[<-HW6.out];go_wp2_with fail
 refine HZC.out.mono ?_;rintro r w7 ⟨rfl,hr7,hx7⟩;have hv7:=hx7.blk HV6.out HV6.out.lt (by omega);have he7:=hx7.blk HE6.out HE6.out.lt (by omega);have hb7:Below w.heap.size w w7:=HB6.out.trans (hx7.below HB6.out.size (fun k hk=>by omega));have hT7:zAm w7 (fun k=>w4.heap.size<=k) f d (.agg (zAa kind nn false (.slice mb mn mc) bits ext (zAc text) (.slice kb kn kc))):=zAm.same (fun k hk hl=>hx7.block k hl (by have:=HS4.out;omega)) (fun k hk _=>hk) _ _ _ HT6.out;have a1:=hr7.at1;have hll:¬ ((S.length:Int)<((zAc S).size:Int)):=by rw[zAg];omega
 have HV7:=zz hv7;have HE7:=zz he7;have HB7:=zz hb7;have HT7:=zz hT7;have HS7:Hid (w4.heap.size<=w7.heap.size):=zz (zJ HS6.out hx7.size);clear hv7 he7 hb7 hT7 hr7 hx7;go_upto_region 10 with fail
 refine wp_region_lit ?_;refine wpList_load_row rfl 31 _ rfl w.heap.size rfl 31 _ (0,0) _ HV7.out Tryz.underlying31 rfl (by kernel_rfl) ?_;refine wpList_store_row rfl 31 _ _ rfl w.heap.size (zAa kind nn false (.slice mb mn mc) bits ext (zAc text) (.slice kb kn kc)) rfl rfl 31 _ HV7.out (by kernel_rfl) rfl (zAo _ _ _ _ _ _ _ _ rfl rfl) ?_;obtain⟨w8,hw8⟩:∃ w8,w8=w7.setRow w.heap.size (zAa kind nn false (.slice mb mn mc) bits ext (zAc text) (.slice kb kn kc)):=⟨_,rfl⟩;rw[<-hw8];have hrow:∀ k,k≠w.heap.size->w8.heap[k]?=w7.heap[k]?:=fun k hk=>by rw[hw8];exact setRow_other _ _ _ _ hk
 have hv8:Blk w8 w.heap.size (zAa kind nn false (.slice mb mn mc) bits ext (zAc text) (.slice kb kn kc)) 31:=by rw[hw8];exact setRow_heap _ _ _ _ _ _ HV7.out
 have he8:Blk w8 (w.heap.size+1) #[.nilIface] 35:=by have:=HE7.out;unfold Blk at *;rw[hrow _ (by omega)];exact this
 have hb8:Below w.heap.size w w8:=by rw[hw8];exact zAO HB7.out (zQ _) _
 have hT8:zAm w8 (fun k=>w4.heap.size<=k) f d (.agg (zAa kind nn false (.slice mb mn mc) bits ext (zAc text) (.slice kb kn kc))):=zAm.same (fun k hk _=>hrow k (by have:=HS4.out;omega)) (fun k hk _=>hk) _ _ _ HT7.out;have e0:=he8.cell 0;have e1:=he8.free 0;have hv9:=hv8.set_other ⟨w.heap.size+1,0,none⟩ .nilIface (by simp);have hb9:=hb8.setCell (p:=⟨w.heap.size+1,0,none⟩) (by simp) .nilIface;have hT9:zAm (w8.setCell ⟨w.heap.size+1,0,none⟩ .nilIface) (fun k=>w.heap.size<=k) f d (.agg (zAa kind nn false (.slice mb mn mc) bits ext (zAc text) (.slice kb kn kc))):=zAm.same (fun k hk _=>Below.heap_setCell _ _ _ _ (by have:=HS4.out;simp;omega)) (fun k hk _=>by have:=HS4.out;omega) _ _ _ hT8;have c0:(w8.setCell ⟨w.heap.size+1,0,none⟩ .nilIface).cell? ⟨w.heap.size,0,none⟩=some (.int .i8 kind):=hv9.cell 0;have c1:(w8.setCell ⟨w.heap.size+1,0,none⟩ .nilIface).cell? ⟨w.heap.size,1,none⟩=some (.int .u64 nn):=hv9.cell 1;have c2:(w8.setCell ⟨w.heap.size+1,0,none⟩ .nilIface).cell? ⟨w.heap.size,2,none⟩=some (.bool false):=hv9.cell 2;have c3:(w8.setCell ⟨w.heap.size+1,0,none⟩ .nilIface).cell? ⟨w.heap.size,3,none⟩=some (.slice mb mn mc):=hv9.cell 3;have c4:(w8.setCell ⟨w.heap.size+1,0,none⟩ .nilIface).cell? ⟨w.heap.size,4,none⟩=some (.int .u64 bits):=hv9.cell 4;have c5:(w8.setCell ⟨w.heap.size+1,0,none⟩ .nilIface).cell? ⟨w.heap.size,5,none⟩=some (.int .i8 ext):=hv9.cell 5;have c6:(w8.setCell ⟨w.heap.size+1,0,none⟩ .nilIface).cell? ⟨w.heap.size,6,none⟩=some (.string (zAc text)):=hv9.cell 6;have c7:(w8.setCell ⟨w.heap.size+1,0,none⟩ .nilIface).cell? ⟨w.heap.size,7,none⟩=some (.slice kb kn kc):=hv9.cell 7;have d0:(w8.setCell ⟨w.heap.size+1,0,none⟩ .nilIface).cell? ⟨w.heap.size+1,0,none⟩=some .nilIface:=(he8.set 0 .nilIface).cell 0
 have HB9:=zz hb9;have HT9:=zz hT9;clear hrow hv8 he8 hb8 hT8 hv9 hb9 hT9 hw8;go_wp2;refine leaves_cons (f:=27) (args:=#[.pointer (some ⟨w.heap.size,0,none⟩),.pointer (some ⟨w.heap.size+1,0,none⟩)]) (by simp) (by simp[go_sem]) ?_;refine (zJc w.heap.size (w.heap.size+1) _).mono ?_;rintro r u w9 ⟨rfl,rfl,rfl⟩;simp[Leaves,settle,results,Tryz.results9,go_sem,c0,c1,c2,c3,c4,c5,c6,c7,d0];exact⟨HB9.out,HT9.out⟩
end Go.Proofs.YtcanfakaigpkgaaGreatDoor.D
namespace Go.Proofs.YtcanfakaigpkgaaGreatDoor.D
open Go Go.RowKit Limb
theorem zLM(w:World)(hG:GW w)(f:F)(d:Nat)(v:Value)(hT:zAU w w.heap.size f d v)(hd:d<=128)(h0:f.txt≠[])(hl:f.txt.length<=1048576):
  Calls Tryz.prog 6 #[v] w fun r w'=>r=.returned (.tuple #[.string (zAc f.txt),.nilIface])/\Below w.heap.size w w':=by
 obtain⟨kind,nn,mb,mn,mc,bits,ext,text,kb,kn,kc,rfl⟩:=hT.cells;obtain⟨cs,hcs⟩:∃ cs,cs=(zAa kind nn false (.slice mb mn mc) bits ext (zAc text) (.slice kb kn kc)):=⟨_,rfl⟩;obtain⟨w1,hw1⟩:∃ w1,w1=w.alloc (.cells (zAa kind nn false (.slice mb mn mc) bits ext (zAc text) (.slice kb kn kc)) 31):=⟨_,rfl⟩;have hb1:Below w.heap.size w w1:=by rw[hw1];exact (zK _ _).alloc (zQ _) _
 have hB1:Blk w1 w.heap.size (zAa kind nn false (.slice mb mn mc) bits ext (zAc text) (.slice kb kn kc)) 31:=by rw[hw1];exact Blk.new _ _ _
 have hG1:=hG.step hb1;have hT1:=zAU.below hb1 _ _ _ hT;have HCK:=zz (zJ5 w1 hG1.s hG1.c w.heap.size f d _ hb1.size hT1 hd);have HB1:=zz hb1;have HBL1:=zz hB1;have HG1:=zz hG1;have HT1:=zz hT1;have HW1:=zz hw1;have HLG:=zz hl;have H0:=zz h0;clear hcs cs hb1 hB1 hG1 hT1 hw1 hG hT hd hl h0;unfold zAa;go_enter Tryz.func6,Tryz.ntmps6
 go_upto_region 1 with fail
 change Code.wp _ _ _ _ (w.alloc (.cells (zAa kind nn false (.slice mb mn mc) bits ext (zAc text) (.slice kb kn kc)) 31));rw[<-HW1.out];refine wp_region_lit ?_;refine wpList_load_row rfl 31 _ rfl w.heap.size rfl 31 _ (0,0) _ HBL1.out Tryz.underlying31 rfl (by kernel_rfl) ?_;go_wp2_with fail
 refine HCK.out.mono ?_;rintro r w2 ⟨rfl,hb2⟩;obtain⟨w3,hw3⟩:∃ w3,w3=w2.alloc (.cells #[.pointer none,.slice none 0 0,.int .i64 1048576] 51):=⟨_,rfl⟩;have hb3:Below w2.heap.size w2 w3:=by rw[hw3];exact (zK _ _).alloc (zQ _) _
 have hW3:Wr w2.heap.size w2.heap.size 1048576 [] w3:=by rw[hw3];exact .inl ⟨zQ _,_,Blk.new _ _ _,World.ownsRow_nil _ _ _ _,by simp[Value.ownBlock]⟩
 have hb23:=hb2.trans (hb3.mono hb2.size);have hT3:=zAU.below (hb23.mono HB1.out.size) _ _ _ HT1.out;have hG3:=HG1.out.step hb23;have hsz2:=hb2.size;have hlt:=HBL1.out.lt;have hgs:=HG1.out.size;have HV:=zz (zEX 1048576 f d _ w3 w2.heap.size w2.heap.size w.heap.size [] (by omega) hb3.size (by omega) hG3 hT3 hW3 (by have:=HLG.out;simp;omega) (by have:=HLG.out;simp;omega));have HBL3:=zz (HBL1.out.below hb23 HBL1.out.lt);have HB3:=zz (HB1.out.trans (hb23.mono HB1.out.size));have HW3:=zz hw3;have HS:=zz (show w.heap.size<=w2.heap.size by have:=HB1.out.size;omega);clear hb2 hb3 hW3 hb23 hT3 hG3 hsz2 hlt hgs hw3;go_upto_region 5 with fail
 change Code.wp _ _ _ _ (w2.alloc (.cells #[.pointer none,.slice none 0 0,.int .i64 1048576] 51));rw[<-HW3.out];refine wp_region_lit ?_;iterate 3 go_step
 refine wpList_load_row rfl 31 _ rfl w.heap.size rfl 31 _ (0,0) _ HBL3.out Tryz.underlying31 rfl (by kernel_rfl) ?_;go_wp2_with fail
 refine HV.out.mono ?_;rintro r w4 ⟨rfl,hW4,hK4⟩;rw[List.nil_append] at hW4;have HBH:=zz (BIs.has hW4 H0.out);have HLEN:=zz (zDf _ _ _ _ hW4);have HB4:=zz (HB3.out.trans (hK4.1.mono HS.out));have hlen:¬ ((f.txt.length:Int) > 1048576):=by have:=HLG.out;omega
 clear hW4 hK4;go_wp2_with fail
 refine HLEN.out.mono ?_;rintro r w5 ⟨rfl,rfl⟩;go_wp2_with fail
 refine (zBg _ _ _ _ HBH.out).mono ?_;rintro r w6 ⟨rfl,_,hb6⟩;have HB6:=zz (HB4.out.trans (hb6.mono HS.out));clear hb6;go_wp2;exact bodyPost_ret (v:=.tuple #[.string (zAc f.txt),.nilIface]) (by simp[results,Tryz.results6,go_sem]) rfl ⟨rfl,HB6.out⟩
end Go.Proofs.YtcanfakaigpkgaaGreatDoor.D
