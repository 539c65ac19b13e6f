/-
  Of the proof that the law DiagUnlike answers true at every two values: a part, without conditions of its own.
-/
import Derived.Test.YtcanfakaigpkgaaGreatDoorPart38
import Derived.Tactics
import Derived.Tactics2
import Derived.Defers
import Derived.Recover
import Derived.Laws.Pointers
import Derived.Test.YtcanfakaigpkgaaGreatDoorPart39
set_option linter.unusedVariables false
set_option linter.unusedSimpArgs false
set_option maxRecDepth 100000
set_option maxHeartbeats 8000000
namespace Go.Proofs.YtcanfakaigpkgaaGreatDoor.D
open Go Go.RowKit Limb
attribute [local go_sem high] zAI zAg zBv zAz
structure zO1 (S:List UInt8) (a ar m:Nat) (ps qs rs:Nat->Nat) (fs:Nat->F) (ds:Nat->Nat) (ops:Nat->Bool):Prop where
 m1:1<=m
 m3:m<=3
 b0:Btw S (a+1) (ps 0)
 lt:∀ i,i<m->ps i<S.length/\S.getD (ps i) 0≠93
 rd:∀ i,i<m->zCn S (ps i) (qs i) ar (fs i) (ds i) (ops i)
 bt:∀ i,i<m->Btw S (qs i) (rs i)
 rl:∀ i,i<m->rs i<S.length
 com:∀ i,i+1<m->S.getD (rs i) 0=44/\Btw S (rs i+1) (ps (i+1))/\ps i<ps (i+1)
 fin:S.getD (rs (m - 1)) 0=93
def zAR(kv:Value):Array Value:=zAa 7 0 false (.slice none 0 0) 0 0 ⟨#[]⟩ kv
theorem zEU(kv kv':Value):(zAR kv).setIfInBounds 7 kv'=zAR kv':=by simp[zAR,zAa]
theorem zMN(S:List UInt8)(a ar m:Nat)(ps qs rs:Nat->Nat)(fs:Nat->F)(ds:Nat->Nat)(ops:Nat->Bool)(d:Nat)(ha:a<S.length)(hS:S.length<=1099511627776)(hA:zO1 S a ar m ps qs rs fs ds ops)(hd:∀ i,i<m->ds i<d)(hd1:∃ i,i<m/\ds i+1=d):
  zId 60 [.int .i64 (ar:Int)] S a (rs (m - 1)+1) (.node ([91] ++ zAF [44,32] [44,32] m fs m ++ [93]) 0 fs) d false false:=by
 obtain⟨T,hTT⟩:∃ T,T=[91] ++ zAF [44,32] [44,32] m fs m ++ [93]:=⟨_,rfl⟩;rw[<-hTT];have HTT:=zz hTT;have HA:=zz hA;have HD:=zz hd;have HD1:=zz hd1;have hm1:=hA.m1;have hm3:=hA.m3;clear hTT hA hd hd1;intro w p hG hp hr;obtain⟨w0,hw0⟩:∃ w0,w0=w.alloc (.cells zAr 31):=⟨_,rfl⟩;obtain⟨w1,hw1⟩:∃ w1,w1=w0.alloc (.cells (zAR (.slice none 0 0)) 31):=⟨_,rfl⟩;have hb0:Below w.heap.size w w0:=by rw[hw0];exact (zK _ _).alloc (zQ _) _
 have hX:Blk w0 w.heap.size zAr 31:=by rw[hw0];exact Blk.new _ _ _
 have hb1:Below w0.heap.size w0 w1:=by rw[hw1];exact (zK _ _).alloc (zQ _) _
 have hs0:w0.heap.size=w.heap.size+1:=by rw[hw0];simp
 have hs1:w1.heap.size=w.heap.size+2:=by rw[hw1];simp;omega
 have hY:Blk w1 (w.heap.size+1) (zAR (.slice none 0 0)) 31:=by rw[hw1,<-hs0];exact Blk.new _ _ _
 have hpw:p<w.heap.size:=Blk.lt hr;have hpX:w.heap.size≠p:=by omega
 have hpY:w.heap.size+1≠p:=by omega
 have hr1:Rd w1 p S a false:=Blk.below (Blk.below hr hb0 hpw) hb1 (by omega);have hX1:=hX.below hb1 (by omega);have hE1:Ex (fun k=>k=p) w.heap.size w w1:=Ex.of_below (hb0.trans (hb1.mono (by omega)));have c1:=hr1.at1;have f1:w1.frozen? ⟨p,1,none⟩=false:=Blk.free hr1 1;obtain⟨a',ha'⟩:∃ a',a'=a+1:=⟨_,rfl⟩;have g3:IntKind.i64.wrap ((a:Int)+1)=(a':Int):=by rw[zY _ (by omega),ha'];simp
 have hr2:Rd (w1.setCell ⟨p,1,none⟩ (.int .i64 (a':Int))) p S a' false:=hr1.set1 a';have hX2:=hX1.set_other ⟨p,1,none⟩ (.int .i64 (a':Int)) hpX;have hY2:=hY.set_other ⟨p,1,none⟩ (.int .i64 (a':Int)) hpY;have hE2:=hE1.setCell p 1 (.inl rfl) (.int .i64 (a':Int));have HB0:Hid (Btw S a' (ps 0)):=zz (by rw[ha'];exact HA.out.b0);have HG:=zz hG;have HW0:=zz hw0;have HW1:=zz hw1;have HR2:=zz hr2;have HX2:=zz hX2;have HY2:=zz hY2;have HE2:=zz hE2;clear hG hw0 hw1 hb0 hb1 hX hY hr hr1 hX1 hE1 hr2 hX2 hY2 hE2 ha' hs0 hs1;show Calls _ _ #[_,_] _ _;go_enter Tryz.func60,Tryz.ntmps60
 go_upto_region 2 with fail
 change Code.wp _ _ _ _ ((w.alloc (.cells zAr 31)).alloc (.cells (zAR (.slice none 0 0)) 31));rw[<-HW0.out,<-HW1.out];go_upto_region 3 with fail
 clear c1 f1 g3;generalize w1.setCell ⟨p,1,none⟩ (.int .i64 (a':Int))=w2 at HR2 HX2 HY2 HE2 ⊢;have hsz2:w.heap.size+1<w2.heap.size:=HY2.out.lt;go_wp2_with fail
 refine (HB0.out.call hS w2 p false HR2.out).mono ?_;rintro e w3 ⟨rfl,hr3⟩;have HX3:=zz (hr3.2.blk HX2.out (by omega) hpX);have HY3:=zz (hr3.2.blk HY2.out hsz2 hpY);have HE3:=zz (HE2.out.trans (hr3.2.mono (by omega) (fun _ h=>h)));have HR3:=zz hr3.1;clear hr3 HX2 HY2 HE2 HR2 HW0 HW1 hsz2;go_wp2_with fail
 go_loopw [] (fun wr=>∃ (k:Nat) (op:Bool) (kv:Value) (ys:Nat->Array Value),k<m/\Hid (Blk wr w.heap.size zAr 31)/\Hid (Blk wr (w.heap.size+1) (zAR kv) 31)/\Hid (Ex (fun k=>k=p) w.heap.size w wr)/\Hid (Rd wr p S (ps k) op)/\Hid (KS (w.heap.size+2) wr kv k ys fs ds)) (fun wr=>S.length - zPI wr p)
 case atStart=>exact⟨0,false,_,fun _=>#[],by omega,HX3,HY3,HE3,HR3,zz (KS.nil _ _ _ _ _)⟩
 case round=>
  clear HX3 HY3 HE3 HR3;obtain⟨k,op,kv,ys,hkm,HXr,HYr,HEr,HRr,HKr⟩:=hrel;have hlt:=HA.out.lt k hkm;have HAT:=zz HRr.out.atOf
  obtain⟨kb,kc,hkv⟩:∃ kb kc,kv=.slice kb k kc:=by
   rcases HKr.out.own.2 with ⟨rfl,rfl⟩|⟨g,cap,cur,hv,_⟩
   ·exact⟨none,0,rfl⟩
   ·exact⟨_,_,hv⟩
  subst hkv;have HLT:=zz hlt;clear hlt;go_wp2_with fail
  refine (zAT wr p S (ps k) op HRr.out [93] (fun _=>by simpa using HLT.out.2)).mono ?_;rintro e w4 ⟨rfl,n4,rfl⟩;have HR4:=zz (HRr.out.drewN n4);have HX4:=zz (HXr.out.drewN n4);have HY4:=zz (HYr.out.drewN n4);have HE4:=zz (HEr.out.drewN n4);have HK4:Hid (KS (w.heap.size+2) (wr.drewN n4) (.slice kb k kc) k ys fs ds):=zz (HKr.out.same (fun b _ _=>rfl));generalize wr.drewN n4=w4 at HR4 HX4 HY4 HE4 HK4 ⊢;clear HXr HYr HEr HRr HKr;go_upto_region 5 with fail
  have hsz4:w.heap.size+1<w4.heap.size:=HY4.out.lt;have HQ:Hid (∀ w',Rd w' p S (ps k) op->GW w'->Calls Tryz.prog 29 #[.pointer (some ⟨p,0,none⟩),.int .i64 (ar:Int)] w' fun e w''=>Rs p S (qs k) (ops k) w' w''/\∃ v,e=.returned v/\zAm w'' (fun b=>w'.heap.size<=b) (fs k) (ds k) v):=zz (fun w' h hg=>HA.out.rd k hkm op w' p hg hp h);have c7:∀ w',Blk w' (w.heap.size+1) (zAR (.slice kb k kc)) 31->w'.cell? ⟨w.heap.size+1,7,none⟩=some (.slice kb k kc):=fun w' h=>h.cell 7
  have HC7:=zz c7;clear c7;refine wp_region_noPanic ?_;refine wp_region_held_drew (S:=fun w'=>True) (by kernel_rfl) trivial (fun hH=>?_);refine zAy (d:=some 25) (hd:=by rfl) (i:=0) (oi:=_) (v:=.pointer (some ⟨w.heap.size+1,7,none⟩)) rfl (by kernel_rfl) (by kernel_rfl) (by kernel_rfl) (fun _ _ _ h=>h) (Or.inl ⟨by rfl,fun w' hSw=>?_⟩) hH ?_
  ·clear hH hSw;go_simp
  try simp only[Act.put,zy,zq,zj]
  refine zAy (d:=some 27) (hd:=by rfl) (i:=2) (oi:=_) (v:=.pointer (some ⟨p,0,none⟩)) rfl (by kernel_rfl) (by kernel_rfl) (by kernel_rfl) (fun _ _ _ h=>h) (Or.inl ⟨by rfl,fun w' hSw=>?_⟩) hH ?_
  ·clear hH hSw;go_simp
  try simp only[Act.put,zy,zq,zj]
  refine zAy (d:=some 28) (hd:=by rfl) (i:=3) (oi:=_) (v:=.int .i64 (ar:Int)) rfl (by kernel_rfl) (by kernel_rfl) (by kernel_rfl) (fun _ _ _ h=>h) (Or.inl ⟨by rfl,fun w' hSw=>?_⟩) hH ?_
  ·clear hH hSw;go_simp
  try simp only[Act.put,zy,zq,zj]
  have hgx:GW w4.drew:=HG.out.ex (p:=p) (HE4.out.drewN 1) hp;have HGx:=zz hgx;have HRx:Hid (Rd w4.drew p S (ps k) op):=zz (HR4.out.drewN 1);have HYx:Hid (Blk w4.drew (w.heap.size+1) (zAR (.slice kb k kc)) 31):=zz (HY4.out.drewN 1);clear hgx;refine wpAnyH_ready (rs:=[1,4]) (by kernel_rfl) (by simp) ?_;refine AllReadyH.cons (o:=_) rfl (fun K hK=>?_) (AllReadyH.cons (o:=_) rfl (fun K hK=>?_) AllReadyH.nil)
  rotate_left
  focus
   go_simp;refine (HQ.out _ HRx.out HGx.out).mono ?_;rintro e w5 ⟨hr5,v5,rfl,hT5⟩;obtain⟨k1,k2,k3,k4,k5,k6,k7,k8,k9,k10,k11,rfl⟩:=hT5.row;have HR5:=zz hr5;have HT5:=zz hT5;clear hr5 hT5;simp only[zAa];go_wp2_with fail
   refine hK.out _ _ trivial (fun hH=>?_);clear hK K
   try simp only[Act.put,zy,zq,zj]
   have HYx5:Hid (Blk w5 (w.heap.size+1) (zAR (.slice kb k kc)) 31):=zz (HR5.out.2.blk HYx.out (Blk.lt HYx.out) hpY);have hw6:Below w5.heap.size w5 (w5.alloc (.cells #[.int .i8 k1,.int .u64 k2,.bool false,.slice k3 k4 k5,.int .u64 k6,.int .i8 k7,.string (zAc k8),.slice k9 k10 k11] 31)):=(zK _ _).alloc (zQ _) _;have hZ6:=Blk.new w5 #[.int .i8 k1,.int .u64 k2,.bool false,.slice k3 k4 k5,.int .u64 k6,.int .i8 k7,.string (zAc k8),.slice k9 k10 k11] 31;have HYx6:Hid (Blk (w5.alloc (.cells #[.int .i8 k1,.int .u64 k2,.bool false,.slice k3 k4 k5,.int .u64 k6,.int .i8 k7,.string (zAc k8),.slice k9 k10 k11] 31)) (w.heap.size+1) (zAR (.slice kb k kc)) 31):=zz (HYx5.out.below hw6 HYx5.out.lt);refine wpAnyH_ready (rs:=[1,5]) (by kernel_rfl) (by simp) ?_;refine AllReadyH.cons (o:=_) rfl (fun K hK=>?_) (AllReadyH.cons (o:=_) rfl (fun K hK=>?_) AllReadyH.nil)
   focus
    have c7:=HC7.out w5 HYx5.out;go_simp;refine hK.out _ _ trivial (fun hH=>?_);clear hK K c7
    try simp only[Act.put,zy,zq,zj]
    refine wpAnyH_ready (rs:=[5]) (by kernel_rfl) (by simp) ?_;refine AllReadyH.cons (o:=_) rfl (fun K hK=>?_) AllReadyH.nil;go_simp;refine hK.out _ _ trivial (fun hH=>?_);clear hK K
    try simp only[Act.put,zy,zq,zj]
   rotate_left
   focus
    go_simp;refine hK.out _ _ trivial (fun hH=>?_);clear hK K
    try simp only[Act.put,zy,zq,zj]
    refine wpAnyH_ready (rs:=[1]) (by kernel_rfl) (by simp) ?_;refine AllReadyH.cons (o:=_) rfl (fun K hK=>?_) AllReadyH.nil;have c7:=HC7.out (w5.alloc (.cells #[.int .i8 k1,.int .u64 k2,.bool false,.slice k3 k4 k5,.int .u64 k6,.int .i8 k7,.string (zAc k8),.slice k9 k10 k11] 31)) HYx6.out;go_simp;refine hK.out _ _ trivial (fun hH=>?_);clear hK K c7
    try simp only[Act.put,zy,zq,zj]
  rotate_left 2
  focus
   have c7:=HC7.out w4.drew HYx.out;go_simp;refine hK.out _ _ trivial (fun hH=>?_);clear hK K c7
   try simp only[Act.put,zy,zq,zj]
   refine wpAnyH_ready (rs:=[4]) (by kernel_rfl) (by simp) ?_;refine AllReadyH.cons (o:=_) rfl (fun K hK=>?_) AllReadyH.nil;go_simp;refine (HQ.out _ HRx.out HGx.out).mono ?_;rintro e w5 ⟨hr5,v5,rfl,hT5⟩;obtain⟨k1,k2,k3,k4,k5,k6,k7,k8,k9,k10,k11,rfl⟩:=hT5.row;have HR5:=zz hr5;have HT5:=zz hT5;clear hr5 hT5;simp only[zAa];go_wp2_with fail
   refine hK.out _ _ trivial (fun hH=>?_);clear hK K
   try simp only[Act.put,zy,zq,zj]
   have HYx5:Hid (Blk w5 (w.heap.size+1) (zAR (.slice kb k kc)) 31):=zz (HR5.out.2.blk HYx.out (Blk.lt HYx.out) hpY);have hw6:Below w5.heap.size w5 (w5.alloc (.cells #[.int .i8 k1,.int .u64 k2,.bool false,.slice k3 k4 k5,.int .u64 k6,.int .i8 k7,.string (zAc k8),.slice k9 k10 k11] 31)):=(zK _ _).alloc (zQ _) _;have hZ6:=Blk.new w5 #[.int .i8 k1,.int .u64 k2,.bool false,.slice k3 k4 k5,.int .u64 k6,.int .i8 k7,.string (zAc k8),.slice k9 k10 k11] 31;have HYx6:Hid (Blk (w5.alloc (.cells #[.int .i8 k1,.int .u64 k2,.bool false,.slice k3 k4 k5,.int .u64 k6,.int .i8 k7,.string (zAc k8),.slice k9 k10 k11] 31)) (w.heap.size+1) (zAR (.slice kb k kc)) 31):=zz (HYx5.out.below hw6 HYx5.out.lt);refine wpAnyH_ready (rs:=[5]) (by kernel_rfl) (by simp) ?_;refine AllReadyH.cons (o:=_) rfl (fun K hK=>?_) AllReadyH.nil;go_simp;refine hK.out _ _ trivial (fun hH=>?_);clear hK K
   try simp only[Act.put,zy,zq,zj]
  all_goals
   refine wpAnyH_ready (rs:=[6]) (by kernel_rfl) (by simp) ?_;refine AllReadyH.cons (o:=_) rfl (fun K hK=>?_) AllReadyH.nil;rw[if_pos (by rfl)];have hsz45:w4.heap.size<=w5.heap.size:=HR5.out.2.size;have hks6:KS (w.heap.size+2) (w5.alloc (.cells #[.int .i8 k1,.int .u64 k2,.bool false,.slice k3 k4 k5,.int .u64 k6,.int .i8 k7,.string (zAc k8),.slice k9 k10 k11] 31)) (.slice kb k kc) k ys fs ds:=HK4.out.same (fun b hb hl=>(hw6.block b (by omega)).trans (HR5.out.2.block b hl (fun e=>by omega)));have hone6:(#[.int .i8 k1,.int .u64 k2,.bool false,.slice k3 k4 k5,.int .u64 k6,.int .i8 k7,.string (zAc k8),.slice k9 k10 k11]:Array Value).all (·.oneCell')=true:=zAo k1 k2 false (.slice k3 k4 k5) k6 k7 (zAc k8) (.slice k9 k10 k11) rfl rfl;have HONE:=zz hone6;refine zB7 (.tmp 26) (.tmp 30) rfl (w.heap.size+2) (.slice kb k kc) k (zC4 k ys) rfl hks6.own ⟨w5.heap.size,0,none⟩ 1 1 (by omega) (#[.int .i8 k1,.int .u64 k2,.bool false,.slice k3 k4 k5,.int .u64 k6,.int .i8 k7,.string (zAc k8),.slice k9 k10 k11]:Array Value).toList rfl rfl ?c1 ?c2 (by omega) ?c5 ?_
   case c1=>
    intro j u hj;rw[zA1,Nat.zero_add,hZ6.cell j]
    simpa using hj
   case c2=>
    intro u hu;have:=HONE.out;rw[Array.all_eq_true_iff_forall_mem] at this;exact this u (by simpa using hu)
   case c5=>simp;omega
   intro v7 w7 hown7 hgrow7 hg7;have hlt7:∀ g,(Value.slice kb k kc).ownBlock=some g->g<w4.heap.size:=fun g hg=>(HK4.out.own.lt g hg).2
   have hge7:∀ g,(Value.slice kb k kc).ownBlock=some g->w.heap.size+2<=g:=fun g hg=>(HK4.out.own.lt g hg).1
   have HKS7:=zz (hks6.snoc (z:=#[.int .i8 k1,.int .u64 k2,.bool false,.slice k3 k4 k5,.int .u64 k6,.int .i8 k7,.string (zAc k8),.slice k9 k10 k11]) rfl hone6 (wa:=w4.heap.size) (zAm.same (fun b _ hl=>hw6.block b hl) (fun b hb _=>hb) _ _ _ HT5.out) (by omega) hlt7 hown7 hgrow7 hg7);obtain⟨g7,cp7,rfl,_⟩:=hg7;have hlow:∀ b,b<w.heap.size+2->w7.heap[b]?=w5.heap[b]?:=fun b hb=>(hgrow7.block b (by simp;omega) (fun e=>by have:=hge7 b e.symm;omega)).trans (hw6.block b (by omega))
   have hx5:=HR5.out.2.blk (HX4.out.drewN 1) (by show w.heap.size<w4.heap.size;omega) hpX;have hy5:=HYx5.out;have HX7:Hid (Blk w7 w.heap.size zAr 31):=zz (by unfold Blk at hx5 ⊢;rw[hlow _ (by omega)];exact hx5);have hy7:Blk w7 (w.heap.size+1) (zAR (.slice kb k kc)) 31:=by unfold Blk at hy5 ⊢;rw[hlow _ (by omega)];exact hy5
   have hr7:Rd w7 p S (qs k) (ops k):=by have:=HR5.out.1;unfold Rd Blk at this ⊢;rw[hlow _ (by omega)];exact this
   have he7:Ex (fun k=>k=p) w.heap.size w w7:=((HE4.out.drewN 1).trans (HR5.out.2.mono (by show w.heap.size<=w4.heap.size;omega) (fun _ h=>h))).trans ⟨hgrow7.os.trans hw6.os,hgrow7.tape.trans hw6.tape,hgrow7.output.trans hw6.output,zJ hw6.size hgrow7.size,fun b hb _=>hlow b (by omega)⟩;have e7:w7.cell? ⟨w.heap.size+1,7,none⟩=some (.slice kb k kc):=hy7.cell 7;have f7:w7.frozen? ⟨w.heap.size+1,7,none⟩=false:=hy7.free 7;have hsz7:w.heap.size+1<w7.heap.size:=hy7.lt;have HY8:Hid (Blk (w7.setCell ⟨w.heap.size+1,7,none⟩ (.slice (some ⟨g7,0,none⟩) (k+1) cp7)) (w.heap.size+1) (zAR (.slice (some ⟨g7,0,none⟩) (k+1) cp7)) 31):=zz (by rw[<-zEU];exact hy7.set 7 _);have HX8:=zz (HX7.out.set_other ⟨w.heap.size+1,7,none⟩ (.slice (some ⟨g7,0,none⟩) (k+1) cp7) (by simp));have HR8:Hid (Rd (w7.setCell ⟨w.heap.size+1,7,none⟩ (.slice (some ⟨g7,0,none⟩) (k+1) cp7)) p S (qs k) (ops k)):=zz (Blk.set_other hr7 _ _ (by show p≠w.heap.size+1;omega));have HE8:=zz (he7.setCell (w.heap.size+1) 7 (.inr (by omega)) (.slice (some ⟨g7,0,none⟩) (k+1) cp7));have HK8:Hid (KS (w.heap.size+2) (w7.setCell ⟨w.heap.size+1,7,none⟩ (.slice (some ⟨g7,0,none⟩) (k+1) cp7)) (.slice (some ⟨g7,0,none⟩) (k+1) cp7) (k+1) (fun i=>if i=k then #[.int .i8 k1,.int .u64 k2,.bool false,.slice k3 k4 k5,.int .u64 k6,.int .i8 k7,.string (zAc k8),.slice k9 k10 k11] else ys i) fs ds):=zz (HKS7.out.same (fun b hb _=>Below.heap_setCell _ _ _ _ (by show b≠w.heap.size+1;omega)));clear hown7 hgrow7 hlt7 hge7 hks6 hone6 hlow hx5 hy5 hy7 hr7 he7 hw6 hZ6 HKS7 HX7 HYx5 HYx6 HT5 HR5 HX4 HY4 HE4 HK4 HR4 HGx HRx HYx HQ HC7 hsz45 hsz4 HONE;refine hK.out _ _ trivial (fun hH=>?_);clear hK K
   try simp only[Act.put,zy,zq,zj]
   refine zAy (d:=some 32) (hd:=by rfl) (i:=7) (oi:=_) (v:=.pointer (some ⟨w.heap.size+1,7,none⟩)) rfl (by kernel_rfl) (by kernel_rfl) (by kernel_rfl) (fun _ _ _ h=>h) (Or.inl ⟨by rfl,fun w' hSw=>?_⟩) hH ?_
   ·clear hH hSw;go_simp
   try simp only[Act.put,zy,zq,zj]
   refine wpAnyH_ready (rs:=[8]) (by kernel_rfl) (by simp) ?_;refine AllReadyH.cons (o:=_) rfl (fun K hK=>?_) AllReadyH.nil;go_simp;refine hK.out _ _ trivial (fun hH=>?_);clear hK K e7 f7
   try simp only[Act.put,zy,zq,zj]
   refine wpAnyH_done (by kernel_rfl) ?_ _;refine NoPanic.normal ?_;clear hH;generalize w7.setCell ⟨w.heap.size+1,7,none⟩ (.slice (some ⟨g7,0,none⟩) (k+1) cp7)=w8 at HX8 HY8 HR8 HE8 HK8 ⊢;clear hsz7;have HBT:=zz (HA.out.bt k hkm);have hsz8:w.heap.size+1<w8.heap.size:=HY8.out.lt;go_wp2_with fail
   refine (HBT.out.call hS w8 p (ops k) HR8.out).mono ?_;rintro e w9 ⟨rfl,hr9⟩;have HX9:=zz (hr9.2.blk HX8.out (by omega) hpX);have HY9:=zz (hr9.2.blk HY8.out hsz8 hpY);have HE9:=zz (HE8.out.trans (hr9.2.mono (by omega) (fun _ h=>h)));have HK9:=zz (HK8.out.same (fun b hb hl=>hr9.2.block b hl (fun e=>by omega)));have HR9:=zz hr9.1;have hsz9:w.heap.size+1<w9.heap.size:=HY9.out.lt;clear hr9 HX8 HY8 HE8 HK8 HR8 hsz8 HBT;by_cases hk1:k+1<m
   ·obtain⟨hcm,hbt2,hinc⟩:=HA.out.com k hk1;have HCM:=zz hcm;have HBT2:=zz hbt2;have HINC:=zz hinc;have hrl:=HA.out.rl k hkm;clear hcm hbt2 hinc;go_wp2_with fail
    refine (zAT w9 p S (rs k) (ops k) HR9.out [93] (fun _=>by rw[HCM.out];decide)).mono ?_;rintro e wa ⟨rfl,na,rfl⟩;have HRa:=zz (HR9.out.drewN na);have HXa:=zz (HX9.out.drewN na);have HYa:=zz (HY9.out.drewN na);have HEa:=zz (HE9.out.drewN na);have HKa:Hid (KS _ (w9.drewN na) _ _ _ _ _):=zz (HK9.out.same (fun b _ _=>rfl));have hsza:w.heap.size+1<(w9.drewN na).heap.size:=hsz9;generalize w9.drewN na=wa at HRa HXa HYa HEa HKa hsza ⊢;clear HR9 HX9 HY9 HE9 HK9 hsz9;go_wp2_with fail
    refine (zDL wa p S (rs k) (ops k) HRa.out [44] (by show rs k+1<=S.length;omega) hS (fun i hi=>by
     have h0:i=0:=by simpa using hi
     subst h0;exact HCM.out)).mono ?_
    rintro e wb ⟨rfl,hrb⟩;have HXb:=zz (hrb.2.blk HXa.out (by omega) hpX);have HYb:=zz (hrb.2.blk HYa.out hsza hpY);have HEb:=zz (HEa.out.trans (hrb.2.mono (by omega) (fun _ h=>h)));have HKb:=zz (HKa.out.same (fun b hb hl=>hrb.2.block b hl (fun e=>by omega)));have HRb:Hid (Rd wb p S (rs k+1) (ops k)):=zz hrb.1;have hszb:w.heap.size+1<wb.heap.size:=HYb.out.lt;clear hrb HRa HXa HYa HEa HKa hsza;go_wp2_with fail
    refine (HBT2.out.call hS wb p (ops k) HRb.out).mono ?_;rintro e wc ⟨rfl,hrc⟩;have HXc:=zz (hrc.2.blk HXb.out (by omega) hpX);have HYc:=zz (hrc.2.blk HYb.out hszb hpY);have HEc:=zz (HEb.out.trans (hrc.2.mono (by omega) (fun _ h=>h)));have HKc:=zz (HKb.out.same (fun b hb hl=>hrc.2.block b hl (fun e=>by omega)));have HRc:=zz hrc.1;clear hrc HRb HXb HYb HEb HKb hszb;go_wp2;go_roundw
    case rel=>exact⟨k+1,ops k,_,_,hk1,HXc,HYc,HEc,HRc,HKc⟩
    case measure=>
     rw[HAT.out,HRc.out.atOf];have h1:=HINC.out;have h2:=(HA.out.lt (k+1) hk1).1;omega
   ·obtain rfl:m=k+1:=by omega
    have HFIN:=zz HA.out.fin;simp only[Nat.add_sub_cancel] at HFIN;have hrl:=HA.out.rl k hkm;go_wp2_with fail
    refine (zBu w9 p S (rs k) (ops k) HR9.out [93] hrl (by rw[HFIN.out];decide)).mono ?_;rintro e wa ⟨rfl,na,rfl⟩;have hra:=HR9.out.drewN na;have hxa:=HX9.out.drewN na;have hya:=HY9.out.drewN na;have hea:=HE9.out.drewN na;have hka:KS _ (w9.drewN na) _ _ _ _ _:=HK9.out.same (fun b _ _=>rfl);generalize w9.drewN na=wa at hra hxa hya hea hka ⊢;clear HR9 HX9 HY9 HE9 HK9 hsz9;obtain⟨r',hr'⟩:∃ r',r'=rs k+1:=⟨_,rfl⟩;have g3:IntKind.i64.wrap ((rs k:Int)+1)=(r':Int):=by rw[zY _ (by omega),hr'];simp
    have c1:=hra.at1;have f1:wa.frozen? ⟨p,1,none⟩=false:=Blk.free hra 1;have hrb:Rd (wa.setCell ⟨p,1,none⟩ (.int .i64 (r':Int))) p S r' (ops k):=hra.set1 r';have hxb:=hxa.set_other ⟨p,1,none⟩ (.int .i64 (r':Int)) hpX;have hyb:=hya.set_other ⟨p,1,none⟩ (.int .i64 (r':Int)) hpY;have heb:=hea.setCell p 1 (.inl rfl) (.int .i64 (r':Int));have hkb:=hka.same (w':=wa.setCell ⟨p,1,none⟩ (.int .i64 (r':Int))) (fun b hb _=>Below.heap_setCell _ _ _ _ (by show b≠p;omega));have HRP:=zz hr';clear hr' hra hxa hya hea hka;go_upto_region 11 with fail
    clear c1 f1 g3;generalize wa.setCell ⟨p,1,none⟩ (.int .i64 (r':Int))=wb at hrb hxb hyb heb hkb ⊢;have c2:=hrb.at2;have f2:wb.frozen? ⟨p,2,none⟩=false:=Blk.free hrb 2;have hrc:Rd (wb.setCell ⟨p,2,none⟩ (.bool false)) p S r' false:=hrb.set2 false;have hxc:=hxb.set_other ⟨p,2,none⟩ (.bool false) hpX;have hyc:=hyb.set_other ⟨p,2,none⟩ (.bool false) hpY;have hec:=heb.setCell p 2 (.inl rfl) (.bool false);have hkc:=hkb.same (w':=wb.setCell ⟨p,2,none⟩ (.bool false)) (fun b hb _=>Below.heap_setCell _ _ _ _ (by show b≠p;omega));clear hrb hxb hyb heb hkb;go_upto_region 12 with fail
    clear c2 f2;generalize wb.setCell ⟨p,2,none⟩ (.bool false)=wc at hrc hxc hyc hec hkc ⊢;have HRc:=zz hrc;have HXc:=zz hxc;have HYc:=zz hyc;have HEc:=zz hec;have HKc:=zz hkc;clear hrc hxc hyc hec hkc;refine wp_region_lit ?_;refine wpList_load_row rfl 31 _ rfl (w.heap.size+1) rfl 31 _ (0,0) _ HYc.out Tryz.underlying31 rfl (by kernel_rfl) ?_;unfold zAR;refine wpList_store_row rfl 31 _ _ rfl w.heap.size (zAa 7 0 false (.slice none 0 0) 0 0 ⟨#[]⟩ (.slice (some ⟨g7,0,none⟩) (k+1) cp7)) rfl rfl 31 _ HXc.out (by kernel_rfl) rfl (zAo _ _ _ _ _ _ _ _ rfl rfl) ?_;have HFN:Hid (Blk (wc.setRow w.heap.size (zAa 7 0 false (.slice none 0 0) 0 0 ⟨#[]⟩ (.slice (some ⟨g7,0,none⟩) (k+1) cp7))) w.heap.size (zAa 7 0 false (.slice none 0 0) 0 0 ⟨#[]⟩ (.slice (some ⟨g7,0,none⟩) (k+1) cp7)) 31):=zz (setRow_heap _ _ _ _ _ _ HXc.out);go_wp2;refine bodyPost_ret (v:=.agg (zAa 7 0 false (.slice none 0 0) 0 0 (zAc []) (.slice (some ⟨g7,0,none⟩) (k+1) cp7))) (results_cell_row rfl _ _ w.heap.size 31 _ (0,0) _ rfl HFN.out Tryz.underlying31 rfl (by kernel_rfl)) rfl ⟨?_,_,rfl,?_⟩
    ·have hh:=Rs.setRow ⟨HRc.out,HEc.out⟩ (zQ w.heap.size) hpX (zAa 7 0 false (.slice none 0 0) 0 0 ⟨#[]⟩ (.slice (some ⟨g7,0,none⟩) (k+1) cp7));rw[HRP.out] at hh;exact hh
    ·exact (HKc.out.same (fun b hb _=>setRow_other _ _ _ _ (by omega))).list (by omega) (by omega) hm3 T HTT.out d HD.out HD1.out
end Go.Proofs.YtcanfakaigpkgaaGreatDoor.D
namespace Go.Proofs.YtcanfakaigpkgaaGreatDoor.D
open Go Go.RowKit Limb
attribute [local go_sem high] zAI zAg zBv zAz
end Go.Proofs.YtcanfakaigpkgaaGreatDoor.D
namespace Go.Proofs.YtcanfakaigpkgaaGreatDoor.D
open Go Go.RowKit Go.Extern.Stop Go.Stop Go.Extern Limb
theorem zGO(v:Value)(xT:TypeId)(w:World):(Instr.typeAssert (.iface 66 v) xT 66 true).run Tryz.prog w=.ok (.tuple #[v,.bool true]) w:=by
 simp[Instr.typeAssert,run_underlying Tryz.underlying66,go_sem,Result.andThen]
theorem zPG(a b x:Value):#[a,b] ++ ((Array.replicate 20 undef).setIfInBounds 3 x).setIfInBounds 0 x=#[a,b,x,undef,undef,x,undef,undef,undef,undef,undef,undef,undef,undef,undef,undef,undef,undef,undef,undef,undef,undef]:=by kernel_rfl
theorem zJo(e:Nat->Addr)(w:World)(hE:zCB e w)(hs:21<w.heap.size)(code at_:Nat)(hc:code=3 \/ code=5)(pv pe:Nat)(hne:pv≠pe)
  (hv:Blk w pv zAr 31) (he:Blk w pe #[.nilIface] 35) (older:List PanicEntry) :
  CallsD Tryz.prog 27 #[.pointer (some ⟨pv,0,none⟩),.pointer (some ⟨pe,0,none⟩)] (.panicking ({ v:=zEQ code at_,recovered:=false } :: older)) w fun r u' w'=>
   r=.returned (.tuple #[])/\u'=.panicking ({ v:=zEQ code at_,recovered:=true } :: older)/\Ex (fun k=>k=pv \/ k=pe) w.heap.size w w'/\Blk w' pv zAr 31/\∃ v,Blk w' pe #[v] 35/\zBp e w' code at_ v:=by
 obtain⟨p',hp'⟩:∃ p',p'=pv:=⟨_,rfl⟩;have HE:=zz hE;have HV:=zz hv;have HP:=zz he;have HC:=zz hc;have HS:=zz hs;have HN:=zz hne;clear hE hv he hc hs hne hp';unfold zEQ;refine callsD_of_wpS Tryz.func27 rfl fun c₀ cs hu=>?_
 apply wpS_seq;apply wpS_region;simp[wpOpsS,go_sem,recoverD,hu,Tryz.ntmps27,Exit.thenS];clear hu;refine wpS_of_wp ?_;rw[zPG];obtain⟨w1,hw1⟩:∃ w1,w1=w.alloc (.cells #[.int .i64 (code:Int),.int .i64 (at_:Int)] 66):=⟨_,rfl⟩;have hb1:Below w.heap.size w w1:=by rw[hw1];exact (zK _ _).alloc (zQ _) _
 have hE1:=HE.out.step hb1 HS.out
 have hNew:Calls Tryz.prog 26 #[.int .i64 (code:Int),.int .i64 (at_:Int),.string ⟨#[]⟩] w1 fun r w'=>∃ v,r=.returned v/\Below w1.heap.size w1 w'/\zBp e w' code at_ v:=by
  rcases HC.out with rfl|rfl
  ·exact zQl e w1 hE1 at_
  ·exact zQq e w1 hE1 at_
 have HNEW:=zz hNew;have HST:Hid (Blk w1 w.heap.size #[.int .i64 (code:Int),.int .i64 (at_:Int)] 66):=zz (by rw[hw1];exact Blk.new _ _ _);have HB1:=zz hb1;have HW:=zz hw1;clear hE1 hNew hb1 hw1;have has:=zGO;go_upto_region 5 with fail
 rw[<-HW.out];have c0:=HST.out.cell 0;have c1:=HST.out.cell 1;refine wp_region_lit ?_;iterate 17 go_step
 refine HNEW.out.mono ?_;rintro r w2 ⟨v,rfl,hb2,hF⟩;obtain⟨b,rfl,hBF⟩:=hF;have hv2:=(HV.out.below HB1.out HV.out.lt).below hb2 (by have:=HB1.out.size;have:=HV.out.lt;omega);have he2:=(HP.out.below HB1.out HP.out.lt).below hb2 (by have:=HB1.out.size;have:=HP.out.lt;omega);have hb:=HB1.out.trans (hb2.mono HB1.out.size);have HV2:=zz hv2;have HP2:=zz he2;have HB2:=zz hb;have HF2:=zz hBF;clear hv2 he2 hb hBF hb2;dsimp only;go_step;refine wpList_store_row rfl 31 _ _ rfl pv zAr rfl rfl 31 _ HV2.out (by kernel_rfl) rfl (zAo 0 0 false (.slice none 0 0) 0 0 ⟨#[]⟩ (.slice none 0 0) rfl rfl) ?_;have hne:=HN.out
 have hE3:Blk (w2.setRow pv zAr) pe #[.nilIface] 35:=by
  have:=HP2.out;unfold Blk at *;rw[setRow_other _ _ _ _ hne.symm];exact this
 have e0:=hE3.cell 0;have e1:=hE3.free 0;have hV3:Blk (w2.setRow pv zAr) pv zAr 31:=setRow_heap w2 pv _ _ _ _ HV2.out;have hB3:Ex (fun k=>k=pv \/ k=pe) w.heap.size w (w2.setRow pv zAr):=(Ex.of_below HB2.out).trans ⟨rfl,rfl,rfl,by simp,fun k _ hk=>setRow_other _ _ _ _ (fun h=>hk (.inl h))⟩;have HE3:=zz hE3;have HV3:=zz hV3;have HB3:=zz hB3;clear hE3 hV3 hB3;go_wp2;simp[bodyPostS,results,Tryz.results27]
 have hbv:b≠pv:=by
  rintro rfl;have h1:=HF2.out;have h2:=HV2.out;unfold Blk at h1 h2;rw[h1] at h2;simp at h2
 have hbe:b≠pe:=by
  rintro rfl;have h1:=HF2.out;have h2:=HP2.out;unfold Blk at h1 h2;rw[h1] at h2;simp at h2
 refine⟨HB3.out.setCell pe 0 (.inl (.inr rfl)) _,HV3.out.set_other ⟨pe,0,none⟩ _ hne,_,HE3.out.set 0 _,b,rfl,?_⟩;refine Blk.set_other ?_ ⟨pe,0,none⟩ _ hbe;have h1:=HF2.out;unfold Blk at *;rw[setRow_other _ _ _ _ hbv];exact h1
theorem zJc(pv pe:Nat)(w:World):
  CallsD Tryz.prog 27 #[.pointer (some ⟨pv,0,none⟩),.pointer (some ⟨pe,0,none⟩)] .returning w fun r u' w'=>r=.returned (.tuple #[])/\u'=.returning/\w'=w:=by
 refine callsD_of_wpS Tryz.func27 rfl fun c₀ cs hu=>?_
 apply wpS_seq;apply wpS_region;simp[wpOpsS,go_sem,recoverD,hu,Tryz.ntmps27,Exit.thenS];refine wpS_of_wp ?_;rw[zPG];go_wp2;cases c₀
 simp_all[bodyPostS,results,Tryz.results27]
end Go.Proofs.YtcanfakaigpkgaaGreatDoor.D
namespace Go.Proofs.YtcanfakaigpkgaaGreatDoor.D
open Go Go.RowKit Limb
theorem zHY(s:List UInt8)(w:World):Calls Tryz.prog 80 #[.string (zAc s),.string ⟨#[48]⟩] w fun e w'=>e=.returned (.string (zAc (Lib.trimLeftB s 48)))/\w'=w:=by
 refine (Tryz.strings_TrimLeft_one (zAc s) 48 (by decide) w).mono ?_;rintro e w' ⟨rfl,rfl⟩;exact⟨rfl,rfl⟩
theorem zGn(s:List UInt8)(c:UInt8):(Lib.trimLeftB s c).length<=s.length:=by
 unfold Lib.trimLeftB;exact (List.dropWhile_sublist _).length_le
theorem zIq{neg:Bool}{x:Nat}(h:zA7 x<=4096):zEH neg x=zBa neg ++ zAZ x/\x<10 ^ 4096:=by
 have hg:∀ k,zA7 x<=k->x<2 ^ k:=by
  intro k hk
  by_cases h0:x=0
  ·rw[h0];exact Nat.two_pow_pos _
  ·exact Nat.lt_of_lt_of_le (zBt x h0).2.2 (Nat.pow_le_pow_right (by omega) hk)
 have h1:x<2 ^ 4096:=hg 4096 h
 exact⟨by unfold zEH;rw[if_pos h1],Nat.lt_of_lt_of_le h1 zMK⟩
theorem zM6{neg:Bool}{x:Nat}(h:¬ zA7 x<=4096):zEH neg x=zBa neg ++ ([48,120] ++ zIT x)/\x≠0:=by
 have h0:x≠0:=fun e=>h (by rw[e,zCa];omega)
 have h1:¬ x<2 ^ 4096:=fun e=>h (zCF e)
 exact⟨by unfold zEH zIT;rw[if_neg h1,if_neg h0],h0⟩
theorem zG9(w:World)(neg:Bool)(v:Value)(l:List Nat)(h:zAf w v l)(hl:l.length<=1048576)(h0:val l=0->neg=false):
  Calls Tryz.prog 40 #[.agg #[.bool neg,v]] w fun e w'=>(e=.returned (.string (zAc (zEH neg (val l))))/\(zEH neg (val l)).length<=10000000)/\Below w.heap.size w w':=by
 have hb:Below w.heap.size w (w.alloc (.cells #[.bool neg,v] 28)):=(zK _ _).alloc (zQ _) _;have hbl:=Blk.new w #[.bool neg,v] 28;have HLB:=zz (h.below hb);have HNL:=zz (fun w' (hw:zAf w' v l)=>zBs w' v l hw (by omega));have HB:=zz hb;have HBL:=zz hbl;have HNZ:=zz h0;have HL:=zz hl;obtain⟨b1,c1,rfl⟩:=h.slice;clear h hb h0 hl;obtain⟨w1,hw1⟩:∃ w1,w1=w.alloc (.cells #[.bool neg,.slice b1 l.length c1] 28):=⟨_,rfl⟩;rw[<-hw1] at HLB HB HBL hbl;have HW1:=zz hw1;have c0:w1.cell? ⟨w.heap.size,0,none⟩=some (.bool neg):=hbl.cell 0;have d1:w1.cell? ⟨w.heap.size,1,none⟩=some (.slice b1 l.length c1):=hbl.cell 1;clear hbl hw1;go_enter Tryz.func40,Tryz.ntmps40
 go_upto_region 1 with fail
 change Code.wp _ _ _ _ (w.alloc (.cells #[.bool neg,.slice b1 l.length c1] 28));rw[<-HW1.out];clear HW1;go_wp2_with fail
 refine (HNL.out w1 HLB.out).mono ?_;rintro e w2 ⟨rfl,rfl⟩;clear HNL;by_cases hs:zA7 (val l)<=4096
 ·obtain⟨h1,h2⟩:=zIq (neg:=neg) hs;have g1:(zA7 (val l):Int)<=4096:=by omega
  have HWS:=zz (zJO w2 neg _ l HLB.out HL.out 4096 (by omega) (by omega) h2 HNZ.out)
  have HT:Hid (zEH neg (val l)=zBa neg ++ zAZ (val l)/\(zEH neg (val l)).length<=10000000):=zz ⟨h1,by
   rw[h1,List.length_append];have:=zEB (by omega) h2;have:(zBa neg).length<=1:=by cases neg <;> simp[zBa]
   omega⟩
  clear h1 h2 c0 d1 hs;generalize zA7 (val l)=bl at g1 ⊢;go_upto_region 2 with fail
  refine wp_region_lit ?_;refine wpList_load_row rfl 28 _ rfl w.heap.size rfl 28 _ (0,0) _ HBL.out Tryz.underlying28 rfl (by kernel_rfl) ?_;go_wp2_with fail
  refine HWS.out.mono ?_;rintro e w3 ⟨rfl,hb3⟩;have HB3:=zz (HB.out.trans (hb3.mono HB.out.size));clear hb3 HWS;go_wp2;go_ret;exact⟨⟨by rw[HT.out.1];rfl,HT.out.2⟩,HB3.out⟩
 ·obtain⟨h1,hx0⟩:=zM6 (neg:=neg) hs;have g1:¬ (zA7 (val l):Int)<=4096:=by omega
  have HQ:=zz (zJs w2 _ l HLB.out HL.out hx0);have HT:=zz h1;clear h1 hs hx0 HNZ;generalize zA7 (val l)=bl at g1 ⊢
  cases neg with
  | true=>
   go_wp2_with fail
   refine HQ.out.mono ?_;rintro e w3 ⟨⟨R,rfl,hR,L,hRL,hv⟩,hb3⟩;have HB3:=zz (HB.out.trans (hb3.mono HB.out.size));have hcv:=Lib.run_convert_string_bytes (P:=Tryz.prog) w3 9 47 5 (zAc R) Tryz.underlying9 Tryz.underlying47 Tryz.underlying5;have hbb:=zAX w3 (zAc R);have HH:=zz (zFA (Lib.bytesWorld w3 5 (zAc R)) w3.heap.size R.length (grownCap w3 (zAc R).size 0 5) R rfl (by omega) (by rw[Lib.bytesWorld_size];omega) (fun i hi=>Lib.bytesWorld_cell w3 _ (zAc R) i hi));have hsz:(zAc R).size=R.length:=rfl;rw[hsz] at hcv HH;have HB4:=zz (HB3.out.trans (hbb.mono HB3.out.size));have HTR:Hid (Lib.trimLeftB (zBJ R) 48=zIT (val l)):=zz (by rw[hRL,zFn,hv]);have HTL:Hid ((zIT (val l)).length<=8388608):=zz (by rw[<-HTR.out];have:=zGn (zBJ R) 48;rw[zA8] at this;omega);have HTM:=zz (fun w=>zHY (zBJ R) w);rw[HTR.out] at HTM;generalize Lib.bytesWorld w3 5 (zAc R)=w4 at hcv HH HB4;generalize grownCap w3 R.length 0 5=cp at hcv HH;clear hbb hsz hb3 HB3 HQ hRL hv HB c0 HTR;have hz1:(zAc [45,48,120]).size+(zAc (zIT (val l))).size<=9223372036854775807:=by have:=HTL.out;rw[zAg,zAg];simp;omega
   have hz2:3+(zAc (zIT (val l))).size<=9223372036854775807:=by have:=HTL.out;rw[zAg];omega
   go_wp2_with fail
   refine HH.out.mono ?_;rintro e w5 ⟨rfl,hb5⟩;have HB5:=zz (HB4.out.trans (hb5.mono HB4.out.size));clear hb5 HH HB4;go_wp2_with fail
   refine (HTM.out w5).mono ?_;rintro e w6 ⟨rfl,rfl⟩;go_wp2;go_ret;refine⟨⟨?_,?_⟩,HB5.out⟩
   ·rw[HT.out];rfl
   ·rw[HT.out];have:=HTL.out;simp[zBa];omega
  | false=>
   go_wp2_with fail
   refine HQ.out.mono ?_;rintro e w3 ⟨⟨R,rfl,hR,L,hRL,hv⟩,hb3⟩;have HB3:=zz (HB.out.trans (hb3.mono HB.out.size));have hcv:=Lib.run_convert_string_bytes (P:=Tryz.prog) w3 9 47 5 (zAc R) Tryz.underlying9 Tryz.underlying47 Tryz.underlying5;have hbb:=zAX w3 (zAc R);have HH:=zz (zFA (Lib.bytesWorld w3 5 (zAc R)) w3.heap.size R.length (grownCap w3 (zAc R).size 0 5) R rfl (by omega) (by rw[Lib.bytesWorld_size];omega) (fun i hi=>Lib.bytesWorld_cell w3 _ (zAc R) i hi));have hsz:(zAc R).size=R.length:=rfl;rw[hsz] at hcv HH;have HB4:=zz (HB3.out.trans (hbb.mono HB3.out.size));have HTR:Hid (Lib.trimLeftB (zBJ R) 48=zIT (val l)):=zz (by rw[hRL,zFn,hv]);have HTL:Hid ((zIT (val l)).length<=8388608):=zz (by rw[<-HTR.out];have:=zGn (zBJ R) 48;rw[zA8] at this;omega);have HTM:=zz (fun w=>zHY (zBJ R) w);rw[HTR.out] at HTM;generalize Lib.bytesWorld w3 5 (zAc R)=w4 at hcv HH HB4;generalize grownCap w3 R.length 0 5=cp at hcv HH;clear hbb hsz hb3 HB3 HQ hRL hv HB c0 HTR;have hz1:(zAc [48,120]).size+(zAc (zIT (val l))).size<=9223372036854775807:=by have:=HTL.out;rw[zAg,zAg];simp;omega
   have hz2:2+(zAc (zIT (val l))).size<=9223372036854775807:=by have:=HTL.out;rw[zAg];omega
   go_wp2_with fail
   refine HH.out.mono ?_;rintro e w5 ⟨rfl,hb5⟩;have HB5:=zz (HB4.out.trans (hb5.mono HB4.out.size));clear hb5 HH HB4;go_wp2_with fail
   refine (HTM.out w5).mono ?_;rintro e w6 ⟨rfl,rfl⟩;go_wp2;go_ret;refine⟨⟨?_,?_⟩,HB5.out⟩
   ·rw[HT.out];rfl
   ·rw[HT.out];have:=HTL.out;simp[zBa];omega
theorem GQ.low{w w':World}{B:Nat}(h:GQ w)(hb:Below B w w')(hB:21<B):GQ w':=by
 refine⟨⟨h.y.v.below hb hB,?_⟩,fun j hj=>?_⟩
 ·have h2:=h.y.pw;unfold Lib.TabIs World.var? at h2 ⊢;rw[gP] at h2 ⊢;simp only[Option.bind_some] at h2 ⊢;rw[hb.block _ (by omega)];exact h2
 ·rw[hb.cell (p:=⟨11,j*2,none⟩) (by simp;omega),hb.cell (p:=⟨11,j*2+1,none⟩) (by simp;omega)];exact h.sh j hj
def WVQ(f:VT):Prop:=∀ (d:Nat) (v:Value) (w:World) (B p N:Nat) (L:List UInt8),N<=B->B<=w.heap.size->21<B->GQ w->zAl w N f v->f.small d->f.All VA.fine->Wq B p L w->zCQ 13 #[.pointer (some ⟨p,0,none⟩),v] B p L (f.txt zBM) w
theorem Wq.alloc{B p:Nat}{L:List UInt8}{w:World}(h:Wq B p L w)(o:Obj):Wq B p L (w.alloc o):=h.below ((zK _ _).alloc (zQ _) _)
theorem zFi(N B p m d:Nat)(kb:Option Addr)(cap:Nat)(fs:Nat->VT)(one two opn sht L:List UInt8)(w:World)(hNB:N<=B)(hB:B<=w.heap.size)(hB2:21<B)(hG:GQ w)(hW:Wq B p L w)
  (hk:m=0 \/ ∃ (b o:Nat) (xs:Nat->Array Value),kb=some ⟨b,o,none⟩/\b<N/\zBO w b o m xs/\∀ i,i<m->zAl w N (fs i) (.agg (xs i))) (hm:m<=1048576) (hsm:∀ i,i<m->(fs i).small d/\(fs i).All VA.fine) (hIH:∀ i,i<m->WVQ (fs i)) (ho:opn.length<=1000) (hs:sht.length<=1000) (h1o:one.length<=1000) (h2o:two.length<=1000) :
  zCQ 43 #[.pointer (some ⟨p,0,none⟩),.string (zAc opn),.string (zAc sht),.slice kb m cap,.string (zAc one),.string (zAc two)] B p L (opn ++ zBc one two m (fun i=>(fs i).txt zBM) m ++ sht) w:=by
 unfold zCQ;have HROW:=zz hk;have HSM:=zz hsm;have HIH:=zz hIH;have HG:=zz hG;have HLN:=zz (And.intro ho (And.intro hs (And.intro h1o h2o)));have HP:=zz (zJz B p L opn w hW (by omega) hB);obtain⟨ts,hts⟩:∃ ts:Nat->List UInt8,ts=fun i=>(fs i).txt zBM:=⟨_,rfl⟩
 have HTS:Hid (∀ i,ts i=(fs i).txt zBM):=zz (fun i=>by rw[hts]);rw[<-hts];clear hk hsm hIH hG hW ho hs h1o h2o hts;go_enter Tryz.func43,Tryz.ntmps43
 go_wp2_with fail
 refine HP.out.mono ?_;rintro e w1 ⟨rfl,⟨L1,hp1,hw1⟩,hk1⟩;have HW1:=zz hw1;have HK1:=zz hk1;have HP1:Hid (Put L (opn ++ zBc one two m ts 0) L1):=zz (by rw[zBc,List.append_nil];exact hp1);clear hw1 hk1 hp1 HP;go_wp2;go_loopw [12,13,20] (fun _ _ i wr=>∃ (k:Nat) (T:List UInt8),k<=m/\i=.int .i64 k/\Hid (Put L (opn ++ zBc one two m ts k) T)/\Hid (Wq B p T wr)/\Hid (Wk B p w wr)) (fun _ _ i _=>m - (intOf i).toNat)
 case atStart=>exact⟨0,L1,by omega,rfl,HP1,HW1,HK1⟩
 case round=>
  clear HW1 HK1 HP1;obtain⟨k,T,hkm,rfl,HPT,HWr,HKr⟩:=hrel;have hsz:=HKr.out.2.1;have HBe:=zz HKr.out.1;by_cases h1:k<m
  ·obtain⟨b,o,xs,rfl,hbN,hrow,htr⟩:∃ (b o:Nat) (xs:Nat->Array Value),kb=some ⟨b,o,none⟩/\b<N/\zBO w b o m xs/\∀ i,i<m->zAl w N (fs i) (.agg (xs i)):=by
    rcases HROW.out with h|h
    ·omega
    ·exact h
   have hTk:=zAl.below (HBe.out.mono hNB) _ _ (htr k h1);obtain⟨hx8,hxc⟩:=(hrow.below (HBe.out.mono hNB) hbN) k h1;obtain⟨a',kind',mb',mn',mc',kb',kn',kc',hxk⟩:=hTk.cells;have HTK:=zz hTk;simp only[Value.agg.injEq] at hxk;rw[hxk] at hxc HTK;have d0:=hxc 0 (by omega);have d1:=hxc 1 (by omega);have d2:=hxc 2 (by omega);have d3:=hxc 3 (by omega);have d4:=hxc 4 (by omega);have d5:=hxc 5 (by omega);have d6:=hxc 6 (by omega);have d7:=hxc 7 (by omega);simp only[zAh,zAa,zv,zk,zx,Nat.add_zero] at d0 d1 d2 d3 d4 d5 d6 d7;clear hx8 hxc hxk hTk hrow htr;have g1:(k:Int)<(m:Int):=by omega
   have hby:Below wr.heap.size wr (wr.alloc (.cells (zAh a' kind' (.slice mb' mn' mc') (.slice kb' kn' kc')) 31)):=(zK _ _).alloc (zQ _) _;have hbl:=Blk.new wr (zAh a' kind' (.slice mb' mn' mc') (.slice kb' kn' kc')) 31;have hNr:N<=wr.heap.size:=by omega
   have hgw:=(HG.out.low HBe.out hB2).step hby;have HQ:=zz (HIH.out k h1 d _ _ B p N T hNB (zJ (zJ hB hsz) hby.size) hB2 hgw (zAl.below (hby.mono hNr) _ _ HTK.out) (HSM.out k h1).1 (HSM.out k h1).2 (HWr.out.alloc _));have HS1:Hid (zBc one two m ts (k+1)=zBc one two m ts k ++ (fs k).txt zBM ++ (if k+1<m then (if k % 2=1 then two else one) else [])):=zz (by rw[zBc,HTS.out]);have HBY:=zz hby;have HBL:=zz hbl;clear hby hbl hgw;unfold zCQ at HQ;unfold zAh at HBY HBL HQ;go_upto_region 4 with fail
   change Code.wp _ _ _ _ (wr.alloc (.cells (zAa kind' (a'.n:Int) a'.neg (.slice mb' mn' mc') (a'.bits:Int) a'.ext (zAc a'.text) (.slice kb' kn' kc')) 31));clear d0 d1 d2 d3 d4 d5 d6 d7;refine wp_region_lit ?_;iterate 3 go_step
   refine wpList_load_row rfl 31 _ rfl wr.heap.size rfl 31 _ (0,0) _ HBL.out Tryz.underlying31 rfl (by kernel_rfl) ?_;go_wp2_with fail
   refine HQ.out.mono ?_;rintro e w5 ⟨rfl,⟨T5,hp5,hw5⟩,hk5⟩;have HW5:=zz hw5;have HP5:=zz (HPT.out.trans hp5);have HK5:=zz (HKr.out.trans ((Wk.alloc (by omega) _).trans hk5));clear hw5 hk5 hp5 HQ HTK HBY HBL HWr HKr HPT;by_cases h2:k+1<m
   ·have g2:(k:Int)+1<(m:Int):=by omega
    have hB5:B<=w5.heap.size:=zJ hB HK5.out.2.1;rw[if_pos h2] at HS1;have ha:=zEc k (by omega);rcases Nat.mod_two_eq_zero_or_one k with h3|h3
    ·rw[if_neg (by omega)] at HS1;rw[h3] at ha;have HP:=zz (zJz B p T5 one w5 HW5.out (by have:=HLN.out.2.2.1;omega) hB5);have hi:=fun w=>zPs w (.string (zAc one)) (.string (zAc two))
     go_wp2_with fail
     refine HP.out.mono ?_;rintro e w6 ⟨rfl,⟨T6,hp6,hw6⟩,hk6⟩;have HP6:Hid (Put L (opn ++ zBc one two m ts (k+1)) T6):=zz (by rw[HS1.out];have:=HP5.out.trans hp6;simpa only[List.append_assoc] using this);have HW6:=zz hw6;have HK6:=zz (HK5.out.trans hk6);clear hw6 hk6 HP HW5 HK5 hp6;go_wp2;go_roundw
     case rel=>exact⟨k+1,T6,by omega,by simp,HP6,HW6,HK6⟩
     case measure=>simp[intOf];omega
    ·rw[if_pos h3] at HS1;rw[h3] at ha;have HP:=zz (zJz B p T5 two w5 HW5.out (by have:=HLN.out.2.2.2;omega) hB5);have hi:=fun w=>zO7 w (.string (zAc one)) (.string (zAc two))
     go_wp2_with fail
     refine HP.out.mono ?_;rintro e w6 ⟨rfl,⟨T6,hp6,hw6⟩,hk6⟩;have HP6:Hid (Put L (opn ++ zBc one two m ts (k+1)) T6):=zz (by rw[HS1.out];have:=HP5.out.trans hp6;simpa only[List.append_assoc] using this);have HW6:=zz hw6;have HK6:=zz (HK5.out.trans hk6);clear hw6 hk6 HP HW5 HK5 hp6;go_wp2;go_roundw
     case rel=>exact⟨k+1,T6,by omega,by simp,HP6,HW6,HK6⟩
     case measure=>simp[intOf];omega
   ·have g2:¬ (k:Int)+1<(m:Int):=by omega
    rw[if_neg h2,List.append_nil] at HS1;have HP6:Hid (Put L (opn ++ zBc one two m ts (k+1)) T5):=zz (by rw[HS1.out];have:=HP5.out;simpa only[List.append_assoc] using this);go_wp2;go_roundw
    case rel=>exact⟨k+1,T5,by omega,by simp,HP6,HW5,HK5⟩
    case measure=>simp[intOf];omega
  ·obtain rfl:k=m:=by omega
   have g1:¬ (k:Int)<(k:Int):=by omega
   have HP:=zz (zJz B p T sht wr HWr.out (by have:=HLN.out.2.1;omega) (zJ hB hsz));clear HWr;go_wp2_with fail
   refine HP.out.mono ?_;rintro e w2 ⟨rfl,⟨T2,hp2,hw2⟩,hk2⟩;have HW2:=zz hw2;have HP2:=zz (HPT.out.trans hp2);have HK2:=zz (HKr.out.trans hk2);clear hw2 hk2 HP HKr hp2;go_wp2;go_end0
   exact⟨rfl,⟨T2,HP2.out,HW2.out⟩,HK2.out⟩
end Go.Proofs.YtcanfakaigpkgaaGreatDoor.D
