/-
  Of the proof that the law DiagUnlike answers true at every two values: a part, without conditions of its own.
-/
import Derived.Test.YtcanfakaigpkgaaGreatDoorPart24
import Derived.Test.YtcanfakaigpkgaaGreatDoorPart23
set_option linter.unusedVariables false
set_option linter.unusedSimpArgs false
set_option maxRecDepth 100000
set_option maxHeartbeats 8000000
namespace Go.Proofs.YtcanfakaigpkgaaGreatDoor.D
open Go Go.RowKit Limb
theorem Ex.low{p B:Nat}{w w':World}(h:Ex (fun k=>k=p) B w w')(hp:21<p)(hB:21<B):Below 22 w w':=h.below (by omega) (fun k hk=>by omega)
theorem GW.ex{p:Nat}{w w':World}(h:GW w)(he:Ex (fun k=>k=p) w.heap.size w w')(hp:21<p):GW w':=h.below (he.low hp h.size) (by omega)
def zId(fn:FuncId)(args:List Value)(S:List UInt8)(a b:Nat)(f:F)(d:Nat)(op op':Bool):Prop:=
 ∀ (w:World) (p:Nat),GW w->21<p->Rd w p S a op->Calls Tryz.prog fn (.pointer (some ⟨p,0,none⟩) :: args).toArray w fun e w'=>Rs p S b op' w w'/\∃ v,e=.returned v/\zAm w' (fun k=>w.heap.size<=k) f d v
def zQk(fn:FuncId)(args:List Value)(S:List UInt8)(a:Nat)(op:Bool)(code at_:Nat):Prop:=
 ∀ (w:World) (p:Nat),GW w->21<p->Rd w p S a op->Calls Tryz.prog fn (.pointer (some ⟨p,0,none⟩) :: args).toArray w fun e w'=>Ex (fun k=>k=p) w.heap.size w w'/\e=.panicked [{ v:=zEQ code at_,recovered:=false }]
def zCn(S:List UInt8)(a b ar:Nat)(f:F)(d:Nat)(op':Bool):Prop:=∀ op,zId 29 [.int .i64 (ar:Int)] S a b f d op op'
def zOk(S:List UInt8)(a ar:Nat)(code at_:Nat):Prop:=∀ op,zQk 29 [.int .i64 (ar:Int)] S a op code at_
theorem Rs.setRow{p:Nat}{S:List UInt8}{b:Nat}{op:Bool}{w w4:World}(h:Rs p S b op w w4){X:Nat}(hX:w.heap.size<=X)(hp:X≠p)(c:Array Value):Rs p S b op w (w4.setRow X c):=
 ⟨by have:=h.1;unfold Rd Blk at *;rw[setRow_other _ _ _ _ (Ne.symm hp)];exact this,h.2.trans ⟨rfl,rfl,rfl,by simp,fun k hk _=>setRow_other _ _ _ _ (by omega)⟩⟩
theorem zAm.row{w:World}{P:Nat->Prop}{f:F}{d:Nat}{v:Value}(h:zAm w P f d v):∃ (kind n:Int) (mb:Option Addr) (mn mc:Nat) (bits ext:Int) (text:List UInt8) (kb:Option Addr) (kn kc:Nat),v=.agg (zAa kind n false (.slice mb mn mc) bits ext (zAc text) (.slice kb kn kc)):=
 (zAm.toN (N:=w.heap.size) (fun b _ h=>h) _ _ _ h).cells
theorem zIF(S:List UInt8)(a b ar:Nat)(f:F)(d:Nat)(ha:a<S.length)(hc:S.getD a 0=91)(har:ar<128)
  (hL:zId 60 [.int .i64 ((ar+1:Nat):Int)] S a b f d false false):zCn S a b ar f d false:=by
 intro op w p hG hp hr;obtain⟨w0,hw0⟩:∃ w0,w0=w.alloc (.cells zAr 31):=⟨_,rfl⟩;have hb:Below w.heap.size w w0:=by rw[hw0];exact (zK _ _).alloc (zQ _) _
 have hX:Blk w0 w.heap.size zAr 31:=by rw[hw0];exact Blk.new _ _ _
 have hr0:Rd w0 p S a op:=Blk.below hr hb (Blk.lt hr);have hpX:w.heap.size≠p:=by have:=Blk.lt hr;omega
 have c2:=hr0.at2;have f2:w0.frozen? ⟨p,2,none⟩=false:=Blk.free hr0 2;obtain⟨w1,hw1⟩:∃ w1,w1=w0.setCell ⟨p,2,none⟩ (.bool false):=⟨_,rfl⟩;have hr1:Rd w1 p S a false:=by rw[hw1];exact hr0.set2 false
 have hX1:Blk w1 w.heap.size zAr 31:=by rw[hw1];exact hX.set_other _ _ hpX
 have hE1:Ex (fun k=>k=p) w.heap.size w w1:=by rw[hw1];exact (Ex.of_below (S:=fun k=>k=p) hb).setCell p 2 (.inl rfl) _
 have HG:=zz hG;have HW0:=zz hw0;have HW1:=zz hw1;have HR1:=zz hr1;have HX1:=zz hX1;have HE1:=zz hE1;have HL:=zz hL;have hsz0:w.heap.size<w1.heap.size:=hX1.lt;clear hG hw0 hw1 hr1 hX1 hE1 hb hX hr0 hr hL;show Calls _ _ #[_,_] _ _;go_enter Tryz.func29,Tryz.ntmps29
 go_upto_region 1 with fail
 change Code.wp _ _ _ _ (w.alloc (.cells zAr 31));rw[<-HW0.out];go_upto_region 2 with fail
 rw[<-HW1.out];clear c2 f2;have c1:=HR1.out.at1;go_wp2_with fail
 clear c1;refine (zBu w1 p S a false HR1.out [91] ha (by rw[hc];decide)).mono ?_;rintro e w2 ⟨rfl,n2,rfl⟩;have HR2:=zz (HR1.out.drewN n2);have HX2:=zz (HX1.out.drewN n2);have HE2:=zz (HE1.out.drewN n2);have hsz2:w.heap.size<(w1.drewN n2).heap.size:=hsz0;generalize w1.drewN n2=w2 at HR2 HX2 HE2 hsz2 ⊢;clear HR1 HX1 HE1 HW0 HW1 hsz0;go_wp2_with fail
 refine (zFD w2 (ar:Int) (a:Int) (by omega)).mono ?_;rintro e w3 ⟨rfl,rfl⟩;have g3:IntKind.i64.wrap ((ar:Int)+1)=(ar:Int)+1:=zY _ (by omega)
 have HQ:Hid (Calls Tryz.prog 60 #[.pointer (some ⟨p,0,none⟩),.int .i64 ((ar:Int)+1)] w3 fun e w'=>Rs p S b false w3 w'/\∃ v,e=.returned v/\zAm w' (fun k=>w3.heap.size<=k) f d v):=zz (by
  have:=HL.out w3 p (HG.out.ex HE2.out hp) hp HR2.out
  simpa using this)
 go_wp2_with fail
 refine HQ.out.mono ?_;rintro e w4 ⟨hr4,v4,rfl,hT4⟩;obtain⟨k1,k2,k3,k4,k5,k6,k7,k8,k9,k10,k11,rfl⟩:=hT4.row;have hX4:=hr4.2.blk HX2.out hsz2 hpX;have HE4:=zz (HE2.out.trans (hr4.2.mono (by omega) (fun _ h=>h)));have hlt4:w.heap.size<w4.heap.size:=hX4.lt;have hsz3:w3.heap.size<=w4.heap.size:=hr4.2.size;have HX4:=zz hX4;have HR4:=zz hr4.1;have HT4:=zz hT4;clear hr4 hX4 hT4 HQ HR2 HX2 HE2;dsimp only;go_step;refine wpList_store_row rfl 31 _ _ rfl w.heap.size (zAa k1 k2 false (.slice k3 k4 k5) k6 k7 (zAc k8) (.slice k9 k10 k11)) rfl rfl 31 _ HX4.out (by kernel_rfl) rfl (zAo _ _ _ _ _ _ _ _ rfl rfl) ?_;have hfin:Blk (w4.setRow w.heap.size (zAa k1 k2 false (.slice k3 k4 k5) k6 k7 (zAc k8) (.slice k9 k10 k11))) w.heap.size (zAa k1 k2 false (.slice k3 k4 k5) k6 k7 (zAc k8) (.slice k9 k10 k11)) 31:=setRow_heap _ _ _ _ _ _ HX4.out;have HFIN:=zz hfin;clear hfin;go_wp2;refine bodyPost_ret (v:=.agg (zAa k1 k2 false (.slice k3 k4 k5) k6 k7 (zAc k8) (.slice k9 k10 k11))) (results_cell_row rfl _ _ w.heap.size 31 _ (0,0) _ rfl HFIN.out Tryz.underlying31 rfl (by kernel_rfl)) rfl ⟨Rs.setRow ⟨HR4.out,HE4.out⟩ (zQ _) hpX _,_,rfl,zAm.same (fun k hk _=>setRow_other _ _ _ _ (by omega)) (fun k hk _=>by omega) _ _ _ HT4.out⟩
theorem zDX(S:List UInt8)(a ar code at_:Nat)(ha:a<S.length)(c:UInt8)(hc:S.getD a 0=c)(hy:c ∈ ([91]:List UInt8))(har:ar<128)
  (hL:zQk 60 [.int .i64 ((ar+1:Nat):Int)] S a false code at_):zOk S a ar code at_:=by
 intro op w p hG hp hr;obtain⟨w0,hw0⟩:∃ w0,w0=w.alloc (.cells zAr 31):=⟨_,rfl⟩;have hb:Below w.heap.size w w0:=by rw[hw0];exact (zK _ _).alloc (zQ _) _
 have hX:Blk w0 w.heap.size zAr 31:=by rw[hw0];exact Blk.new _ _ _
 have hr0:Rd w0 p S a op:=Blk.below hr hb (Blk.lt hr);have hpX:w.heap.size≠p:=by have:=Blk.lt hr;omega
 have c2:=hr0.at2;have f2:w0.frozen? ⟨p,2,none⟩=false:=Blk.free hr0 2;obtain⟨w1,hw1⟩:∃ w1,w1=w0.setCell ⟨p,2,none⟩ (.bool false):=⟨_,rfl⟩;have hr1:Rd w1 p S a false:=by rw[hw1];exact hr0.set2 false
 have hX1:Blk w1 w.heap.size zAr 31:=by rw[hw1];exact hX.set_other _ _ hpX
 have hE1:Ex (fun k=>k=p) w.heap.size w w1:=by rw[hw1];exact (Ex.of_below (S:=fun k=>k=p) hb).setCell p 2 (.inl rfl) _
 have HG:=zz hG;have HW0:=zz hw0;have HW1:=zz hw1;have HR1:=zz hr1;have HX1:=zz hX1;have HE1:=zz hE1;have HL:=zz hL;have hsz1:w.heap.size<w1.heap.size:=hX1.lt;clear hG hw0 hw1 hr1 hX1 hE1 hb hX hr0 hr hL;show Calls _ _ #[_,_] _ _;go_enter Tryz.func29,Tryz.ntmps29
 go_upto_region 1 with fail
 change Code.wp _ _ _ _ (w.alloc (.cells zAr 31));rw[<-HW0.out];go_upto_region 2 with fail
 rw[<-HW1.out];clear c2 f2;have c1:=HR1.out.at1;go_wp2_with fail
 clear c1;refine (zBu w1 p S a false HR1.out [91] ha (by rw[hc];exact hy)).mono ?_;rintro e w2 ⟨rfl,n2,rfl⟩;have HR2:=zz (HR1.out.drewN n2);have HX2:=zz (HX1.out.drewN n2);have HE2:=zz (HE1.out.drewN n2);have hsz2:w.heap.size<(w1.drewN n2).heap.size:=hsz1;generalize w1.drewN n2=w2 at HR2 HX2 HE2 hsz2 ⊢;clear HR1 HX1 HE1 hsz1 HW0 HW1;go_wp2_with fail
 refine (zFD w2 (ar:Int) (a:Int) (by omega)).mono ?_;rintro e w9 ⟨rfl,rfl⟩;have g3:IntKind.i64.wrap ((ar:Int)+1)=(ar:Int)+1:=zY _ (by omega)
 have HQ:Hid (Calls Tryz.prog 60 #[.pointer (some ⟨p,0,none⟩),.int .i64 ((ar:Int)+1)] w9 fun e w'=>Ex (fun k=>k=p) w9.heap.size w9 w'/\e=.panicked [{ v:=zEQ code at_,recovered:=false }]):=zz (by
  have:=HL.out w9 p (HG.out.ex HE2.out hp) hp HR2.out
  simpa using this)
 go_wp2_with fail
 refine HQ.out.mono ?_;rintro e w4 ⟨hb4,rfl⟩;have HE9:=zz (HE2.out.trans (hb4.mono (by omega) (fun _ h=>h)));clear hb4 HQ HR2 HX2 HE2;go_wp2;exact⟨rfl,HE9.out,rfl⟩
theorem zHl(S:List UInt8)(a b ar:Nat)(f:F)(d:Nat)(ha:a<S.length)(c:UInt8)(hc:S.getD a 0=c)(hn1:c ∉ ([91]:List UInt8))(hy:c ∈ ([123]:List UInt8))(har:ar<128)
  (hL:zId 61 [.int .i64 ((ar+1:Nat):Int)] S a b f d false false):zCn S a b ar f d false:=by
 intro op w p hG hp hr;obtain⟨w0,hw0⟩:∃ w0,w0=w.alloc (.cells zAr 31):=⟨_,rfl⟩;have hb:Below w.heap.size w w0:=by rw[hw0];exact (zK _ _).alloc (zQ _) _
 have hX:Blk w0 w.heap.size zAr 31:=by rw[hw0];exact Blk.new _ _ _
 have hr0:Rd w0 p S a op:=Blk.below hr hb (Blk.lt hr);have hpX:w.heap.size≠p:=by have:=Blk.lt hr;omega
 have c2:=hr0.at2;have f2:w0.frozen? ⟨p,2,none⟩=false:=Blk.free hr0 2;obtain⟨w1,hw1⟩:∃ w1,w1=w0.setCell ⟨p,2,none⟩ (.bool false):=⟨_,rfl⟩;have hr1:Rd w1 p S a false:=by rw[hw1];exact hr0.set2 false
 have hX1:Blk w1 w.heap.size zAr 31:=by rw[hw1];exact hX.set_other _ _ hpX
 have hE1:Ex (fun k=>k=p) w.heap.size w w1:=by rw[hw1];exact (Ex.of_below (S:=fun k=>k=p) hb).setCell p 2 (.inl rfl) _
 have HG:=zz hG;have HW0:=zz hw0;have HW1:=zz hw1;have HR1:=zz hr1;have HX1:=zz hX1;have HE1:=zz hE1;have HL:=zz hL;have hsz1:w.heap.size<w1.heap.size:=hX1.lt;clear hG hw0 hw1 hr1 hX1 hE1 hb hX hr0 hr hL;show Calls _ _ #[_,_] _ _;go_enter Tryz.func29,Tryz.ntmps29
 go_upto_region 1 with fail
 change Code.wp _ _ _ _ (w.alloc (.cells zAr 31));rw[<-HW0.out];go_upto_region 2 with fail
 rw[<-HW1.out];clear c2 f2;have c1:=HR1.out.at1;go_wp2_with fail
 clear c1;refine (zAT w1 p S a false HR1.out [91] (fun _=>by rw[hc];exact hn1)).mono ?_;rintro e w2 ⟨rfl,n2,rfl⟩;have HR2:=zz (HR1.out.drewN n2);have HX2:=zz (HX1.out.drewN n2);have HE2:=zz (HE1.out.drewN n2);have hsz2:w.heap.size<(w1.drewN n2).heap.size:=hsz1;generalize w1.drewN n2=w2 at HR2 HX2 HE2 hsz2 ⊢;clear HR1 HX1 HE1 hsz1 HW0 HW1;go_wp2_with fail
 refine (zBu w2 p S a false HR2.out [123] ha (by rw[hc];exact hy)).mono ?_;rintro e w3 ⟨rfl,n3,rfl⟩;have HR3:=zz (HR2.out.drewN n3);have HX3:=zz (HX2.out.drewN n3);have HE3:=zz (HE2.out.drewN n3);have hsz3:w.heap.size<(w2.drewN n3).heap.size:=hsz2;generalize w2.drewN n3=w3 at HR3 HX3 HE3 hsz3 ⊢;clear HR2 HX2 HE2 hsz2;go_wp2_with fail
 refine (zFD w3 (ar:Int) (a:Int) (by omega)).mono ?_;rintro e w9 ⟨rfl,rfl⟩;have g3:IntKind.i64.wrap ((ar:Int)+1)=(ar:Int)+1:=zY _ (by omega)
 have HQ:Hid (Calls Tryz.prog 61 #[.pointer (some ⟨p,0,none⟩),.int .i64 ((ar:Int)+1)] w9 fun e w'=>Rs p S b false w9 w'/\∃ v,e=.returned v/\zAm w' (fun k=>w9.heap.size<=k) f d v):=zz (by
  have:=HL.out w9 p (HG.out.ex HE3.out hp) hp HR3.out
  simpa using this)
 go_wp2_with fail
 refine HQ.out.mono ?_;rintro e w4 ⟨hr4,v4,rfl,hT4⟩;obtain⟨k1,k2,k3,k4,k5,k6,k7,k8,k9,k10,k11,rfl⟩:=hT4.row;have hX4:=hr4.2.blk HX3.out hsz3 hpX;have HE4:=zz (HE3.out.trans (hr4.2.mono (by omega) (fun _ h=>h)));have hlt4:w.heap.size<w4.heap.size:=hX4.lt;have hsz3:w9.heap.size<=w4.heap.size:=hr4.2.size;have HX4:=zz hX4;have HR4:=zz hr4.1;have HT4:=zz hT4;clear hr4 hX4 hT4 HQ HR3 HX3 HE3;dsimp only;go_step;refine wpList_store_row rfl 31 _ _ rfl w.heap.size (zAa k1 k2 false (.slice k3 k4 k5) k6 k7 (zAc k8) (.slice k9 k10 k11)) rfl rfl 31 _ HX4.out (by kernel_rfl) rfl (zAo _ _ _ _ _ _ _ _ rfl rfl) ?_;have hfin:Blk (w4.setRow w.heap.size (zAa k1 k2 false (.slice k3 k4 k5) k6 k7 (zAc k8) (.slice k9 k10 k11))) w.heap.size (zAa k1 k2 false (.slice k3 k4 k5) k6 k7 (zAc k8) (.slice k9 k10 k11)) 31:=setRow_heap _ _ _ _ _ _ HX4.out;have HFIN:=zz hfin;clear hfin;go_wp2;refine bodyPost_ret (v:=.agg (zAa k1 k2 false (.slice k3 k4 k5) k6 k7 (zAc k8) (.slice k9 k10 k11))) (results_cell_row rfl _ _ w.heap.size 31 _ (0,0) _ rfl HFIN.out Tryz.underlying31 rfl (by kernel_rfl)) rfl ⟨Rs.setRow ⟨HR4.out,HE4.out⟩ (zQ _) hpX _,_,rfl,zAm.same (fun k hk _=>setRow_other _ _ _ _ (by omega)) (fun k hk _=>by omega) _ _ _ HT4.out⟩
theorem zB0(S:List UInt8)(a b ar:Nat)(f:F)(d:Nat)(op2:Bool)(ha:a<S.length)(c:UInt8)(hc:S.getD a 0=c)(hn1:c ∉ ([91]:List UInt8))(hn2:c ∉ ([123]:List UInt8))(hn3:c ∉ ([34]:List UInt8))(hy:c ∈ ([45,48,49,50,51,52,53,54,55,56,57]:List UInt8))(har:ar<=128)
  (hL:zId 64 [.int .i64 (ar:Int)] S a b f d false op2):zCn S a b ar f d op2:=by
 intro op w p hG hp hr;obtain⟨w0,hw0⟩:∃ w0,w0=w.alloc (.cells zAr 31):=⟨_,rfl⟩;have hb:Below w.heap.size w w0:=by rw[hw0];exact (zK _ _).alloc (zQ _) _
 have hX:Blk w0 w.heap.size zAr 31:=by rw[hw0];exact Blk.new _ _ _
 have hr0:Rd w0 p S a op:=Blk.below hr hb (Blk.lt hr);have hpX:w.heap.size≠p:=by have:=Blk.lt hr;omega
 have c2:=hr0.at2;have f2:w0.frozen? ⟨p,2,none⟩=false:=Blk.free hr0 2;obtain⟨w1,hw1⟩:∃ w1,w1=w0.setCell ⟨p,2,none⟩ (.bool false):=⟨_,rfl⟩;have hr1:Rd w1 p S a false:=by rw[hw1];exact hr0.set2 false
 have hX1:Blk w1 w.heap.size zAr 31:=by rw[hw1];exact hX.set_other _ _ hpX
 have hE1:Ex (fun k=>k=p) w.heap.size w w1:=by rw[hw1];exact (Ex.of_below (S:=fun k=>k=p) hb).setCell p 2 (.inl rfl) _
 have HG:=zz hG;have HW0:=zz hw0;have HW1:=zz hw1;have HR1:=zz hr1;have HX1:=zz hX1;have HE1:=zz hE1;have HL:=zz hL;have hsz1:w.heap.size<w1.heap.size:=hX1.lt;clear hG hw0 hw1 hr1 hX1 hE1 hb hX hr0 hr hL;show Calls _ _ #[_,_] _ _;go_enter Tryz.func29,Tryz.ntmps29
 go_upto_region 1 with fail
 change Code.wp _ _ _ _ (w.alloc (.cells zAr 31));rw[<-HW0.out];go_upto_region 2 with fail
 rw[<-HW1.out];clear c2 f2;have c1:=HR1.out.at1;go_wp2_with fail
 clear c1;refine (zAT w1 p S a false HR1.out [91] (fun _=>by rw[hc];exact hn1)).mono ?_;rintro e w2 ⟨rfl,n2,rfl⟩;have HR2:=zz (HR1.out.drewN n2);have HX2:=zz (HX1.out.drewN n2);have HE2:=zz (HE1.out.drewN n2);have hsz2:w.heap.size<(w1.drewN n2).heap.size:=hsz1;generalize w1.drewN n2=w2 at HR2 HX2 HE2 hsz2 ⊢;clear HR1 HX1 HE1 hsz1 HW0 HW1;go_wp2_with fail
 refine (zAT w2 p S a false HR2.out [123] (fun _=>by rw[hc];exact hn2)).mono ?_;rintro e w3 ⟨rfl,n3,rfl⟩;have HR3:=zz (HR2.out.drewN n3);have HX3:=zz (HX2.out.drewN n3);have HE3:=zz (HE2.out.drewN n3);have hsz3:w.heap.size<(w2.drewN n3).heap.size:=hsz2;generalize w2.drewN n3=w3 at HR3 HX3 HE3 hsz3 ⊢;clear HR2 HX2 HE2 hsz2;go_wp2_with fail
 refine (zAT w3 p S a false HR3.out [34] (fun _=>by rw[hc];exact hn3)).mono ?_;rintro e w4 ⟨rfl,n4,rfl⟩;have HR4:=zz (HR3.out.drewN n4);have HX4:=zz (HX3.out.drewN n4);have HE4:=zz (HE3.out.drewN n4);have hsz4:w.heap.size<(w3.drewN n4).heap.size:=hsz3;generalize w3.drewN n4=w4 at HR4 HX4 HE4 hsz4 ⊢;clear HR3 HX3 HE3 hsz3;go_wp2_with fail
 refine (zBu w4 p S a false HR4.out [45,48,49,50,51,52,53,54,55,56,57] ha (by rw[hc];exact hy)).mono ?_;rintro e w5 ⟨rfl,n5,rfl⟩;have HR5:=zz (HR4.out.drewN n5);have HX5:=zz (HX4.out.drewN n5);have HE5:=zz (HE4.out.drewN n5);have hsz5:w.heap.size<(w4.drewN n5).heap.size:=hsz4;generalize w4.drewN n5=w5 at HR5 HX5 HE5 hsz5 ⊢;clear HR4 HX4 HE4 hsz4
 have HQ:Hid (Calls Tryz.prog 64 #[.pointer (some ⟨p,0,none⟩),.int .i64 (ar:Int)] w5 fun e w'=>Rs p S b op2 w5 w'/\∃ v,e=.returned v/\zAm w' (fun k=>w5.heap.size<=k) f d v):=zz (by
  have:=HL.out w5 p (HG.out.ex HE5.out hp) hp HR5.out
  simpa using this)
 go_wp2_with fail
 refine HQ.out.mono ?_;rintro e wz ⟨hr4,v4,rfl,hT4⟩;obtain⟨k1,k2,k3,k4,k5,k6,k7,k8,k9,k10,k11,rfl⟩:=hT4.row;have hX4:=hr4.2.blk HX5.out hsz5 hpX;have HE4:=zz (HE5.out.trans (hr4.2.mono (by omega) (fun _ h=>h)));have hlt4:w.heap.size<wz.heap.size:=hX4.lt;have hsz3:w5.heap.size<=wz.heap.size:=hr4.2.size;have HX4:=zz hX4;have HR4:=zz hr4.1;have HT4:=zz hT4;clear hr4 hX4 hT4 HQ HR5 HX5 HE5;dsimp only;go_step;refine wpList_store_row rfl 31 _ _ rfl w.heap.size (zAa k1 k2 false (.slice k3 k4 k5) k6 k7 (zAc k8) (.slice k9 k10 k11)) rfl rfl 31 _ HX4.out (by kernel_rfl) rfl (zAo _ _ _ _ _ _ _ _ rfl rfl) ?_;have hfin:Blk (wz.setRow w.heap.size (zAa k1 k2 false (.slice k3 k4 k5) k6 k7 (zAc k8) (.slice k9 k10 k11))) w.heap.size (zAa k1 k2 false (.slice k3 k4 k5) k6 k7 (zAc k8) (.slice k9 k10 k11)) 31:=setRow_heap _ _ _ _ _ _ HX4.out;have HFIN:=zz hfin;clear hfin;go_wp2;refine bodyPost_ret (v:=.agg (zAa k1 k2 false (.slice k3 k4 k5) k6 k7 (zAc k8) (.slice k9 k10 k11))) (results_cell_row rfl _ _ w.heap.size 31 _ (0,0) _ rfl HFIN.out Tryz.underlying31 rfl (by kernel_rfl)) rfl ⟨Rs.setRow ⟨HR4.out,HE4.out⟩ (zQ _) hpX _,_,rfl,zAm.same (fun k hk _=>setRow_other _ _ _ _ (by omega)) (fun k hk _=>by omega) _ _ _ HT4.out⟩
theorem zJg(S:List UInt8)(a b ar:Nat)(f:F)(d:Nat)(op2:Bool)(ha:a<S.length)(c:UInt8)(hc:S.getD a 0=c)(hn1:c ∉ ([91]:List UInt8))(hn2:c ∉ ([123]:List UInt8))(hn3:c ∉ ([34]:List UInt8))(hn4:c ∉ ([45,48,49,50,51,52,53,54,55,56,57]:List UInt8))(hn5:c ∉ ([104]:List UInt8))(hn6:c ∉ ([115]:List UInt8))(hn7:c ∉ ([101]:List UInt8))(har:ar<=128)
  (hL:zId 68 [] S a b f d false op2):zCn S a b ar f d op2:=by
 intro op w p hG hp hr;obtain⟨w0,hw0⟩:∃ w0,w0=w.alloc (.cells zAr 31):=⟨_,rfl⟩;have hb:Below w.heap.size w w0:=by rw[hw0];exact (zK _ _).alloc (zQ _) _
 have hX:Blk w0 w.heap.size zAr 31:=by rw[hw0];exact Blk.new _ _ _
 have hr0:Rd w0 p S a op:=Blk.below hr hb (Blk.lt hr);have hpX:w.heap.size≠p:=by have:=Blk.lt hr;omega
 have c2:=hr0.at2;have f2:w0.frozen? ⟨p,2,none⟩=false:=Blk.free hr0 2;obtain⟨w1,hw1⟩:∃ w1,w1=w0.setCell ⟨p,2,none⟩ (.bool false):=⟨_,rfl⟩;have hr1:Rd w1 p S a false:=by rw[hw1];exact hr0.set2 false
 have hX1:Blk w1 w.heap.size zAr 31:=by rw[hw1];exact hX.set_other _ _ hpX
 have hE1:Ex (fun k=>k=p) w.heap.size w w1:=by rw[hw1];exact (Ex.of_below (S:=fun k=>k=p) hb).setCell p 2 (.inl rfl) _
 have HG:=zz hG;have HW0:=zz hw0;have HW1:=zz hw1;have HR1:=zz hr1;have HX1:=zz hX1;have HE1:=zz hE1;have HL:=zz hL;have hsz1:w.heap.size<w1.heap.size:=hX1.lt;clear hG hw0 hw1 hr1 hX1 hE1 hb hX hr0 hr hL;show Calls _ _ #[_,_] _ _;go_enter Tryz.func29,Tryz.ntmps29
 go_upto_region 1 with fail
 change Code.wp _ _ _ _ (w.alloc (.cells zAr 31));rw[<-HW0.out];go_upto_region 2 with fail
 rw[<-HW1.out];clear c2 f2;have c1:=HR1.out.at1;go_wp2_with fail
 clear c1;refine (zAT w1 p S a false HR1.out [91] (fun _=>by rw[hc];exact hn1)).mono ?_;rintro e w2 ⟨rfl,n2,rfl⟩;have HR2:=zz (HR1.out.drewN n2);have HX2:=zz (HX1.out.drewN n2);have HE2:=zz (HE1.out.drewN n2);have hsz2:w.heap.size<(w1.drewN n2).heap.size:=hsz1;generalize w1.drewN n2=w2 at HR2 HX2 HE2 hsz2 ⊢;clear HR1 HX1 HE1 hsz1 HW0 HW1;go_wp2_with fail
 refine (zAT w2 p S a false HR2.out [123] (fun _=>by rw[hc];exact hn2)).mono ?_;rintro e w3 ⟨rfl,n3,rfl⟩;have HR3:=zz (HR2.out.drewN n3);have HX3:=zz (HX2.out.drewN n3);have HE3:=zz (HE2.out.drewN n3);have hsz3:w.heap.size<(w2.drewN n3).heap.size:=hsz2;generalize w2.drewN n3=w3 at HR3 HX3 HE3 hsz3 ⊢;clear HR2 HX2 HE2 hsz2;go_wp2_with fail
 refine (zAT w3 p S a false HR3.out [34] (fun _=>by rw[hc];exact hn3)).mono ?_;rintro e w4 ⟨rfl,n4,rfl⟩;have HR4:=zz (HR3.out.drewN n4);have HX4:=zz (HX3.out.drewN n4);have HE4:=zz (HE3.out.drewN n4);have hsz4:w.heap.size<(w3.drewN n4).heap.size:=hsz3;generalize w3.drewN n4=w4 at HR4 HX4 HE4 hsz4 ⊢;clear HR3 HX3 HE3 hsz3;go_wp2_with fail
 refine (zAT w4 p S a false HR4.out [45,48,49,50,51,52,53,54,55,56,57] (fun _=>by rw[hc];exact hn4)).mono ?_;rintro e w5 ⟨rfl,n5,rfl⟩;have HR5:=zz (HR4.out.drewN n5);have HX5:=zz (HX4.out.drewN n5);have HE5:=zz (HE4.out.drewN n5);have hsz5:w.heap.size<(w4.drewN n5).heap.size:=hsz4;generalize w4.drewN n5=w5 at HR5 HX5 HE5 hsz5 ⊢;clear HR4 HX4 HE4 hsz4;go_wp2_with fail
 refine (zAT w5 p S a false HR5.out [104] (fun _=>by rw[hc];exact hn5)).mono ?_;rintro e w6 ⟨rfl,n6,rfl⟩;have HR6:=zz (HR5.out.drewN n6);have HX6:=zz (HX5.out.drewN n6);have HE6:=zz (HE5.out.drewN n6);have hsz6:w.heap.size<(w5.drewN n6).heap.size:=hsz5;generalize w5.drewN n6=w6 at HR6 HX6 HE6 hsz6 ⊢;clear HR5 HX5 HE5 hsz5;go_wp2_with fail
 refine (zAT w6 p S a false HR6.out [115] (fun _=>by rw[hc];exact hn6)).mono ?_;rintro e w7 ⟨rfl,n7,rfl⟩;have HR7:=zz (HR6.out.drewN n7);have HX7:=zz (HX6.out.drewN n7);have HE7:=zz (HE6.out.drewN n7);have hsz7:w.heap.size<(w6.drewN n7).heap.size:=hsz6;generalize w6.drewN n7=w7 at HR7 HX7 HE7 hsz7 ⊢;clear HR6 HX6 HE6 hsz6;go_wp2_with fail
 refine (zAT w7 p S a false HR7.out [101] (fun _=>by rw[hc];exact hn7)).mono ?_;rintro e w8 ⟨rfl,n8,rfl⟩;have HR8:=zz (HR7.out.drewN n8);have HX8:=zz (HX7.out.drewN n8);have HE8:=zz (HE7.out.drewN n8);have hsz8:w.heap.size<(w7.drewN n8).heap.size:=hsz7;generalize w7.drewN n8=w8 at HR8 HX8 HE8 hsz8 ⊢;clear HR7 HX7 HE7 hsz7
 have HQ:Hid (Calls Tryz.prog 68 #[.pointer (some ⟨p,0,none⟩)] w8 fun e w'=>Rs p S b op2 w8 w'/\∃ v,e=.returned v/\zAm w' (fun k=>w8.heap.size<=k) f d v):=zz (by
  have:=HL.out w8 p (HG.out.ex HE8.out hp) hp HR8.out
  simpa using this)
 go_wp2_with fail
 refine HQ.out.mono ?_;rintro e wz ⟨hr4,v4,rfl,hT4⟩;obtain⟨k1,k2,k3,k4,k5,k6,k7,k8,k9,k10,k11,rfl⟩:=hT4.row;have hX4:=hr4.2.blk HX8.out hsz8 hpX;have HE4:=zz (HE8.out.trans (hr4.2.mono (by omega) (fun _ h=>h)));have hlt4:w.heap.size<wz.heap.size:=hX4.lt;have hsz3:w8.heap.size<=wz.heap.size:=hr4.2.size;have HX4:=zz hX4;have HR4:=zz hr4.1;have HT4:=zz hT4;clear hr4 hX4 hT4 HQ HR8 HX8 HE8;dsimp only;go_step;refine wpList_store_row rfl 31 _ _ rfl w.heap.size (zAa k1 k2 false (.slice k3 k4 k5) k6 k7 (zAc k8) (.slice k9 k10 k11)) rfl rfl 31 _ HX4.out (by kernel_rfl) rfl (zAo _ _ _ _ _ _ _ _ rfl rfl) ?_;have hfin:Blk (wz.setRow w.heap.size (zAa k1 k2 false (.slice k3 k4 k5) k6 k7 (zAc k8) (.slice k9 k10 k11))) w.heap.size (zAa k1 k2 false (.slice k3 k4 k5) k6 k7 (zAc k8) (.slice k9 k10 k11)) 31:=setRow_heap _ _ _ _ _ _ HX4.out;have HFIN:=zz hfin;clear hfin;go_wp2;refine bodyPost_ret (v:=.agg (zAa k1 k2 false (.slice k3 k4 k5) k6 k7 (zAc k8) (.slice k9 k10 k11))) (results_cell_row rfl _ _ w.heap.size 31 _ (0,0) _ rfl HFIN.out Tryz.underlying31 rfl (by kernel_rfl)) rfl ⟨Rs.setRow ⟨HR4.out,HE4.out⟩ (zQ _) hpX _,_,rfl,zAm.same (fun k hk _=>setRow_other _ _ _ _ (by omega)) (fun k hk _=>by omega) _ _ _ HT4.out⟩
end Go.Proofs.YtcanfakaigpkgaaGreatDoor.D
namespace Go.Proofs.YtcanfakaigpkgaaGreatDoor.D
open Go Go.RowKit Limb
attribute [local go_sem high] zAI zAg zBv zAz
def dec(S:List UInt8):Nat->Nat
 | 0=>0
 | k+1=>dec S k*10+((S.getD k 0).toNat - 48)
theorem zDo(w:World)(S:List UInt8)(h1:1<=S.length)(h9:S.length<=9)(hd:∀ i,i<S.length->48<=(S.getD i 0).toNat/\(S.getD i 0).toNat<=57)(h0:(S.getD 0 0).toNat≠48):
  Calls Tryz.prog 106 #[.string (zAc S)] w fun e w'=>Below w.heap.size w w'/\∃ v,e=.returned (.tuple #[v,.bool true])/\zAf w' v (zAb (dec S S.length)):=by
 have HD:=zz hd;clear hd;go_enter Tryz.func106,Tryz.ntmps106
 go_upto_region 1 with fail
 have hi0:=fun w=>zAI w S 0 (by omega)
 simp only[Int.ofNat_zero] at hi0
 have HDL:Hid (∀ k,k<=S.length->dec S k<10 ^ k):=zz (by
  intro k
  induction k with
  | zero=>intro _;simp[dec]
  | succ k ih=>
   intro h;have:=ih (by omega);have hc:=HD.out k (by omega);rw[dec,Nat.pow_succ];omega)
 have HDP:Hid (∀ k,1<=k->k<=S.length->0<dec S k):=zz (by
  intro k
  induction k with
  | zero=>intro h;omega
  | succ k ih=>
   intro _ h;have hc:=HD.out 0 (by omega);rw[dec];rcases Nat.eq_zero_or_pos k with rfl|hk
   ·omega
   ·have:=ih hk (by omega);omega)
 have htl:(zAc S).toList=S:=ByteArray.toList_eq _;have hemp:S.isEmpty=false:=by cases S with|nil=>simp at h1|cons=>rfl
 have hz:¬ ch S 0=48:=fun h=>h0 (by unfold ch b8 at h;omega)
 go_wp2_with fail
 clear hi0 hemp hz htl;go_loopw [24] (fun i wr=>∃ k:Nat,k<=S.length/\i=.int .i64 k/\wr=w) (fun i _=>S.length - (intOf i).toNat)
 case atStart=>exact⟨0,by omega,rfl,rfl⟩
 case round=>
  obtain⟨k,hk,rfl,rfl⟩:=hrel;by_cases h1:k<S.length
  ·have hc:=HD.out k h1;have g1:(k:Int)<(S.length:Int):=by omega
   have g2:¬ ch S k<48:=by unfold ch b8;omega
   have g3:¬ 57<ch S k:=by unfold ch b8;omega
   have hix:=fun w=>zAI w S k h1
   go_wp2_with fail
   exact⟨⟨k+1,by omega,by simp,trivial⟩,by simp[intOf];omega⟩
  ·obtain rfl:k=S.length:=by omega
   have g1:¬ (S.length:Int)<(S.length:Int):=by omega
   go_wp2_with fail
   clear g1 h1;go_loopw [5,6] (fun v i w2=>(i=.int .i64 0/\v=.slice none 0 0/\w2=wr) \/ (i=.int .i64 S.length/\Hid (Below wr.heap.size wr w2)/\∃ b n c l,v=.slice b n c/\Hid (zAf w2 (.slice b n c) l/\l.length<=1/\val l=dec S S.length))) (fun _ i _=>S.length - (intOf i).toNat)
   case atStart=>exact .inl ⟨rfl,rfl,rfl⟩
   case round=>
    rcases hrel with ⟨rfl,rfl,rfl⟩|⟨rfl,HB,b,n,c,l,rfl,HV⟩
    ·have g1:(0:Int)<(S.length:Int):=by omega
     go_wp2_with fail
     go_loopw [6,7,8] (fun i t m w3=>∃ k:Nat,k<=S.length/\i=.int .i64 k/\t=.int .u32 (dec S k:Nat)/\m=.int .u32 ((10 ^ k:Nat):Int)/\w3=wr) (fun i _ _ _=>S.length - (intOf i).toNat)
     case atStart=>exact⟨0,by omega,rfl,rfl,rfl,rfl⟩
     case round=>
      obtain⟨k,hk,rfl,rfl,rfl,rfl⟩:=hrel;by_cases h1:k<S.length
      ·have hc:=HD.out k h1;have g1:(k:Int)<(S.length:Int):=by omega
       have hp:10 ^ k<=10 ^ 8:=Nat.pow_le_pow_right (by omega) (by omega);have hdk:dec S k<10 ^ k:=HDL.out k (by omega);have hix:=fun w=>zAI w S k h1
       generalize hP:(10 ^ k:Nat)=P at *;have g2:(P:Int)<1000000000:=by omega
       go_wp2_with fail
       refine⟨⟨k+1,by omega,by simp,?_,?_,trivial⟩,by simp[intOf];omega⟩
       ·congr 1;rw[dec];unfold ch b8;omega
       ·congr 1;rw[Nat.pow_succ,hP];omega
      ·obtain rfl:k=S.length:=by omega
       have g1:¬ (S.length:Int)<(S.length:Int):=by omega
       go_wp2_with fail
       clear g1 h1;go_loopw [9,66] (fun r i w3=>r=.int .u64 (dec S S.length:Nat)/\i=.int .i64 0/\w3=wr) (fun _ _ _=>0)
       case atStart=>
        have hdl:=HDL.out S.length (zQ _);have hp:10 ^ S.length<=10 ^ 9:=Nat.pow_le_pow_right (by omega) (by omega);exact⟨by congr 1;exact IntWalk.u64_in _ (by omega),rfl,rfl⟩
       case round=>
        obtain⟨rfl,rfl,rfl⟩:=hrel;have hdp:=HDP.out S.length (by omega) (zQ _);have hdl:=HDL.out S.length (zQ _);have hp:10 ^ S.length<=10 ^ 9:=Nat.pow_le_pow_right (by omega) (by omega);generalize hx:dec S S.length=x at hdp hdl ⊢;have HX:=zz hx;clear hx;have g1:(0:Int)<(x:Int):=by omega
        go_upto_region 26 with fail
        have g2:IntKind.u32.wrap (x:Int)=(x:Int):=IntWalk.u32_in _ (by omega);obtain⟨i0,hi0,hz0,hs0,hb0⟩:=zEv;refine wp_region_lit ?_;iterate 12 go_step
        have hal:=(zK wr.heap.size wr).alloc (zQ _) (.cells #[.int .u32 (x:Int)] 139);have hnw:=Blk.new wr #[.int .u32 (x:Int)] 139;generalize hWa:wr.alloc (.cells #[.int .u32 (x:Int)] 139)=wa at hal hnw ⊢;have hlt:wr.heap.size<wa.heap.size:=hnw.lt;refine wpList_append_own _ rfl (.tmp 89) (.tmp 92) 26 rfl wr.heap.size 139 i0 _ 1 4 Tryz.underlying26 hi0 hz0 hs0 hb0 rfl (by decide) (.slice none 0 0) 0 [] rfl (World.ownsRow_nil _ _ _ _) ⟨wr.heap.size,0,none⟩ 1 1 [.int .u32 (x:Int)] rfl rfl ?c1 ?c2 ?c3 ?c4 ?c5 ?_
        case c1=>
         intro j u hj;rw[zA1,Nat.zero_add,hnw.cell j]
         simpa using hj
        case c2=>intro u hu;simp at hu;subst hu;rfl
        case c3=>decide
        case c4=>decide
        case c5=>omega
        intro v' w7 hown hgrow hnn;have hb7:Below wr.heap.size wr w7:=hal.trans ⟨hgrow.os,hgrow.tape,hgrow.output,hgrow.size,fun k hk=>hgrow.block k (by omega) (fun e=>by simp[Value.ownBlock] at e)⟩
        have hfin:∃ g c,v'=.slice (some ⟨g,0,none⟩) 1 c/\zAf w7 (.slice (some ⟨g,0,none⟩) 1 c) [x]:=by
         obtain⟨hlen,⟨rfl,h0⟩|⟨g,cp,cur,rfl,hg,hc,hle,hm,hsz,htk⟩⟩:=hown
         ·have:=(hnn.1 rfl).2;simp at this
         ·rw[Nat.zero_add] at hle htk;refine⟨g,cp,by rw[Nat.zero_add],?_⟩;refine⟨fun y hy=>by simp at hy;omega,.inr ⟨g,0,cp,rfl,by simpa using hle,by unfold maxLen at hm;omega,(Array.getElem?_eq_some_iff.1 hc).1,fun i hi=>?_⟩⟩;have:i=0:=by simp at hi;omega
          subst this;have e:w7.cell? ⟨g,0+0,none⟩=cur[0]?:=by simp[World.cell?,hc]
          have h9:(cur.toList.take (1*1))[0]?=some (.int .u32 (x:Int)):=by rw[htk];rfl
          rw[e,<-Array.getElem?_toList];rw[List.getElem?_take,if_pos (by omega)] at h9;exact h9
        obtain⟨g,c,rfl,hL⟩:=hfin;have HL:=zz hL;have HB7:=zz hb7;clear hown hgrow hnn hL hb7 hal hnw hi0 hz0 hs0 hb0 hlt hWa;go_wp2;go_roundw
        case rel=>exact .inr ⟨rfl,HB7,_,_,_,[x],rfl,zz ⟨HL.out,by simp,by rw[HX.out];simp[val]⟩⟩
        case measure=>simp[intOf];omega
    ·have g1:¬ (S.length:Int)<(S.length:Int):=by omega
     go_wp2_with fail
     refine (zBi wr (.slice b n c) l HV.out.1 (by have:=HV.out.2.1;omega)).mono ?_;rintro e w1 ⟨hb1,v1,rfl,hl1,_⟩;rw[zAv HV.out.1.fit,HV.out.2.2] at hl1;have HB1:=zz (HB.out.trans (hb1.mono HB.out.size));have HL1:=zz hl1;clear hb1 hl1;go_wp2;refine bodyPost_ret (v:=.tuple #[v1,.bool true]) (by simp[results,Tryz.results106,go_sem]) rfl ⟨HB1.out,_,rfl,HL1.out⟩
end Go.Proofs.YtcanfakaigpkgaaGreatDoor.D
namespace Go.Proofs.YtcanfakaigpkgaaGreatDoor.D
open Go Go.RowKit Limb
attribute [local go_sem high] zAI zAg zBv zAz zCJ
theorem zHb{B:Nat}{w:World}{v:Value}{L:List UInt8}(h:Own B w v L)(h0:L≠[]):∃ g cap,v=.slice (some ⟨g,0,none⟩) L.length cap/\∀ i,i<L.length->w.cell? ⟨g,0+i,none⟩=some (.int .u8 ((L.getD i 0).toNat:Int)):=by
 have hl0:L.length≠0:=by simpa using h0
 rcases h.2 with ⟨_,hz⟩|⟨g,cap,cur,hv,hBg,hg,hcap,hm,hcs,htake⟩
 ·exact absurd hz hl0
 ·refine⟨g,cap,hv,fun i hi=>?_⟩;have h9:(cur.toList.take (L.length*1))[i]?=(Lib.byteCells L)[i]?:=by rw[htake]
  rw[List.getElem?_take,if_pos (by omega),Array.getElem?_toList] at h9;rw[Nat.zero_add,Lib.cell_of_heap hg,h9];simp[Lib.byteCells,hi]
theorem zII(w:World):Calls Tryz.prog 112 #[.string (zAc [48,48,70,70])] w fun e w'=>e=.returned (.string ⟨#[48,48,102,102]⟩)/\Below w.heap.size w w':=by
 have h:=Tryz.strings_ToLower_ascii (zAc [48,48,70,70]) w (by decide) (by
  intro j b hj;have:b ∈ ([48,48,70,70]:List UInt8):=List.mem_of_getElem? (by simpa[zAc] using hj);have h2:∀ b ∈ ([48,48,70,70]:List UInt8),b.toNat<128:=by decide
  exact h2 b this)
 exact h
def zQe:List UInt8:=[48,49,50,51,52,53,54,55,56,57,97,98,99,100,101,102,65,66,67,68,69,70]
theorem zI1(S:List UInt8)(a:Nat)(op:Bool)(ha:a+7<=S.length)(hS:S.length<=1099511627776)(hw:sub S a (a+7)=[104,39,48,48,70,70,39])(w:World)(p:Nat)(hp:21<p)(hr:Rd w p S a op):
  Calls Tryz.prog 65 #[.pointer (some ⟨p,0,none⟩)] w fun e w'=>e=.returned (.string (zAc [0,255]))/\Rs p S (a+7) op w w':=by
 have hg:∀ i,i<7->S.getD (a+i) 0=([104,39,48,48,70,70,39]:List UInt8).getD i 0:=fun i hi=>by rw[<-hw,zEa S a (a+7) i (by omega)]
 have hsub:sub S (a+2) (a+6)=[48,48,70,70]:=by
  have h:sub S (a+2) (a+6)=(((sub S a (a+7)).drop 2).take 4):=by
   unfold sub;rw[List.drop_take,List.drop_drop,List.take_take];congr 1 <;> omega
  rw[h,hw];rfl
 have HG:=zz hg;have HSUB:=zz hsub;have hpw:p<w.heap.size:=Blk.lt hr;have HR:=zz hr;clear hg hsub hr hw;go_enter Tryz.func65,Tryz.ntmps65
 go_wp2_with fail
 refine (zDL w p S a op HR.out [104,39] (by simp;omega) hS (fun i hi=>by
  have hi:i<2:=hi;have:=HG.out i (by omega);rw[this];rcases (by omega:i=0 \/ i=1) with rfl|rfl <;> rfl)).mono ?_
 rintro r w1 ⟨rfl,hr1,hx1⟩;have HR1:=zz hr1;have HX1:=zz hx1;clear hr1 hx1;go_wp2_with fail
 refine (zBq w1 p S (a+2) (a+6) op HR1.out zQe (by omega) (by omega) hS (fun i h1 h2=>by
  have:=HG.out (i - a) (by omega);rw[show a+(i - a)=i by omega] at this;rw[this];rcases (by omega:i - a=2 \/ i - a=3 \/ i - a=4 \/ i - a=5) with h|h|h|h <;> rw[h] <;> decide) (fun _=>by
  have h:S.getD (a+6) 0=39:=HG.out 6 (by decide);rw[h];decide) 0 (by omega)).mono ?_
 rintro r w2 ⟨rfl,hr2,hx2⟩;rw[HSUB.out];have HR2:=zz hr2;have HX2:=zz (HX1.out.trans (hx2.mono HX1.out.size (fun _ h=>h)));clear hr2 hx2;go_wp2_with fail
 refine (zDL w2 p S (a+6) op HR2.out [39] (by simp;omega) hS (fun i hi=>by
  have hi:i<1:=hi;obtain rfl:i=0:=by omega
  exact HG.out 6 (by decide))).mono ?_
 rintro r w3 ⟨rfl,hr3,hx3⟩;have HR3:=zz hr3;have HX3:=zz (HX2.out.trans (hx3.mono HX2.out.size (fun _ h=>h)));clear hr3 hx3;go_wp2_with fail
 refine (zII w3).mono ?_;rintro r w4 ⟨rfl,hb4⟩;have HR4:Hid (Rd w4 p S (a+7) op):=zz (Blk.below HR3.out hb4 (Blk.lt HR3.out));have HX4:=zz (HX3.out.trans (Ex.of_below (hb4.mono HX3.out.size)));clear hb4;go_wp2_with fail
 refine (zFY w4).mono ?_;rintro r w5 ⟨v,rfl,hb5,ho5⟩;have HR5:Hid (Rd w5 p S (a+7) op):=zz (Blk.below HR4.out hb5 (Blk.lt HR4.out));have HX5:=zz (HX4.out.trans (Ex.of_below (hb5.mono HX4.out.size)));obtain⟨g,cap,rfl,hc⟩:=zHb ho5 (by simp);have hcv:=zAN w5 g 0 2 cap [0,255] rfl hc;clear hb5 ho5 hc;go_wp2;go_ret;exact⟨rfl,HR5.out,HX5.out⟩
end Go.Proofs.YtcanfakaigpkgaaGreatDoor.D
namespace Go.Proofs.YtcanfakaigpkgaaGreatDoor.D
open Go Go.RowKit Limb
def NoU(w:World)(v:Value):Prop:=∀ g,v.ownBlock=some g->∃ cur,Blk w g cur 5/\∀ (i:Nat) (x:Int),cur[i]?≠some (.int .u32 x)
theorem NoU.nil(w:World):NoU w (.slice none 0 0):=fun g h=>by simp[Value.ownBlock] at h
theorem NoU.below{w w':World}{v:Value}(h:NoU w v)(hb:Below w.heap.size w w'):NoU w' v:=fun g hg=>by
 obtain⟨cur,h1,h2⟩:=h g hg;exact⟨cur,h1.below hb h1.lt,h2⟩
theorem NoU.ex{w w':World}{v:Value}{R B:Nat}{L:List UInt8}(h:NoU w v)(ho:Own B w v L)(hR:R<B)(he:Ex (fun k=>k=R) w.heap.size w w'):NoU w' v:=fun g hg=>by
 obtain⟨cur,h1,h2⟩:=h g hg;refine⟨cur,he.blk h1 h1.lt ?_,h2⟩;obtain⟨_,⟨rfl,_⟩|⟨g',cap,c,rfl,hB,_⟩⟩:=ho
 ·simp[Value.ownBlock] at hg
 ·simp only[Value.ownBlock,Option.some.injEq] at hg;omega
theorem zLl(n i:Nat)(x:Int):(Builtin.zeroCells (Value.int IntKind.u8 0).cells n)[i]?≠some (.int .u32 x):=by
 intro h;have h1:(Value.int IntKind.u8 0).cells=#[.int .u8 0]:=rfl;rw[h1] at h;simp[Builtin.zeroCells] at h;obtain⟨a,_,h⟩:=h;rw[Nat.mod_one] at h;simp at h
theorem zGy{a b:Array Value}(ha:∀ (i:Nat) (x:Int),a[i]?≠some (.int .u32 x))(hb:∀ (i:Nat) (x:Int),b[i]?≠some (.int .u32 x)):∀ (i:Nat) (x:Int),(a ++ b)[i]?≠some (.int .u32 x):=by
 intro i x h;rw[Array.getElem?_append] at h
 split at h
 ·exact ha _ _ h
 ·exact hb _ _ h
theorem zKC(y:Int):∀ (i:Nat) (x:Int),(#[Value.int .u8 y]:Array Value)[i]?≠some (.int .u32 x):=by
 intro i x h
 match i with
 | 0=>simp at h
 | i+1=>simp at h
theorem zKO(w:World)(base:Nat)(v:Value)(L:List UInt8)(hown:Own base w v L)(hN:NoU w v)(a:Addr)(c:Nat)(y:Int)(hnews:w.cell? (a.add 0)=some (.int .u8 y))(hn:L.length+1<=140737488355328)(hbase:base<=w.heap.size)(ty:TypeId):
  ∃ v' w',(Builtin.append_ #[47,47] ty #[v,.slice (some a) 1 c]).run Tryz.prog w=.ok v' w'/\w'.ownsRow base 5 1 v' (L.length+1) (Lib.byteCells L ++ [.int .u8 y])/\w.grownBy w' v.ownBlock/\NoU w' v':=by
 obtain⟨i0,hi,hz0,hz1,hz2⟩:=zDg
 have hnw:∀ j u,[Value.int .u8 y][j]?=some u->w.cell? (a.add j)=some u:=fun j u hj=>by
  match j with
  | 0=>simp at hj;subst hj;exact hnews
  | j+1=>simp at hj
 have h1c:∀ u ∈ [Value.int .u8 y],u.oneCell'=true:=fun u hu=>by rw[List.mem_singleton.1 hu];rfl
 obtain⟨v',w',hr,h2,h3,_⟩:=run_append_own (P:=Tryz.prog) w base 47 ty 5 i0 (.int .u8 0) 1 1 Tryz.underlying47 hi hz0 hz1 hz2 rfl (by decide) v L.length (Lib.byteCells L) hown a 1 c [.int .u8 y] rfl hnw h1c (by unfold maxLen;omega) (by omega) hbase;refine⟨v',w',hr,h2,h3,?_⟩
 have hxs:∀ (i:Nat) (x:Int),(Lib.byteCells L).toArray[i]?≠some (.int .u32 x):=fun i x h=>by
  rw[zv] at h;unfold Lib.byteCells at h;rw[List.getElem?_map] at h
  cases hq:L[i]? with
  | none=>rw[hq] at h;cases h
  | some z=>rw[hq] at h;simp at h
 unfold Own at hown;rcases hown.2 with ⟨rfl,h0⟩|⟨g,cap,cur,rfl,hbg,hg,hnc,hcm,hcs,htake⟩
 ·have hL:L=[]:=List.eq_nil_of_length_eq_zero h0;subst hL;have hr':=run_append_nil (P:=Tryz.prog) w 47 ty 5 i0 (.int .u8 0) Tryz.underlying47 hi hz0 a 1 c [.int .u8 y] (by rw[hz1];rfl) hnw (by omega) (by omega) (by rw[hz2];omega);rw[hr] at hr';injection hr' with hv hw
  subst hv;subst hw;intro g hg;simp only[Value.ownBlock,Option.some.injEq] at hg;subst hg;exact⟨_,Blk.new w.drew _ _,zGy (zKC y) (fun i x=>zLl _ i x)⟩
 ·by_cases hroom:L.length+1<=cap
  ·have hfit:L.length*i0.size+[Value.int .u8 y].length<=cur.size:=by rw[hz1,hcs];simp;omega
   have hr':=run_append_room (P:=Tryz.prog) w 47 ty 5 i0 Tryz.underlying47 hi g L.length cap cur hg a 1 c [.int .u8 y] (by rw[hz1];rfl) hnw h1c hroom hfit;rw[hr] at hr';injection hr' with hv hw
   subst hv;subst hw;intro g' hg';simp only[Value.ownBlock,Option.some.injEq] at hg';subst hg';refine⟨_,setRow_heap _ _ _ _ _ _ hg,?_⟩;obtain⟨cur',hk,hno⟩:=hN g rfl;have:cur'=cur:=by unfold Blk at hk;rw[hg] at hk;simpa using hk.symm
   subst this;have hcl:∀ (i:Nat) (x:Int),cur'.toList[i]?≠some (.int .u32 x):=fun i x h=>hno i x (by rw[<-Array.getElem?_toList];exact h)
   intro i x h;rw[zv] at h;have hm:=List.mem_of_getElem? h;rcases List.mem_append.1 hm with hm|hm
   ·rcases List.mem_append.1 hm with hm|hm
    ·obtain⟨j,hj⟩:=List.mem_iff_getElem?.1 (List.mem_of_mem_take hm);exact hcl j x hj
    ·rw[List.mem_singleton] at hm;simp at hm
   ·obtain⟨j,hj⟩:=List.mem_iff_getElem?.1 (List.mem_of_mem_drop hm);exact hcl j x hj
  ·have holds:∀ j u,(Lib.byteCells L)[j]?=some u->w.cell? ((⟨g,0,none⟩:Addr).add j)=some u:=World.ownsRow.cells hown (g:=g) rfl;have hr':=run_append_grow (P:=Tryz.prog) w 47 ty 5 i0 (.int .u8 0) Tryz.underlying47 hi hz0 ⟨g,0,none⟩ L.length cap (Lib.byteCells L) (by rw[hz1];exact hown.1) holds a 1 c [.int .u8 y] (by rw[hz1];rfl) hnw (by omega) (by omega) (by rw[hz2];exact growslice_fits (by omega) (by omega));rw[hr] at hr';injection hr' with hv hw
   subst hv;subst hw;intro g' hg';simp only[Value.ownBlock,Option.some.injEq] at hg';subst hg';exact⟨_,Blk.new w.drew _ _,zGy (zGy hxs (zKC y)) (fun i x=>zLl _ i x)⟩
theorem zFS{o:Oper}{a:Act}{w:World}{K:Act->World->Prop}{Q:Exit->Act->World->Prop}(s x:Operand)
  (ho:o.op=.call { callee:=.builtin .append,args:=#[s,x],argTypes:=#[47,47] }) (base:Nat) (v:Value) (L:List UInt8) (hs:a.eval s=v) (hown:Own base w v L) (hN:NoU w v)
  (ad:Addr) (c:Nat) (y:Int) (hx:a.eval x=.slice (some ad) 1 c) (hnews:w.cell? (ad.add 0)=some (.int .u8 y)) (hn:L.length+1<=140737488355328) (hbase:base<=w.heap.size)
  (h:∀ v' w',w'.ownsRow base 5 1 v' (L.length+1) (Lib.byteCells L ++ [.int .u8 y])->w.grownBy w' v.ownBlock->NoU w' v'->K (a.put o.dst v') w'):o.wp Tryz.prog a w K Q:=by
 obtain⟨v',w',hr,h2,h3,h4⟩:=zKO w base v L hown hN ad c y hnews hn hbase o.type;unfold Oper.wp execOp;simp only[ho,resolve,invoke,builtin,Sem.run_bind,Sem.run_pure,Result.andThen_ok,List.map_toArray,List.map_cons,List.map_nil,hs,hx,hr];exact h v' w' h2 h3 h4
theorem zAJ{ops:Array Oper}{rest:List Oper}{o:Oper}{a:Act}{w:World}{Q:Exit->Act->World->Prop}(hgd:o.guard=none)(s x:Operand)
  (ho:o.op=.call { callee:=.builtin .append,args:=#[s,x],argTypes:=#[47,47] }) (base:Nat) (v:Value) (L:List UInt8) (hs:a.eval s=v) (hown:Own base w v L) (hN:NoU w v)
  (ad:Addr) (c:Nat) (y:Int) (hx:a.eval x=.slice (some ad) 1 c) (hnews:w.cell? (ad.add 0)=some (.int .u8 y)) (hn:L.length+1<=140737488355328) (hbase:base<=w.heap.size)
  (h:∀ v' w',w'.ownsRow base 5 1 v' (L.length+1) (Lib.byteCells L ++ [.int .u8 y])->w.grownBy w' v.ownBlock->NoU w' v'->wpList Tryz.prog ops Q rest (a.put o.dst v') w'):wpList Tryz.prog ops Q (o :: rest) a w:=
 wpList_plain hgd fun _ hK=>zFS s x ho base v L hs hown hN ad c y hx hnews hn hbase fun v' w' h2 h3 h4=>hK _ _ (h v' w' h2 h3 h4)
theorem Rt.grown{w w':World}{R n d l h B:Nat}{ev:Bool}{v:Value}{L:List UInt8}(hr:Rt w R n d l h ev)(ho:Own B w v L)(hN:NoU w v)(hR:R<B)(hg:w.grownBy w' v.ownBlock):Rt w' R n d l h ev:=by
 have hE:∀ g,v.ownBlock=some g->Ex (fun k=>k=g) w.heap.size w w':=fun g e=>⟨hg.os,hg.tape,hg.output,hg.size,fun k hk hs=>hg.block k hk (fun e'=>by rw[e] at e';exact hs (Option.some.inj e'))⟩
 cases hb:v.ownBlock with
 | none=>
  refine hr.below ⟨hg.os,hg.tape,hg.output,hg.size,fun k hk=>hg.block k hk (by rw[hb];simp)⟩
 | some g=>
  obtain⟨cur,h1,h2⟩:=hN g hb;have he:=hE g hb
  have hgB:B<=g:=by
   obtain⟨_,⟨rfl,_⟩|⟨g',cap,c,rfl,hB,_⟩⟩:=ho
   ·simp[Value.ownBlock] at hb
   ·simp only[Value.ownBlock,Option.some.injEq] at hb;omega
  obtain⟨vn,vd,vl,vh,k1,k2,k3,k4,k5⟩:=hr;exact⟨vn,vd,vl,vh,he.blk k1 k1.lt (by omega),zAf.ex k2 h1 h2 he,zAf.ex k3 h1 h2 he,zAf.ex k4 h1 h2 he,zAf.ex k5 h1 h2 he⟩
end Go.Proofs.YtcanfakaigpkgaaGreatDoor.D
