/-
  Of the proof that the law DiagUnlike answers true at every two values: a part, without conditions of its own.
-/
import Derived.Test.YtcanfakaigpkgaaGreatDoorPart42
import Derived.Maps.OwnSet
import Derived.StringKeys
import Derived.WalkArith
import Derived.Test.YtcanfakaigpkgaaGreatDoorPart41
set_option linter.unusedVariables false
set_option linter.unusedSimpArgs false
set_option maxRecDepth 100000
set_option maxHeartbeats 8000000
namespace Go.Proofs.YtcanfakaigpkgaaGreatDoor.D
open Go Go.RowKit Limb
attribute [local go_sem high] zAI zAg zBv zAz
def zM8(w:World)(b:Nat):Prop:=w.ownsMap (H:=Unit) Tryz.prog 9 (plainElem Tryz.prog 3) b 0 (.map [])
theorem zM8.same{w w':World}{b:Nat}(h:zM8 w b)(hs:w'.heap[b]?=w.heap[b]?):zM8 w' b:=by
 obtain⟨es,clock,hb,r⟩:=h;exact⟨es,clock,by rw[hs];exact hb,r⟩
theorem zBO.blk{w w':World}{b o m:Nat}{xs:Nat->Array Value}(h:zBO w b o m xs)(hs:w'.heap[b]?=w.heap[b]?):zBO w' b o m xs:=fun i hi=>
 ⟨(h i hi).1,fun j hj=>by rw[World.cell?_of_block (w:=w) (a:=⟨b,o+i*8+j,none⟩) hs];exact (h i hi).2 j hj⟩
theorem zM8.lt{w:World}{b:Nat}(h:zM8 w b):b<w.heap.size:=World.ownsMap.lt h
theorem zKr(S:List UInt8)(a ar p0 q0 c0 p1 q1 r1:Nat)(fs:Nat->F)(ds:Nat->Nat)(op0 op1:Bool)(d:Nat)(ha:a<S.length)(hS:S.length<=1099511627776)(hB0:Btw S (a+1) p0)(hp0:p0<S.length)(hne:S.getD p0 0≠125)(hR0:zCn S p0 q0 ar (fs 0) (ds 0) op0)(hB1:Btw S q0 c0)(hc0:c0<S.length)(hcc:S.getD c0 0=58)(hB2:Btw S (c0+1) p1)(hR1:zCn S p1 q1 ar (fs 1) (ds 1) op1)(hB3:Btw S q1 r1)(hr1:r1<S.length)(hrr:S.getD r1 0=125)(ht0:(fs 0).txt≠[])(htl:(fs 0).txt.length<=1099511627776)(hd:∀ i,i<2->ds i<d)(hd1:∃ i,i<2/\ds i+1=d)(hd2:d<=128):
  zId 61 [.int .i64 (ar:Int)] S a (r1+1) (.node ([123] ++ zAF [58,32] [44,32] 2 fs 2 ++ [125]) 0 fs) d false false:=by
 obtain⟨T,hTT⟩:∃ T,T=[123] ++ zAF [58,32] [44,32] 2 fs 2 ++ [125]:=⟨_,rfl⟩;rw[<-hTT];have HTT:=zz hTT;have HD:=zz hd;have HD1:=zz hd1;have HRD0:=zz hR0;have HRD1:=zz hR1;have HBT1:=zz hB1;have HBT2:=zz hB2;have HBT3:=zz hB3;have HCC:=zz hcc;have HRR:=zz hrr;have HTX:=zz ht0;clear hTT hd hd1 hR0 hR1 hB1 hB2 hB3 hcc hrr ht0;have HB0:=zz hB0;have HNE:=zz hne;clear hB0 hne;intro w p hG hp hr;have hmm:=@run_makeMap Tryz.prog;obtain⟨wa,hwa⟩:∃ wa,wa=w.alloc (.cells zAr 31):=⟨_,rfl⟩;obtain⟨w1,hw1⟩:∃ w1,w1=wa.alloc (.map #[] 0):=⟨_,rfl⟩;have hb0:Below w.heap.size w wa:=by rw[hwa];exact (zK _ _).alloc (zQ _) _
 have hX:Blk wa w.heap.size zAr 31:=by rw[hwa];exact Blk.new _ _ _
 have hb1:Below wa.heap.size wa w1:=by rw[hw1];exact (zK _ _).alloc (zQ _) _
 have hs0:wa.heap.size=w.heap.size+1:=by rw[hwa];simp
 have hs1:w1.heap.size=w.heap.size+2:=by rw[hw1];simp;omega
 have hM1:zM8 w1 (w.heap.size+1):=by rw[hw1,<-hs0];exact World.ownsMap_made _ _ _ _
 have hpw:p<w.heap.size:=Blk.lt hr;have hpX:w.heap.size≠p:=by omega
 have hpM:¬ (w.heap.size+1=p):=by omega
 have hr1':Rd w1 p S a false:=Blk.below (Blk.below hr hb0 hpw) hb1 (by omega);have hX1:=hX.below hb1 (by omega);have hE1:Ex (fun k=>k=p) w.heap.size w w1:=Ex.of_below (hb0.trans (hb1.mono (by omega)));have c1:=hr1'.at1;have f1:w1.frozen? ⟨p,1,none⟩=false:=Blk.free hr1' 1;obtain⟨a',ha'⟩:∃ a',a'=a+1:=⟨_,rfl⟩;have g3:IntKind.i64.wrap ((a:Int)+1)=(a':Int):=by rw[zY _ (by omega),ha'];simp
 have HR2:Hid (Rd (w1.setCell ⟨p,1,none⟩ (.int .i64 (a':Int))) p S a' false):=zz (hr1'.set1 a');have HX2:=zz (hX1.set_other ⟨p,1,none⟩ (.int .i64 (a':Int)) hpX);have HM2:=zz (hM1.same (w':=w1.setCell ⟨p,1,none⟩ (.int .i64 (a':Int))) (Below.heap_setCell _ _ _ _ (by show w.heap.size+1≠p;omega)));have HE2:=zz (hE1.setCell p 1 (.inl rfl) (.int .i64 (a':Int)));have HB1':Hid (Btw S a' p0):=zz (by rw[ha'];exact HB0.out);have HG:=zz hG;have HWA:=zz hwa;have HW1:=zz hw1;clear hG hwa hw1 hb0 hb1 hX hr hr1' hX1 hE1 hM1 ha' hs0 hs1;show Calls _ _ #[_,_] _ _;go_enter Tryz.func61,Tryz.ntmps61
 go_upto_region 3 with fail
 change Code.wp _ _ _ _ ((w.alloc (.cells zAr 31)).alloc (.map #[] 0));rw[<-HWA.out,<-HW1.out];go_upto_region 4 with fail
 clear c1 f1 g3;generalize w1.setCell ⟨p,1,none⟩ (.int .i64 (a':Int))=w2 at HR2 HX2 HM2 HE2 ⊢;go_wp2_with fail
 refine (HB1'.out.call hS w2 p false HR2.out).mono ?_;rintro e w3 ⟨rfl,hr3⟩;have HR3:Hid (Rd w3 p S p0 false):=zz hr3.1;have HX3:=zz (hr3.2.blk HX2.out HX2.out.lt hpX);have HM3:=zz (HM2.out.same (hr3.2.block _ HM2.out.lt hpM));have HE3:=zz (HE2.out.trans (hr3.2.mono (Nat.le_of_lt HX2.out.lt) (fun _ h=>h)));clear hr3;clear HR2 HX2 HM2 HE2;clear HWA HW1 HB1' hmm;go_wp2_with fail
 go_loopw [5,7,8,9,10,11] (fun ks _ _ _ _ _ wr=>ks=.slice none 0 0/\wr=w3) (fun _ _ _ _ _ _ _=>0)
 case atStart=>exact⟨rfl,rfl⟩
 case round=>
  obtain⟨rfl,rfl⟩:=hrel;go_wp2_with fail
  refine (zAT wr p S p0 false HR3.out [125] (fun _=>by simpa using HNE.out)).mono ?_;rintro e w4 ⟨rfl,n4,rfl⟩;have HR4:=zz (HR3.out.drewN n4);have HX4:=zz (HX3.out.drewN n4);have HM4:Hid (zM8 (wr.drewN n4) (w.heap.size+1)):=zz HM3.out;have HE4:=zz (HE3.out.drewN n4);generalize wr.drewN n4=w4 at HR4 HX4 HM4 HE4 ⊢;clear HR3 HX3 HM3 HE3;have c1:=HR4.out.at1;have hg4:GW w4:=HG.out.ex HE4.out hp;have HG4:=zz hg4;clear hg4;have HQ:=zz (HRD0.out false w4 p HG4.out hp HR4.out);go_wp2_with fail
  clear c1;refine HQ.out.mono ?_;rintro e w5 ⟨hr5,v5,rfl,hT5⟩;obtain⟨k1,k2,k3,k4,k5,k6,k7,k8,k9,k10,k11,rfl⟩:=hT5.row;have h45:w4.heap.size<=w5.heap.size:=hr5.2.size;have hsm:w.heap.size+1<w4.heap.size:=HM4.out.lt;have HR5:Hid (Rd w5 p S q0 op0):=zz hr5.1;have HX5:=zz (hr5.2.blk HX4.out HX4.out.lt hpX);have HM5:=zz (HM4.out.same (hr5.2.block _ HM4.out.lt hpM));have HE5:=zz (HE4.out.trans (hr5.2.mono (Nat.le_of_lt HX4.out.lt) (fun _ h=>h)));obtain⟨w6,hw6⟩:∃ w6,w6=w5.alloc (.cells (zAa k1 k2 false (.slice k3 k4 k5) k6 k7 (zAc k8) (.slice k9 k10 k11)) 31):=⟨_,rfl⟩;obtain⟨w7,hw7⟩:∃ w7,w7=w6.alloc (.cells #[.pointer none,.slice none 0 0,.int .i64 1152921504606846976] 51):=⟨_,rfl⟩;have hb6:Below w5.heap.size w5 w6:=by rw[hw6];exact (zK _ _).alloc (zQ _) _
  have hb7:Below w6.heap.size w6 w7:=by rw[hw7];exact (zK _ _).alloc (zQ _) _
  have hs6:w6.heap.size=w5.heap.size+1:=by rw[hw6];simp
  have hk6:Blk w6 w5.heap.size (zAa k1 k2 false (.slice k3 k4 k5) k6 k7 (zAc k8) (.slice k9 k10 k11)) 31:=by rw[hw6];exact Blk.new _ _ _
  obtain⟨W,hW⟩:∃ W,W=w6.heap.size:=⟨_,rfl⟩
  have hWr:Wr W W 1152921504606846976 [] w7:=by
   rw[hW,hw7];exact .inl ⟨zQ _,_,Blk.new _ _ _,World.ownsRow_nil _ _ _ _,by simp[Value.ownBlock]⟩
  have hpK:w5.heap.size≠p:=by omega
  have HKb:=zz (hk6.below hb7 hk6.lt)
  have hT7:zAm w7 (fun k=>w.heap.size+1<k/\k<W) (fs 0) (ds 0) (.agg (zAa k1 k2 false (.slice k3 k4 k5) k6 k7 (zAc k8) (.slice k9 k10 k11))):=zAm.same (fun k _ hl=>(hb7.block k (by omega)).trans (hb6.block k hl)) (fun k hk hl=>by
   have hk':w4.heap.size<=k:=hk;exact⟨by omega,by omega⟩) _ _ _ hT5
  have HR6:Hid (Rd w6 p S q0 op0):=zz (Blk.below HR5.out hb6 (Blk.lt HR5.out));have HX6:=zz (HX5.out.below hb6 HX5.out.lt);have HM6:=zz (HM5.out.same (hb6.block _ HM5.out.lt));have HE6:=zz (HE5.out.trans (Ex.of_below (hb6.mono (Nat.le_of_lt HX5.out.lt))));have HR7:Hid (Rd w7 p S q0 op0):=zz (Blk.below HR6.out hb7 (Blk.lt HR6.out));have HX7:=zz (HX6.out.below hb7 HX6.out.lt);have HM7:=zz (HM6.out.same (hb7.block _ HM6.out.lt));have HE7:=zz (HE6.out.trans (Ex.of_below (hb7.mono (Nat.le_of_lt HX6.out.lt))));obtain⟨Z,hZ⟩:∃ Z,Z=w5.heap.size:=⟨_,rfl⟩;have hZW:Z<W:=by omega
  have hZX:w.heap.size+1<Z:=by omega
  have hs7:W<w7.heap.size:=hWr.lt;rw[<-hZ] at HKb hpK;have HK7:Hid (Blk w7 Z (zAa k1 k2 false (.slice k3 k4 k5) k6 k7 (zAc k8) (.slice k9 k10 k11)) 31):=HKb;have HT7:=zz hT7;have HWr:=zz hWr;have HW6:=zz hw6;have HW7:=zz hw7;have HZ:=zz hZ;have HWW:=zz hW;have HS6:Hid (w5.heap.size+1=W):=zz (by omega);clear HKb hr5 hT5 hb6 hb7 hs6 hk6 hT7 hWr hw6 hw7 hZ hW HQ h45 HG4;clear HR4 HX4 HM4 HE4 HR5 HX5 HM5 HE5 HR6 HX6 HM6 HE6;simp only[zAa];go_upto_region 9 with fail
  change Code.wp _ _ _ _ ((w5.alloc (.cells (zAa k1 k2 false (.slice k3 k4 k5) k6 k7 (zAc k8) (.slice k9 k10 k11)) 31)).alloc (.cells #[.pointer none,.slice none 0 0,.int .i64 1152921504606846976] 51));rw[<-HW6.out,<-HW7.out,HS6.out,<-HZ.out];clear HW6 HW7 HZ HWW HS6;have HTR:=zz (zAm.toN (N:=W) (fun b hb _=>hb.2) _ _ _ HT7.out);have HQ:=zz (zEX 1152921504606846976 (fs 0) (ds 0) _ w7 W W W [] (zQ _) (Nat.le_of_lt hs7) (by have:=HG.out.size;omega) (HG.out.ex HE7.out hp) HTR.out HWr.out (by rw[List.nil_append];omega) (by rw[List.nil_append];omega));rw[List.nil_append] at HQ;clear HTR;refine wp_region_lit ?_;iterate 3 go_step
  refine wpList_load_row rfl 31 _ rfl Z rfl 31 _ (0,0) _ HK7.out Tryz.underlying31 rfl (by kernel_rfl) ?_;go_wp2_with fail
  refine HQ.out.mono ?_;rintro e w8 ⟨rfl,hw8,hk8⟩;have hs8:w7.heap.size<=w8.heap.size:=hk8.2.1;have HR8:Hid (Rd w8 p S q0 op0):=zz (Blk.below HR7.out hk8.1 (by omega));have HX8:=zz (HX7.out.below hk8.1 (by omega));have HM8:=zz (HM7.out.same (hk8.1.block _ (by omega)));have HE8:=zz (HE7.out.trans (Ex.of_below (hk8.1.mono (by omega))));have HK8:=zz (HK7.out.below hk8.1 (by omega));have HT8:=zz (zAm.same (w':=w8) (fun k hk _=>hk8.1.block k hk.2) (fun _ h _=>h) _ _ _ HT7.out);have HH8:=zz (BIs.has hw8 HTX.out);clear HR7 HX7 HM7 HE7 HK7 HT7 HWr HQ hw8 hk8;have HSTR:=zz (zBg W W (fs 0).txt w8 HH8.out);clear HH8;go_wp2_with fail
  refine HSTR.out.mono ?_;rintro e w9 ⟨rfl,hh9,hb9⟩;have hs9:W<w9.heap.size:=by have:=hb9.size;omega
  have HR9:Hid (Rd w9 p S q0 op0):=zz (Blk.below HR8.out hb9 (by omega));have HX9:=zz (HX8.out.below hb9 (by omega));have HM9:=zz (HM8.out.same (hb9.block _ (by omega)));have HE9:=zz (HE8.out.trans (Ex.of_below (hb9.mono (by omega))));have HK9:=zz (HK8.out.below hb9 (by omega));have HT9:=zz (zAm.same (w':=w9) (fun k hk _=>hb9.block k hk.2) (fun _ h _=>h) _ _ _ HT8.out);have HH9:=zz hh9;clear HR8 HX8 HM8 HE8 HK8 HT8 HSTR hh9 hb9;have hkey:keyOf Tryz.prog 9 (.string (zAc (fs 0).txt))=some (.string (zAc (fs 0).txt).data.toList):=WideMaps.keyOf_string_mk Tryz.underlying9 (by unfold maxLen;rw[zAg];omega);have hze:∀ w,(zeroValue 3).run Tryz.prog w=.ok (.int .i64 0) w:=fun w=>by kernel_rfl
  have hhas:Maps.has (.map []:DataW Unit) (.string (zAc (fs 0).txt).data.toList)=false:=rfl;have HKEY:=zz hkey;have HZE:=zz hze;have HHAS:=zz hhas;clear hkey hze hhas;go_wp2_with (at_lookup;refine wpList_lookup_own_ok_int _ rfl _ _ 148 rfl 9 3 .i64 (Maps.string_keyed Tryz.underlying9) Tryz.underlying148 Tryz.underlying3 (HZE.out _) (w.heap.size+1) 0 (.map []:DataW Unit) rfl HM9.out _ _ rfl HKEY.out ?_;intro c hat hwc;rw[HHAS.out])
  go_quiet (fail)
  clear hat hwc HHAS HZE;have HR10:=zz (HR9.out.drewN nq);have HX10:=zz (HX9.out.drewN nq);have HM10:Hid (zM8 (w9.drewN nq) (w.heap.size+1)):=zz HM9.out;have HE10:=zz (HE9.out.drewN nq);have HK10:=zz (HK9.out.drewN nq);have HT10:=zz (zAm.same (w:=w9) (w':=w9.drewN nq) (fun _ _ _=>rfl) (fun _ h _=>h) _ _ _ HT9.out);have HH10:Hid (zMc W W (fs 0).txt (w9.drewN nq)):=zz HH9.out;have hs10:W<(w9.drewN nq).heap.size:=hs9;generalize w9.drewN nq=w10 at HR10 HX10 HM10 HE10 HK10 HT10 HH10 hs10 ⊢;clear HR9 HX9 HM9 HE9 HK9 HT9 HH9;have HSTR:=zz (zBg W W (fs 0).txt w10 HH10.out);clear HH10;go_wp2_with fail
  refine HSTR.out.mono ?_;rintro e w11 ⟨rfl,_,hb11⟩;have hs11:W<w11.heap.size:=by have:=hb11.size;omega
  have HR11:Hid (Rd w11 p S q0 op0):=zz (Blk.below HR10.out hb11 (by omega));have HX11:=zz (HX10.out.below hb11 (by omega));have HM11:=zz (HM10.out.same (hb11.block _ (by omega)));have HE11:=zz (HE10.out.trans (Ex.of_below (hb11.mono (by omega))));have HK11:=zz (HK10.out.below hb11 (by omega));have HT11:=zz (zAm.same (w':=w11) (fun k hk _=>hb11.block k hk.2) (fun _ h _=>h) _ _ _ HT10.out);clear HR10 HX10 HM10 HE10 HK10 HT10 HSTR hb11;go_wp2_with (at_mapUpdate;refine wpList_mapUpdate_own _ rfl _ _ _ 148 rfl 9 3 (Maps.string_keyed Tryz.underlying9) Tryz.underlying148 _ (w.heap.size+1) 0 (.map []:DataW Unit) rfl HM11.out (by unfold maxLen;omega) _ _ _ rfl rfl HKEY.out _ [] (plainElem_int Tryz.underlying3 (WalkArith.wf_i64 (by omega))) ?_;intro w12 hown12 hg12)
  have hs12:W<w12.heap.size:=by have:=hg12.size;omega
  have HR12:Hid (Rd w12 p S q0 op0):=zz (by have h:=HR11.out;unfold Rd Blk at h ⊢;rw[hg12.block _ (Blk.lt HR11.out) (by simp;omega)];exact h);have HX12:Hid (Blk w12 _ _ _):=zz (by have h:=HX11.out;unfold Blk at h ⊢;rw[hg12.block _ (Blk.lt HX11.out) (by simp;try omega)];exact h);have HE12:=zz (HE11.out.trans ⟨hg12.os,hg12.tape,hg12.output,hg12.size,fun k hk _=>hg12.block k (by have:=HX11.out.lt;omega) (by simp;omega)⟩);have HK12:Hid (Blk w12 _ _ _):=zz (by have h:=HK11.out;unfold Blk at h ⊢;rw[hg12.block _ (Blk.lt HK11.out) (by simp;try omega)];exact h);have HT12:=zz (zAm.same (w':=w12) (fun k hk hl=>hg12.block k hl (by have:=hk.1;simp;omega)) (fun _ h _=>h) _ _ _ HT11.out);clear HR11 HX11 HM11 HE11 HK11 HT11 hown12 hg12 HKEY;go_wp2_with fail
  refine (HBT1.out.call hS w12 p op0 HR12.out).mono ?_;rintro e w13 ⟨rfl,hr13⟩;have HR13:Hid (Rd w13 p S c0 op0):=zz hr13.1;have HX13:=zz (hr13.2.blk HX12.out HX12.out.lt hpX);have HE13:=zz (HE12.out.trans (hr13.2.mono (Nat.le_of_lt HX12.out.lt) (fun _ h=>h)));have HK13:=zz (hr13.2.blk HK12.out HK12.out.lt hpK);have HT13:=zz (zAm.same (w':=w13) (fun k hk hl=>hr13.2.block k hl (fun e=>by have:=hk.1;omega)) (fun _ h _=>h) _ _ _ HT12.out);clear hr13;clear HR12 HX12 HE12 HK12 HT12;go_wp2_with fail
  refine (zDL w13 p S c0 op0 HR13.out [58] (by show c0+1<=S.length;omega) hS (fun i hi=>by have h0:i=0:=(by simpa using hi);subst h0;exact HCC.out)).mono ?_;rintro e w14 ⟨rfl,hr14⟩;have HR14:Hid (Rd w14 p S (c0+1) op0):=zz hr14.1;have HX14:=zz (hr14.2.blk HX13.out HX13.out.lt hpX);have HE14:=zz (HE13.out.trans (hr14.2.mono (Nat.le_of_lt HX13.out.lt) (fun _ h=>h)));have HK14:=zz (hr14.2.blk HK13.out HK13.out.lt hpK);have HT14:=zz (zAm.same (w':=w14) (fun k hk hl=>hr14.2.block k hl (fun e=>by have:=hk.1;omega)) (fun _ h _=>h) _ _ _ HT13.out);clear hr14;clear HR13 HX13 HE13 HK13 HT13;go_wp2_with fail
  refine (HBT2.out.call hS w14 p op0 HR14.out).mono ?_;rintro e w15 ⟨rfl,hr15⟩;have HR15:Hid (Rd w15 p S p1 op0):=zz hr15.1;have HX15:=zz (hr15.2.blk HX14.out HX14.out.lt hpX);have HE15:=zz (HE14.out.trans (hr15.2.mono (Nat.le_of_lt HX14.out.lt) (fun _ h=>h)));have HK15:=zz (hr15.2.blk HK14.out HK14.out.lt hpK);have HT15:=zz (zAm.same (w':=w15) (fun k hk hl=>hr15.2.block k hl (fun e=>by have:=hk.1;omega)) (fun _ h _=>h) _ _ _ HT14.out);clear hr15;clear HR14 HX14 HE14 HK14 HT14;go_upto_region 17 with fail
  have hG15:GW w15.drew:=HG.out.ex (p:=p) (HE15.out.drewN 1) hp;have HG15:=zz hG15;clear hG15;refine wp_region_noPanic ?_;refine wp_region_held_drew (S:=fun w'=>Blk w' Z (zAa k1 k2 false (.slice k3 k4 k5) k6 k7 (zAc k8) (.slice k9 k10 k11)) 31) (by kernel_rfl) (HK15.out.drewN 1) (fun hH=>?_);refine zAy (d:=some 88) (hd:=by rfl) (i:=0) (oi:=_) (v:=.slice none 0 0) rfl (by kernel_rfl) (by kernel_rfl) (by kernel_rfl) (fun _ _ _ h=>h) (Or.inl ⟨by rfl,fun w' hSw=>?_⟩) hH ?_
  ·clear hH hSw;go_simp
  try simp only[Act.put,zy,zq,zj]
  refine zAy (d:=some 89) (hd:=by rfl) (i:=1) (oi:=_) (v:=.agg (zAa k1 k2 false (.slice k3 k4 k5) k6 k7 (zAc k8) (.slice k9 k10 k11))) rfl (by kernel_rfl) (by kernel_rfl) (by kernel_rfl) (fun _ _ _ h=>h) (Or.inl ⟨by rfl,fun w' hSw=>?_⟩) hH ?_
  ·have d0:=hSw.cell 0;have d1:=hSw.cell 1;have d2:=hSw.cell 2;have d3:=hSw.cell 3;have d4:=hSw.cell 4;have d5:=hSw.cell 5;have d6:=hSw.cell 6;have d7:=hSw.cell 7;simp only[zAa,zv,zk,zx] at d0 d1 d2 d3 d4 d5 d6 d7;clear hH hSw;go_simp;rfl
  try simp only[Act.put,zy,zq,zj]
  refine zAy (d:=some 90) (hd:=by rfl) (i:=2) (oi:=_) (v:=.pointer (some ⟨p,0,none⟩)) rfl (by kernel_rfl) (by kernel_rfl) (by kernel_rfl) (fun _ _ _ h=>h) (Or.inl ⟨by rfl,fun w' hSw=>?_⟩) hH ?_
  ·clear hH hSw;go_simp
  try simp only[Act.put,zy,zq,zj]
  refine zAy (d:=some 91) (hd:=by rfl) (i:=3) (oi:=_) (v:=.int .i64 (ar:Int)) rfl (by kernel_rfl) (by kernel_rfl) (by kernel_rfl) (fun _ _ _ h=>h) (Or.inl ⟨by rfl,fun w' hSw=>?_⟩) hH ?_
  ·clear hH hSw;go_simp
  try simp only[Act.put,zy,zq,zj]
  refine wpAnyH_ready (rs:=[4]) (by kernel_rfl) (by simp) ?_;refine AllReadyH.cons (o:=_) rfl (fun K hK=>?_) AllReadyH.nil;go_simp;refine (HRD1.out op0 w15.drew p HG15.out hp (HR15.out.drewN 1)).mono ?_;rintro e w16 ⟨hr16,v16,rfl,hT16⟩;obtain⟨j1,j2,j3,j4,j5,j6,j7,j8,j9,j10,j11,rfl⟩:=hT16.row;simp only[zAa];go_wp2_with fail
  have h1516:w15.heap.size<=w16.heap.size:=hr16.2.size;have hX16:=hr16.2.blk (HX15.out.drewN 1) (by show w.heap.size<w15.heap.size;exact HX15.out.lt) hpX;have hK16:=hr16.2.blk (HK15.out.drewN 1) (by show Z<w15.heap.size;exact HK15.out.lt) hpK;have hE16:=(HE15.out.drewN 1).trans (hr16.2.mono (by show w.heap.size<=w15.heap.size;have:=HX15.out.lt;omega) (fun _ h=>h));have hT0:=zAm.same (w:=w15) (w':=w16) (Q:=fun k=>w.heap.size+1<k/\k<W) (fun k hk hl=>hr16.2.block k hl (fun e=>by have:=hk.1;omega)) (fun _ h _=>h) _ _ _ HT15.out;refine hK.out _ _ hK16 (fun hH=>?_);clear hK K
  try simp only[Act.put,zy,zq,zj]
  refine wpAnyH_ready (rs:=[5]) (by kernel_rfl) (by simp) ?_;refine AllReadyH.cons (o:=_) rfl (fun K hK=>?_) AllReadyH.nil;have hal:Below w16.heap.size w16 (w16.alloc (.cells #[.int .i8 k1,.int .u64 k2,.bool false,.slice k3 k4 k5,.int .u64 k6,.int .i8 k7,.string (zAc k8),.slice k9 k10 k11,.int .i8 j1,.int .u64 j2,.bool false,.slice j3 j4 j5,.int .u64 j6,.int .i8 j7,.string (zAc j8),.slice j9 j10 j11] 31)):=(zK _ _).alloc (zQ _) _;have hnw:=Blk.new w16 #[.int .i8 k1,.int .u64 k2,.bool false,.slice k3 k4 k5,.int .u64 k6,.int .i8 k7,.string (zAc k8),.slice k9 k10 k11,.int .i8 j1,.int .u64 j2,.bool false,.slice j3 j4 j5,.int .u64 j6,.int .i8 j7,.string (zAc j8),.slice j9 j10 j11] 31;go_simp;refine hK.out _ _ (hH.below hal hH.lt) (fun hH=>?_);clear hK K
  try simp only[Act.put,zy,zq,zj]
  refine wpAnyH_ready (rs:=[6]) (by kernel_rfl) (by simp) ?_;refine AllReadyH.cons (o:=_) rfl (fun K hK=>?_) AllReadyH.nil;rw[if_pos (by rfl)];have hone0:(#[.int .i8 k1,.int .u64 k2,.bool false,.slice k3 k4 k5,.int .u64 k6,.int .i8 k7,.string (zAc k8),.slice k9 k10 k11]:Array Value).all (·.oneCell')=true:=zAo k1 k2 false (.slice k3 k4 k5) k6 k7 (zAc k8) (.slice k9 k10 k11) rfl rfl;have hone1:(#[.int .i8 j1,.int .u64 j2,.bool false,.slice j3 j4 j5,.int .u64 j6,.int .i8 j7,.string (zAc j8),.slice j9 j10 j11]:Array Value).all (·.oneCell')=true:=zAo j1 j2 false (.slice j3 j4 j5) j6 j7 (zAc j8) (.slice j9 j10 j11) rfl rfl;refine zB7 (.tmp 88) (.tmp 93) rfl w16.heap.size (.slice none 0 0) 0 [] rfl (World.ownsRow_nil _ _ _ _) ⟨w16.heap.size,0,none⟩ 2 2 (by omega) ((#[.int .i8 k1,.int .u64 k2,.bool false,.slice k3 k4 k5,.int .u64 k6,.int .i8 k7,.string (zAc k8),.slice k9 k10 k11]:Array Value).toList ++ (#[.int .i8 j1,.int .u64 j2,.bool false,.slice j3 j4 j5,.int .u64 j6,.int .i8 j7,.string (zAc j8),.slice j9 j10 j11]:Array Value).toList) rfl rfl ?c1 ?c2 (by omega) ?c5 ?_
  case c1=>
   intro j u hj;rw[zA1,Nat.zero_add,hnw.cell j]
   simpa using hj
  case c2=>
   intro u hu;rw[Array.all_eq_true_iff_forall_mem] at hone0 hone1;rw[List.mem_append] at hu;rcases hu with hu|hu
   ·exact hone0 u (by simpa using hu)
   ·exact hone1 u (by simpa using hu)
  case c5=>simp
  intro v18 w18 hown18 hgrow18 _;have hb18:Below w16.heap.size w16 w18:=hal.trans ⟨hgrow18.os,hgrow18.tape,hgrow18.output,hgrow18.size,fun k hk=>hgrow18.block k (by simp;omega) (fun e=>by simp[Value.ownBlock] at e)⟩;rw[List.nil_append] at hown18;obtain⟨g18,cp18,rfl,hg18,hgl18,hv18⟩:=zMP hown18 rfl rfl;have HR18:Hid (Rd w18 p S q1 op1):=zz (Blk.below hr16.1 hb18 (Blk.lt hr16.1));have HX18:=zz (hX16.below hb18 hX16.lt);have HE18:=zz (hE16.trans (Ex.of_below (hb18.mono (Nat.le_of_lt hX16.lt))));have hlx16:=hX16.lt;have h1617:w16.heap.size<=w18.heap.size:=hb18.size;have HTA:Hid (zAm w18 (fun k=>w.heap.size+1<k) (fs 0) (ds 0) (.agg #[.int .i8 k1,.int .u64 k2,.bool false,.slice k3 k4 k5,.int .u64 k6,.int .i8 k7,.string (zAc k8),.slice k9 k10 k11])):=zz (zAm.same (fun k _ hl=>hb18.block k hl) (fun k hk _=>hk.1) _ _ _ hT0);have hzw:w.heap.size+1<w15.heap.size:=by have:=HK15.out.lt;omega
  have HTB:Hid (zAm w18 (fun k=>w.heap.size+1<k) (fs 1) (ds 1) (.agg #[.int .i8 j1,.int .u64 j2,.bool false,.slice j3 j4 j5,.int .u64 j6,.int .i8 j7,.string (zAc j8),.slice j9 j10 j11])):=zz (zAm.same (fun k _ hl=>hb18.block k hl) (fun k hk _=>by
   have hk':w15.heap.size<=k:=hk;omega) _ _ _ hT16)
  have HV18:=zz hv18;have hS18:Blk w18 Z (zAa k1 k2 false (.slice k3 k4 k5) k6 k7 (zAc k8) (.slice k9 k10 k11)) 31:=hK16.below hb18 hK16.lt;have hgX:w.heap.size+1<g18:=by omega
  refine hK.out _ _ hS18 (fun hH=>?_);clear hK K
  try simp only[Act.put,zy,zq,zj]
  refine zAy (d:=some 5) (hd:=by rfl) (i:=7) (oi:=_) (v:=.slice (some ⟨g18,0,none⟩) 2 cp18) rfl (by kernel_rfl) (by kernel_rfl) (by kernel_rfl) (fun _ _ _ h=>h) (Or.inl ⟨by rfl,fun w' hSw=>?_⟩) hH ?_
  ·clear hH hSw;go_simp
  try simp only[Act.put,zy,zq,zj]
  refine wpAnyH_done (by kernel_rfl) ?_ _;refine NoPanic.normal ?_;clear hH hown18 hgrow18 hal hnw hone0 hone1 hr16 hX16 hK16 hE16 hT0 hT16 hS18 hb18 hv18;clear HR15 HX15 HE15 HK15 HT15 HG15;go_wp2_with fail
  refine (HBT3.out.call hS w18 p op1 HR18.out).mono ?_;rintro e w19 ⟨rfl,hr19⟩;have HX19:=zz (hr19.2.blk HX18.out HX18.out.lt hpX);have HE19:=zz (HE18.out.trans (hr19.2.mono (Nat.le_of_lt HX18.out.lt) (fun _ h=>h)));have HTA19:=zz (zAm.same (w':=w19) (fun k hk hl=>hr19.2.block k hl (fun e=>by omega)) (fun _ h _=>h) _ _ _ HTA.out);have HTB19:=zz (zAm.same (w':=w19) (fun k hk hl=>hr19.2.block k hl (fun e=>by omega)) (fun _ h _=>h) _ _ _ HTB.out);have HV19:=zz (HV18.out.blk (hr19.2.block g18 hgl18 (fun e=>by omega)));have HR19:Hid (Rd w19 p S r1 op1):=zz hr19.1;have hgl19:g18<w19.heap.size:=Nat.lt_of_lt_of_le hgl18 hr19.2.size;clear hr19 HR18 HX18 HE18 HTA HTB HV18 hgl18;go_wp2_with fail
  refine (zBu w19 p S r1 op1 HR19.out [125] hr1 (by rw[HRR.out];decide)).mono ?_;rintro e w20 ⟨rfl,n20,rfl⟩;have HR20:=zz (HR19.out.drewN n20);have HX20:=zz (HX19.out.drewN n20);have HE20:=zz (HE19.out.drewN n20);have HTA20:=zz (zAm.same (w:=w19) (w':=w19.drewN n20) (fun _ _ _=>rfl) (fun _ h _=>h) _ _ _ HTA19.out);have HTB20:=zz (zAm.same (w:=w19) (w':=w19.drewN n20) (fun _ _ _=>rfl) (fun _ h _=>h) _ _ _ HTB19.out);have HV20:=zz (zBO.blk (w':=w19.drewN n20) HV19.out rfl);have hgl20:g18<(w19.drewN n20).heap.size:=hgl19;generalize w19.drewN n20=w20 at HR20 HX20 HE20 HTA20 HTB20 HV20 hgl20 ⊢;clear HR19 HX19 HE19 HTA19 HTB19 HV19 hgl19;have c1:=HR20.out.at1;have f1:w20.frozen? ⟨p,1,none⟩=false:=Blk.free HR20.out 1;obtain⟨r',hr'⟩:∃ r',r'=r1+1:=⟨_,rfl⟩;have g3:IntKind.i64.wrap ((r1:Int)+1)=(r':Int):=by rw[zY _ (by omega),hr'];simp
  have HR21:Hid (Rd (w20.setCell ⟨p,1,none⟩ (.int .i64 (r':Int))) p S r' op1):=zz (HR20.out.set1 r');have HX21:=zz (HX20.out.set_other ⟨p,1,none⟩ (.int .i64 (r':Int)) hpX);have HE21:=zz (HE20.out.setCell p 1 (.inl rfl) (.int .i64 (r':Int)));have HTA21:=zz (zAm.same (w':=w20.setCell ⟨p,1,none⟩ (.int .i64 (r':Int))) (fun k hk _=>Below.heap_setCell _ _ _ _ (by show k≠p;omega)) (fun _ h _=>h) _ _ _ HTA20.out);have HTB21:=zz (zAm.same (w':=w20.setCell ⟨p,1,none⟩ (.int .i64 (r':Int))) (fun k hk _=>Below.heap_setCell _ _ _ _ (by show k≠p;omega)) (fun _ h _=>h) _ _ _ HTB20.out);have HV21:=zz (HV20.out.blk (Below.heap_setCell w20 ⟨p,1,none⟩ (.int .i64 (r':Int)) g18 (by show g18≠p;omega)));have hgl21:g18<(w20.setCell ⟨p,1,none⟩ (.int .i64 (r':Int))).heap.size:=by simpa[World.setCell] using hgl20
  have HRP:=zz hr';clear hr';go_upto_region 23 with fail
  clear c1 f1 g3;generalize w20.setCell ⟨p,1,none⟩ (.int .i64 (r':Int))=w21 at HR21 HX21 HE21 HTA21 HTB21 HV21 hgl21 ⊢;clear HR20 HX20 HE20 HTA20 HTB20 HV20 hgl20;have c2:=HR21.out.at2;have f2:w21.frozen? ⟨p,2,none⟩=false:=Blk.free HR21.out 2;have HR22:Hid (Rd (w21.setCell ⟨p,2,none⟩ (.bool false)) p S r' false):=zz (HR21.out.set2 false);have HX22:=zz (HX21.out.set_other ⟨p,2,none⟩ (.bool false) hpX);have HE22:=zz (HE21.out.setCell p 2 (.inl rfl) (.bool false));have HTA22:=zz (zAm.same (w':=w21.setCell ⟨p,2,none⟩ (.bool false)) (fun k hk _=>Below.heap_setCell _ _ _ _ (by show k≠p;omega)) (fun _ h _=>h) _ _ _ HTA21.out);have HTB22:=zz (zAm.same (w':=w21.setCell ⟨p,2,none⟩ (.bool false)) (fun k hk _=>Below.heap_setCell _ _ _ _ (by show k≠p;omega)) (fun _ h _=>h) _ _ _ HTB21.out);have HV22:=zz (HV21.out.blk (Below.heap_setCell w21 ⟨p,2,none⟩ (.bool false) g18 (by show g18≠p;omega)));have hgl22:g18<(w21.setCell ⟨p,2,none⟩ (.bool false)).heap.size:=by simpa[World.setCell] using hgl21
  go_upto_region 24 with fail
  clear c2 f2;generalize w21.setCell ⟨p,2,none⟩ (.bool false)=w22 at HR22 HX22 HE22 HTA22 HTB22 HV22 hgl22 ⊢;clear HR21 HX21 HE21 HTA21 HTB21 HV21 hgl21;have hG22:GW w22:=HG.out.ex HE22.out hp
  have HMP:=zz (zON w22 hG22.s hG22.c w22.heap.size d g18 0 cp18 T 0 fs _ ds (zQ _) hgl22 HV22.out (fun i hi=>by
   rcases (by omega:i=0 \/ i=1) with rfl|rfl
   ·exact⟨zAm.toN (fun b _ h=>h) _ _ _ HTA22.out,HD.out 0 (by omega)⟩
   ·exact⟨zAm.toN (fun b _ h=>h) _ _ _ HTB22.out,HD.out 1 (by omega)⟩) hd2 HD1.out ⟨fun e=>by omega,fun e=>by omega,fun e=>by omega,fun e=>by omega,fun e=>by omega,fun _=>HTT.out,fun e=>by omega⟩)
  clear hG22;go_wp2_with fail
  refine HMP.out.mono ?_;rintro e w23 ⟨hb23,v23,rfl,hT23⟩;obtain⟨i1,i2,i3,i4,i5,i6,i7,i8,i9,i10,i11,rfl⟩:=hT23.row;have hlx22:=HX22.out.lt;have HX23:=zz (HX22.out.below hb23 hlx22);have HR23:Hid (Rd w23 p S r' false):=zz (Blk.below HR22.out hb23 (Blk.lt HR22.out));have HE23:=zz (HE22.out.trans (Ex.of_below (hb23.mono (Nat.le_of_lt hlx22))));have HT23:=zz hT23;have h2223:w22.heap.size<=w23.heap.size:=hb23.size;clear hb23 hT23 HMP HR22 HX22 HE22 HTA22 HTB22 HV22;simp only[zAa];go_upto_region 25 with fail
  obtain⟨w24,hw24⟩:∃ w24,w24=w23.alloc (.cells (zAa i1 i2 false (.slice i3 i4 i5) i6 i7 (zAc i8) (.slice i9 i10 i11)) 31):=⟨_,rfl⟩;have hb24:Below w23.heap.size w23 w24:=by rw[hw24];exact (zK _ _).alloc (zQ _) _
  have hY24:Blk w24 w23.heap.size (zAa i1 i2 false (.slice i3 i4 i5) i6 i7 (zAc i8) (.slice i9 i10 i11)) 31:=by rw[hw24];exact Blk.new _ _ _
  change Code.wp _ _ _ _ (w23.alloc (.cells (zAa i1 i2 false (.slice i3 i4 i5) i6 i7 (zAc i8) (.slice i9 i10 i11)) 31));rw[<-hw24];have hlx23:=HX23.out.lt;have HX24:=zz (HX23.out.below hb24 hlx23);have HR24:Hid (Rd w24 p S r' false):=zz (Blk.below HR23.out hb24 (Blk.lt HR23.out));have HE24:=zz (HE23.out.trans (Ex.of_below (hb24.mono (Nat.le_of_lt hlx23))));have HT24:=zz (zAm.same (w':=w24) (Q:=fun k=>w22.heap.size<=k) (fun k _ hl=>hb24.block k hl) (fun _ h _=>h) _ _ _ HT23.out);have HY24:=zz hY24;clear hb24 hY24 hw24 HX23 HR23 HE23 HT23;refine wp_region_lit ?_;refine wpList_load_row rfl 31 _ rfl w23.heap.size rfl 31 _ (0,0) _ HY24.out Tryz.underlying31 rfl (by kernel_rfl) ?_;refine wpList_store_row rfl 31 _ _ rfl w.heap.size (zAa i1 i2 false (.slice i3 i4 i5) i6 i7 (zAc i8) (.slice i9 i10 i11)) rfl rfl 31 _ HX24.out (by kernel_rfl) rfl (zAo _ _ _ _ _ _ _ _ rfl rfl) ?_;have HFN:Hid (Blk (w24.setRow w.heap.size (zAa i1 i2 false (.slice i3 i4 i5) i6 i7 (zAc i8) (.slice i9 i10 i11))) w.heap.size (zAa i1 i2 false (.slice i3 i4 i5) i6 i7 (zAc i8) (.slice i9 i10 i11)) 31):=zz (setRow_heap _ _ _ _ _ _ HX24.out);go_wp2;refine bodyPost_ret (v:=.agg (zAa i1 i2 false (.slice i3 i4 i5) i6 i7 (zAc i8) (.slice i9 i10 i11))) (results_cell_row rfl _ _ w.heap.size 31 _ (0,0) _ rfl HFN.out Tryz.underlying31 rfl (by kernel_rfl)) rfl ⟨?_,_,rfl,zAm.same (fun k hk _=>setRow_other _ _ _ _ (by have hk':w22.heap.size<=k:=hk;omega)) (fun k hk _=>by have hk':w22.heap.size<=k:=hk;show w.heap.size<=k;omega) _ _ _ HT24.out⟩;have hh:=Rs.setRow ⟨HR24.out,HE24.out⟩ (zQ w.heap.size) hpX (zAa i1 i2 false (.slice i3 i4 i5) i6 i7 (zAc i8) (.slice i9 i10 i11));rw[HRP.out] at hh;exact hh
end Go.Proofs.YtcanfakaigpkgaaGreatDoor.D
namespace Go.Proofs.YtcanfakaigpkgaaGreatDoor.D
open Go Go.RowKit Limb
theorem zKU(S:List UInt8)(a ar x:Nat)(c:UInt8)(hS:S.length<=1099511627776)(hx:x=1 \/ x=7)(hc:c=dig x)(ha:a<S.length)(h:S.getD a 0=c)(har:ar<=128)(he:a+1<S.length->S.getD (a+1) 0 ∉ zDh):
  zCn S a (a+1) ar (.node [dig x] x (fun _=>.stop)) 0 true:=by
 subst hc;have h1:dig x ∉ ([91]:List UInt8)/\dig x ∉ ([123]:List UInt8)/\dig x ∉ ([34]:List UInt8)/\dig x ∈ ([45,48,49,50,51,52,53,54,55,56,57]:List UInt8):=by rcases hx with rfl|rfl <;> decide
 exact zB0 S a (a+1) ar _ 0 true ha (dig x) h h1.1 h1.2.1 h1.2.2.1 h1.2.2.2 har (zJa S a (a+1) ar x _ rfl ha hS (by omega) (by omega) (by omega) h he)
theorem VT.All.good:∀ {f:VT},f.All VA.fine->f.good
 | .stop,h=>h.elim
 | .node a m fs,⟨h1,h2⟩=>⟨h1.1,h1.2.1,fun i hi=>(h2 i hi).good⟩
theorem zPH{f:VT}(h:f.good):f.txt zBM≠[]:=by
 cases f with
 | stop=>exact h.elim
 | node a m fs=>
  obtain⟨hb,hfb,_⟩:=h.ok;obtain⟨c,r,e,_⟩:=zFI zBM a m (fun i=>(fs i).txt zBM) hb hfb;have e':(VT.node a m fs).txt zBM=c :: r:=e;rw[e'];simp
theorem zBj{a:VA}{kind:Int}{k:Nat}(h:a.fit kind)(ha:a.kind=k)(hk:0<k):kind=(k:Int):=by
 have h1:=h.1;rw[ha] at h1;omega
theorem zIX:∀ f:VT,WVQ f:=by
 intro f
 induction f with
 | stop=>intro d v w B p N L _ _ _ _ hT;exact hT.elim
 | node a m fs ih=>
  intro d v w B p N L hNB hB hB2 hG hT hsm hall hW;obtain⟨kind,mag,kb,cap,rfl,hfit,hmag,hc1,hc2,hk⟩:=hT;obtain⟨⟨hok,hfl,htx⟩,hkids⟩:=hall;obtain⟨hs1,hs2,hs3,hs4⟩:=hsm;obtain⟨mb,mc,rfl⟩:=hmag.1.slice;have hml:=hmag.1;have hkd:∀ i,i<m->(fs i).small (d - 1)/\(fs i).All VA.fine:=fun i hi=>⟨(hs4 i hi).2,hkids i hi⟩
  have hih:∀ i,i<m->WVQ (fs i):=fun i _=>ih i
  rcases hok with ⟨h1,rfl,-⟩|⟨h1,⟨n,hn,rfl⟩,-⟩|⟨h1,⟨neg,x,hx,rfl⟩,-⟩|⟨h1,⟨b,rfl⟩,-⟩|⟨h1,⟨t,rfl⟩,-⟩|⟨h1,⟨t,rfl⟩,-⟩|⟨h1,rfl⟩|⟨h1,rfl,-⟩|⟨h1,⟨n,rfl⟩,-⟩|⟨h1,⟨n,rfl⟩,-⟩|⟨h1,⟨z,t,rfl⟩,-⟩
  ·obtain rfl:=zBj (k:=1) hfit rfl (by omega);exact zOv w B p L hB hB2 hG hW mb mc kb m cap
  ·obtain rfl:=zBj (k:=2) hfit rfl (by omega);rcases (by omega:n=0 \/ n=1) with rfl|rfl
   ·exact zMS w B p L hB hB2 hG hW mb mc kb m cap
   ·exact zN8 w B p L hB hB2 hG hW mb mc kb m cap
  ·obtain rfl:=zBj (k:=3) hfit rfl (by omega);have h:=zPM w B p L hB hB2 hG hW mb mc neg (zAb x) hml hs1 (by rw[zAe];exact hx) kb m cap;rw[zAe] at h
   have e:(VT.node ⟨3,0,neg,zAb x,0,0,[]⟩ m fs).txt zBM=zEH neg x:=by
    show zEH neg (val (zAb x))=_;rw[zAe]
   rw[e];exact h
  ·obtain rfl:=zBj (k:=4) hfit rfl (by omega);exact zLH w B p L hB hB2 hG hW mb mc b hfit.2.2.2.2.1 kb m cap
  ·obtain rfl:=zBj (k:=5) hfit rfl (by omega);exact zNF w B p L hB hB2 hG hW mb mc t hs2 (htx rfl) kb m cap
  ·obtain rfl:=zBj (k:=6) hfit rfl (by omega);exact zMO w B p L hB hB2 hG hW mb mc t hs2 kb m cap
  ·obtain rfl:=zBj (k:=7) hfit rfl (by omega);exact zOB w B p L hB hB2 hG hW mb mc kb N m cap (d - 1) fs hNB hs3 hk hkd hih
  ·obtain rfl:=zBj (k:=8) hfit rfl (by omega);exact zO6 w B p L hB hB2 hG hW mb mc kb N m cap (d - 1) fs hNB hs3 hk hkd hih
  ·obtain rfl:=zBj (k:=9) hfit rfl (by omega);exact zOX w B p L hB hB2 hG hW mb mc n hfit.2.2.2.1 kb N m cap (d - 1) fs hNB hs3 hk hkd hih
  ·obtain rfl:=zBj (k:=10) hfit rfl (by omega);by_cases h23:n=23
   ·subst h23;exact zMv w B p L hB hB2 hG hW mb mc kb m cap
   ·have e:(VT.node ⟨10,n,false,[],0,0,[]⟩ m fs).txt zBM=[115,105,109,112,108,101,40] ++ zAZ n ++ [41]:=by
     show (if n=23 then _ else _)=_;rw[if_neg h23]
    rw[e];exact zKL w B p L hB hB2 hG hW mb mc n hfit.2.2.2.1 h23 kb m cap
  ·obtain rfl:=zBj (k:=11) hfit rfl (by omega);exact zPr w B p L hB hB2 hG hW mb mc z hfit.2.2.2.2.2.1 hfit.2.2.2.2.2.2 t hs2 kb m cap
def zQy(f:VT)(e:Ending):Prop:=(e=.returned (.tuple #[.string (zAc (f.txt zBM)),.nilIface])/\f.good) \/ ∃ s t v,e=.returned (.tuple #[.string (zAc s),.iface t v])
theorem zFd(w:World)(hG:GQ w)(hE:zNm w)(f:VT)(d:Nat)(v:Value)(hT:zAl w w.heap.size f v)(hsm:f.small d)(hd:d<=2000000):
  Calls Tryz.prog 6 #[v] w fun e w'=>zQy f e/\Below w.heap.size w w':=by
 obtain⟨a,kind,mb,mn,mc,kb,kn,kc,rfl⟩:=hT.cells;obtain⟨w1,hw1⟩:∃ w1,w1=w.alloc (.cells (zAh a kind (.slice mb mn mc) (.slice kb kn kc)) 31):=⟨_,rfl⟩;have hb1:Below w.heap.size w w1:=by rw[hw1];exact (zK _ _).alloc (zQ _) _
 have hB1:Blk w1 w.heap.size (zAh a kind (.slice mb mn mc) (.slice kb kn kc)) 31:=by rw[hw1];exact Blk.new _ _ _
 have hG1:=hG.step hb1;have hE1:=hE.step hb1 hG.size;have hT1:=zAl.below hb1 _ _ hT;have HCK:=zz (zKl w1 hG1.y hE1 w.heap.size f d _ hb1.size hT1 hsm hd);have HB1:=zz hb1;have HBL1:=zz hB1;have HG1:=zz hG1;have HE1:=zz hE1;have HT1:=zz hT1;have HW1:=zz hw1;have HSM:=zz hsm;clear hb1 hB1 hG1 hT1 hw1 hG hE hE1 hT hsm;go_enter Tryz.func6,Tryz.ntmps6
 go_upto_region 1 with fail
 change Code.wp _ _ _ _ (w.alloc (.cells (zAh a kind (.slice mb mn mc) (.slice kb kn kc)) 31));rw[<-HW1.out];refine wp_region_lit ?_;refine wpList_load_row rfl 31 _ rfl w.heap.size rfl 31 _ (0,0) _ HBL1.out Tryz.underlying31 rfl (by kernel_rfl) ?_;go_wp2_with fail
 refine HCK.out.mono ?_;rintro r w2 ⟨⟨rfl,hall⟩|⟨t,ve,rfl⟩,hb2⟩
 ·obtain⟨w3,hw3⟩:∃ w3,w3=w2.alloc (.cells #[.pointer none,.slice none 0 0,.int .i64 1048576] 51):=⟨_,rfl⟩;have hb3:Below w2.heap.size w2 w3:=by rw[hw3];exact (zK _ _).alloc (zQ _) _
  have hW3:Wq w2.heap.size w2.heap.size [] w3:=by rw[hw3];exact⟨.inl ⟨zQ _,_,Blk.new _ _ _,World.ownsRow_nil _ _ _ _,by simp[Value.ownBlock]⟩,by simp⟩
  have hb23:=hb2.trans (hb3.mono hb2.size);have hT3:=zAl.below (hb23.mono HB1.out.size) _ _ HT1.out;have hG3:=HG1.out.step hb23;have hE3:=HE1.out.step hb23 HG1.out.size;have hsz2:=hb2.size;have hlt:=HBL1.out.lt;have hgs:=HG1.out.size;have HV:=zz (zIX f d _ w3 w2.heap.size w2.heap.size w.heap.size [] (by omega) hb3.size (by omega) hG3 hT3 HSM.out hall hW3);unfold zCQ at HV;have HBL3:=zz (HBL1.out.below hb23 HBL1.out.lt);have HB3:=zz (HB1.out.trans (hb23.mono HB1.out.size));have HW3:=zz hw3;have HE3:=zz hE3;have HS:=zz (show w.heap.size<=w2.heap.size by have:=HB1.out.size;omega);have HS3:Hid (21<w2.heap.size/\w2.heap.size<=w3.heap.size):=zz ⟨by omega,hb3.size⟩;have HGD:=zz hall.good;clear hb2 hb3 hW3 hb23 hT3 hG3 hsz2 hlt hgs hw3 hE3 hall;go_upto_region 5 with fail
  change Code.wp _ _ _ _ (w2.alloc (.cells #[.pointer none,.slice none 0 0,.int .i64 1048576] 51));rw[<-HW3.out];refine wp_region_lit ?_;iterate 3 go_step
  refine wpList_load_row rfl 31 _ rfl w.heap.size rfl 31 _ (0,0) _ HBL3.out Tryz.underlying31 rfl (by kernel_rfl) ?_;go_wp2_with fail
  refine HV.out.mono ?_;rintro r w4 ⟨rfl,⟨T,hp4,hW4⟩,hK4⟩;have HLEN:=zz (zDf _ _ _ _ hW4.1);have HB4:=zz (HB3.out.trans (hK4.1.mono HS.out))
  have hE4:zNm w4:=by
   obtain⟨⟨t,v,h0⟩,⟨t4,v4,h4⟩⟩:=HE3.out;have h5:=HS3.out.1;exact⟨⟨t,v,by rw[hK4.1.cell (p:=⟨1,0,none⟩) (by simp;omega)];exact h0⟩,⟨t4,v4,by rw[hK4.1.cell (p:=⟨0,0,none⟩) (by simp;omega)];exact h4⟩⟩
  by_cases hlen:T.length<=1048576
  ·have hTx:T=f.txt zBM:=by
    rcases hp4.1 with h|h
    ·rw[h];rfl
    ·omega
   have HBH:=zz (BIs.has hW4.1 (by rw[hTx];exact zPH HGD.out));have HTX:=zz hTx;have g4:¬ ((T.length:Int) > 1048576):=by omega
   clear hW4 hK4 hp4 hTx hlen hE4;go_wp2_with fail
   refine HLEN.out.mono ?_;rintro r w5 ⟨rfl,rfl⟩;go_wp2_with fail
   refine (zBg _ _ _ _ HBH.out).mono ?_;rintro r w6 ⟨rfl,_,hb6⟩;have HB6:=zz (HB4.out.trans (hb6.mono HS.out));clear hb6;go_wp2;exact bodyPost_ret (v:=.tuple #[.string (zAc T),.nilIface]) (by simp[results,Tryz.results6,go_sem]) rfl ⟨.inl ⟨by rw[HTX.out],HGD.out⟩,HB6.out⟩
  ·have g4:((T.length:Int) > 1048576):=by omega
   obtain⟨t4,v4,c4⟩:=hE4.c4;clear hW4 hK4 hp4 hlen hE4;have c4d:w4.drew.cell? ⟨0,0,none⟩=some (.iface t4 v4):=c4;have HBD:=zz HB4.out.drew;go_wp2_with fail
   refine HLEN.out.mono ?_;rintro r w5 ⟨rfl,rfl⟩;go_upto_region 7 with fail
   go_region
   all_goals (
    go_wp2;exact bodyPost_ret (v:=.tuple #[.string ⟨#[]⟩,.iface t4 v4]) (by simp[results,Tryz.results6,go_sem]) rfl ⟨.inr ⟨[],t4,v4,rfl⟩,HBD.out⟩)
 ·have HB2:=zz (HB1.out.trans (hb2.mono HB1.out.size));clear hb2 HCK HT1 HBL1;go_wp2;exact bodyPost_ret (v:=.tuple #[.string ⟨#[]⟩,.iface t ve]) (by simp[results,Tryz.results6,go_sem]) rfl ⟨.inr ⟨[],t,ve,rfl⟩,HB2.out⟩
end Go.Proofs.YtcanfakaigpkgaaGreatDoor.D
