/-
  Of the proof that the law DiagUnlike answers true at every two values: a part, without conditions of its own.
-/
import Derived.Test.YtcanfakaigpkgaaGreatDoorPart32
import Derived.Test.YtcanfakaigpkgaaGreatDoorPart33
set_option linter.unusedVariables false
set_option linter.unusedSimpArgs false
set_option maxRecDepth 100000
set_option maxHeartbeats 8000000
namespace Go.Proofs.YtcanfakaigpkgaaGreatDoor.D
open Go Go.RowKit Limb
attribute [local go_sem high] zAI zAg zBv zAz
def zHt:F:=.node [49,46,53] 0 (fun _=>.stop)
theorem zK4(w:World)(P:Nat->Prop):zAm w P zHt 0 (.agg zDP):=
 ⟨4,0,_,_,0,[],_,0,rfl,⟨⟨rfl,.inr (.inr (.inl ⟨rfl,rfl,rfl,rfl,rfl,rfl⟩))⟩,fun b o k c e=>by simp at e⟩,⟨fun e=>by omega,fun e=>by omega,fun _=>rfl,fun e=>by omega,fun e=>by omega,fun e=>by omega,fun e=>by omega⟩,.inl ⟨rfl,rfl,rfl⟩⟩
theorem zIl(S:List UInt8)(a ar:Nat)(hl:a+3<=S.length)(hS:S.length<=1099511627776)(hw:sub S a (a+3)=[49,46,48])(hnx:a+3<S.length->S.getD (a+3) 0 ∉ zDh):
  zId 64 [.int .i64 (ar:Int)] S a (a+3) (.node [dig 1] 1 (fun _=>.stop)) 0 false true:=by
 intro w p hG hp hr;have hch:∀ i,i<3->S.getD (a+i) 0=([49,46,48]:List UInt8).getD i 0:=fun i hi=>by rw[<-hw,zEa S a (a+3) i (by omega)]
 have hs1:sub S a (a+1)=[49]:=by
  have h:sub S a (a+1)=(sub S a (a+3)).take 1:=by
   unfold sub;rw[List.take_take];congr 1;omega
  rw[h,hw];rfl
 obtain⟨w0,hw0⟩:∃ w0,w0=w.alloc (.cells zAr 31):=⟨_,rfl⟩;have hb:Below w.heap.size w w0:=by rw[hw0];exact (zK _ _).alloc (zQ _) _
 have hX:Blk w0 w.heap.size zAr 31:=by rw[hw0];exact Blk.new _ _ _
 have hr0:Rd w0 p S a false:=Blk.below hr hb (Blk.lt hr);have hpX:w.heap.size≠p:=by have:=Blk.lt hr;omega
 have hE0:Ex (fun k=>k=p) w.heap.size w w0:=Ex.of_below hb;have hsz0:w.heap.size<w0.heap.size:=hX.lt;have c1:=hr0.at1;have HG:=zz hG;have HW0:=zz hw0;have HR0:=zz hr0;have HX0:=zz hX;have HE0:=zz hE0;have HCH:=zz hch;have HS1:=zz hs1;have HSN:=zz hw;have HNX:=zz hnx;clear hG hw0 hb hX hr0 hr hE0 hch hs1 hw hnx;obtain⟨A1,hA1⟩:∃ x,x=a+1:=⟨_,rfl⟩;have gA1:a+1<=A1:=by omega
 have lA1:A1<=a+1:=by omega
 have hleA1:a<=A1:=by omega
 have hlnA1:A1<=S.length:=by omega
 have HCA1:Hid (S.getD A1 0=46):=zz (by rw[hA1];exact HCH.out 1 (by decide));have HSA1:=zz HS1.out;rw[<-hA1] at HSA1;clear hA1;obtain⟨A2,hA2⟩:∃ x,x=a+2:=⟨_,rfl⟩;have gA2:a+2<=A2:=by omega
 have lA2:A2<=a+2:=by omega
 have hleA2:a<=A2:=by omega
 have hlnA2:A2<=S.length:=by omega
 have HCA2:Hid (S.getD A2 0=48):=zz (by rw[hA2];exact HCH.out 2 (by decide));clear hA2;obtain⟨A3,hA3⟩:∃ x,x=a+3:=⟨_,rfl⟩;rw[<-hA3];have gA3:a+3<=A3:=by omega
 have lA3:A3<=a+3:=by omega
 have hleA3:a<=A3:=by omega
 have hlnA3:A3<=S.length:=by omega
 have HNA:=zz HNX.out;rw[<-hA3] at HNA;clear hA3;have HSZ:=zz HSN.out;rw[<-(show A3=a+3 by omega)] at HSZ;clear HNX HS1 HSN;have HCA0:Hid (S.getD a 0=49):=zz (HCH.out 0 (by decide));show Calls _ _ #[_,_] _ _;go_enter Tryz.func64,Tryz.ntmps64
 go_upto_region 1 with fail
 change Code.wp _ _ _ _ (w.alloc (.cells zAr 31));rw[<-HW0.out];go_wp2_with fail
 refine (zDV w0 p S a false HR0.out 45 (fun _=>zEL (c:=45) (by rw[HCA0.out];decide))).mono ?_;rintro e w1 ⟨rfl,n1,rfl⟩;have HR1:=zz (HR0.out.drewN n1);have HX1:=zz (HX0.out.drewN n1);have HE1:=zz (HE0.out.drewN n1);have hsz1:w.heap.size<(w0.drewN n1).heap.size:=hsz0;generalize w0.drewN n1=w1 at HR1 HX1 HE1 hsz1 ⊢;clear c1 HW0 HR0 HX0 HE0 hsz0;have c1:=HR1.out.at1;go_wp2_with fail
 clear c1;refine (zDV w1 p S a false HR1.out 48 (fun _=>zEL (c:=48) (by rw[HCA0.out];decide))).mono ?_;rintro e w2 ⟨rfl,n2,rfl⟩;have HR2:=zz (HR1.out.drewN n2);have HX2:=zz (HX1.out.drewN n2);have HE2:=zz (HE1.out.drewN n2);have hsz2:w.heap.size<(w1.drewN n2).heap.size:=hsz1;generalize w1.drewN n2=w2 at HR2 HX2 HE2 hsz2 ⊢;clear HR1 HX1 HE1 hsz1;go_wp2_with fail
 refine (zBq w2 p S a A1 false HR2.out zK2 (by omega) (by omega) hS (fun i h1 h2=>by
  have h:=HCH.out (i - a) (by omega);rw[show a+(i - a)=i by omega] at h;rw[h];rcases (by omega:i - a=0) with h3 <;> rw[h3] <;> decide) (fun _=>by rw[HCA1.out];decide) 1 (by omega)).mono ?_
 rintro e w3 ⟨rfl,hr3⟩
 try rw[show A1+1=A2 by omega] at hr3
 have HR3:=zz hr3.1;have HX3:=zz (hr3.2.blk HX2.out hsz2 hpX);have HE3:=zz (HE2.out.trans (hr3.2.mono (by omega) (fun _ h=>h)));have hsz3:w.heap.size<w3.heap.size:=HX3.out.lt;clear hr3 HR2 HX2 HE2 hsz2;have c0:=HR3.out.at0;have c1:=HR3.out.at1;go_upto_region 11 with fail
 have HT:Hid (∀ w,Calls Tryz.prog 104 #[.string (zAc (sub S a A1))] w fun e w'=>e=.returned (.tuple #[.int .u64 ((1:Nat):Int),.bool true])/\Below w.heap.size w w'):=zz (by
  intro w;rw[HSA1.out];have h:=zCT w [49] ⟨by decide,by decide,by decide,by decide⟩ (by decide);rw[show dec ([49]:List UInt8) ([49]:List UInt8).length=1 by decide] at h;exact h)
 go_region_with (go_at_call 104;go_must (refine (HT.out _).mono ?_;rintro e w90 ⟨rfl,hb9⟩;have HB9:=zz hb9;clear hb9))
 all_goals (
  have hb:Below w3.heap.size w3 w90:=(zAd (zK w3.heap.size w3) 1).trans HB9.out;have HR4:Hid (Rd w90 p S A1 false):=zz (Blk.below HR3.out hb (Blk.lt HR3.out));have HX4:=zz (HX3.out.below hb hsz3);have HE4:=zz (HE3.out.trans (Ex.of_below (hb.mono (Nat.le_of_lt hsz3))));have hsz4:w.heap.size<w90.heap.size:=HX4.out.lt;clear hb HB9 HR3 HX3 HE3 hsz3 c0 c1 HT;generalize w90=w4 at HR4 HX4 HE4 hsz4 ⊢;go_wp2_with fail
  refine (zAT w4 p S A1 false HR4.out [40] (fun _=>by rw[HCA1.out];decide)).mono ?_;rintro e w5 ⟨rfl,n5,rfl⟩;have HR5:=zz (HR4.out.drewN n5);have HX5:=zz (HX4.out.drewN n5);have HE5:=zz (HE4.out.drewN n5);have hsz5:w.heap.size<(w4.drewN n5).heap.size:=hsz4;generalize w4.drewN n5=w5 at HR5 HX5 HE5 hsz5 ⊢;clear HR4 HX4 HE4 hsz4;go_wp2_with fail
  refine (zKZ w5 p S A1 false HR5.out (by omega) hS 46 (by unfold ch;rw[HCA1.out];rfl)).mono ?_;rintro e w6 ⟨rfl,hr6⟩
  try rw[show A1+1=A2 by omega] at hr6
  have HR6:=zz hr6.1;have HX6:=zz (hr6.2.blk HX5.out hsz5 hpX);have HE6:=zz (HE5.out.trans (hr6.2.mono (by omega) (fun _ h=>h)));have hsz6:w.heap.size<w6.heap.size:=HX6.out.lt;clear hr6 HR5 HX5 HE5 hsz5;go_wp2_with fail
  refine (zBq w6 p S A2 A3 false HR6.out zK2 (by omega) (by omega) hS (fun i h1 h2=>by
   have h:=HCH.out (i - a) (by omega);rw[show a+(i - a)=i by omega] at h;rw[h];rcases (by omega:i - a=2) with h3 <;> rw[h3] <;> decide) (fun h h2=>HNA.out h (zGR h2)) 1 (by omega)).mono ?_
  rintro e w7 ⟨rfl,hr7⟩
  try rw[show A1+1=A2 by omega] at hr7
  have HR7:=zz hr7.1;have HX7:=zz (hr7.2.blk HX6.out hsz6 hpX);have HE7:=zz (HE6.out.trans (hr7.2.mono (by omega) (fun _ h=>h)));have hsz7:w.heap.size<w7.heap.size:=HX7.out.lt;clear hr7 HR6 HX6 HE6 hsz6;go_wp2_with fail
  refine (zAT w7 p S A3 false HR7.out [101,69] (fun h h2=>HNA.out h ((by decide:([101,69]:List UInt8) ⊆ zDh) h2))).mono ?_;rintro e w8 ⟨rfl,n8,rfl⟩;have HR8:=zz (HR7.out.drewN n8);have HX8:=zz (HX7.out.drewN n8);have HE8:=zz (HE7.out.drewN n8);have hsz8:w.heap.size<(w7.drewN n8).heap.size:=hsz7;generalize w7.drewN n8=w8 at HR8 HX8 HE8 hsz8 ⊢;clear HR7 HX7 HE7 hsz7;have c2:=HR8.out.at2;have f2:w8.frozen? ⟨p,2,none⟩=false:=Blk.free HR8.out 2;have HR9:=zz (HR8.out.set2 true);have HX9:=zz (HX8.out.set_other ⟨p,2,none⟩ (.bool true) hpX);have HE9:=zz (HE8.out.setCell p 2 (.inl rfl) (.bool true));have hsz9:w.heap.size<(w8.setCell ⟨p,2,none⟩ (.bool true)).heap.size:=HX9.out.lt;go_upto_region 25 with fail
  generalize w8.setCell ⟨p,2,none⟩ (.bool true)=w9 at HR9 HX9 HE9 hsz9 ⊢;clear c2 f2 HR8 HX8 HE8 hsz8;have c0:=HR9.out.at0;have c1:=HR9.out.at1;go_upto_region 28 with fail
  have HGj:=zz (HG.out.ex HE9.out hp)
  have HER:Hid (Calls Tryz.prog 109 #[.string (zAc (sub S a A3))] w9.drew fun e w'=>e=.returned (.tuple #[.int .u64 4607182418800017408,.nilIface])/\Below w9.drew.heap.size w9.drew w'):=zz (by
   rw[HSZ.out];exact zLV w9.drew (HGj.out.step (zAd (zK _ _) 1)))
  go_region_with (go_at_call 109;go_must (refine HER.out.mono ?_;rintro e w91 ⟨rfl,hb91⟩;have HB91:=zz hb91;clear hb91))
  all_goals (
   have hb:Below w9.heap.size w9 w91:=(zAd (zK w9.heap.size w9) 1).trans HB91.out;have HR91:Hid (Rd w91 p S A3 true):=zz (Blk.below HR9.out hb (Blk.lt HR9.out));have HX91:=zz (HX9.out.below hb hsz9);have HE91:=zz (HE9.out.trans (Ex.of_below (hb.mono (Nat.le_of_lt hsz9))));have hsz91:w.heap.size<w91.heap.size:=HX91.out.lt;have HOF:=zz (zPT w91 (HG.out.ex HE91.out hp));clear hb HB91 HR9 HX9 HE9 hsz9 c0 c1 HER HGj;go_wp2_with fail
   refine HOF.out.mono ?_;rintro e w92 ⟨hb2,nb,no,nc,rfl,hl2,hbo⟩;have HR92:Hid (Rd w92 p S A3 true):=zz (Blk.below HR91.out hb2 (Blk.lt HR91.out));have HX92:=zz (HX91.out.below hb2 hsz91);have HE92:=zz (HE91.out.trans (Ex.of_below (hb2.mono (Nat.le_of_lt hsz91))));dsimp only;go_step;refine wpList_store_row rfl 31 _ _ rfl w.heap.size (zAa 3 0 false (.slice (some ⟨nb,no,none⟩) 1 nc) 0 0 (zAc []) (.slice none 0 0)) rfl rfl 31 _ HX92.out (by kernel_rfl) rfl (zAo _ _ _ _ _ _ _ _ rfl rfl) ?_;have HFIN:Hid (Blk (w92.setRow w.heap.size (zAa 3 0 false (.slice (some ⟨nb,no,none⟩) 1 nc) 0 0 (zAc []) (.slice none 0 0))) w.heap.size (zAa 3 0 false (.slice (some ⟨nb,no,none⟩) 1 nc) 0 0 (zAc []) (.slice none 0 0)) 31):=zz (setRow_heap _ _ _ _ _ _ HX92.out);have HLEAF:Hid (zAm (w92.setRow w.heap.size (zAa 3 0 false (.slice (some ⟨nb,no,none⟩) 1 nc) 0 0 (zAc []) (.slice none 0 0))) (fun k=>w.heap.size<=k) (.node [dig 1] 1 (fun _=>.stop)) 0 (.agg (zAa 3 0 false (.slice (some ⟨nb,no,none⟩) 1 nc) 0 0 (zAc []) (.slice none 0 0)))):=zz (zH1 _ _ 1 _ _ _ _ (hl2.setRow HX92.out (by intro i x;match i with|0|1|2|3|4|5|6|7=>simp[zAr]|i+8=>simp[zAr]) _ |> fun h=>by rw[zAu 1 (by decide) (by decide)];exact h) (by intro b o k c e;simp at e;omega) (by decide) (by decide));go_wp2;exact bodyPost_ret (v:=.agg (zAa 3 0 false (.slice (some ⟨nb,no,none⟩) 1 nc) 0 0 (zAc []) (.slice none 0 0))) (results_cell_row rfl _ _ w.heap.size 31 _ (0,0) _ rfl HFIN.out Tryz.underlying31 rfl (by kernel_rfl)) rfl ⟨Rs.setRow ⟨HR92.out,HE92.out⟩ (zQ _) hpX _,_,rfl,HLEAF.out⟩))
theorem zIr(S:List UInt8)(a ar:Nat)(hl:a+5<=S.length)(hS:S.length<=1099511627776)(hw:sub S a (a+5)=[49,53,101,45,49])(hnx:a+5<S.length->S.getD (a+5) 0 ∉ zDh):
  zId 64 [.int .i64 (ar:Int)] S a (a+5) zHt 0 false true:=by
 intro w p hG hp hr;have hch:∀ i,i<5->S.getD (a+i) 0=([49,53,101,45,49]:List UInt8).getD i 0:=fun i hi=>by rw[<-hw,zEa S a (a+5) i (by omega)]
 have hs1:sub S a (a+2)=[49,53]:=by
  have h:sub S a (a+2)=(sub S a (a+5)).take 2:=by
   unfold sub;rw[List.take_take];congr 1;omega
  rw[h,hw];rfl
 obtain⟨w0,hw0⟩:∃ w0,w0=w.alloc (.cells zAr 31):=⟨_,rfl⟩;have hb:Below w.heap.size w w0:=by rw[hw0];exact (zK _ _).alloc (zQ _) _
 have hX:Blk w0 w.heap.size zAr 31:=by rw[hw0];exact Blk.new _ _ _
 have hr0:Rd w0 p S a false:=Blk.below hr hb (Blk.lt hr);have hpX:w.heap.size≠p:=by have:=Blk.lt hr;omega
 have hE0:Ex (fun k=>k=p) w.heap.size w w0:=Ex.of_below hb;have hsz0:w.heap.size<w0.heap.size:=hX.lt;have c1:=hr0.at1;have HG:=zz hG;have HW0:=zz hw0;have HR0:=zz hr0;have HX0:=zz hX;have HE0:=zz hE0;have HCH:=zz hch;have HS1:=zz hs1;have HSN:=zz hw;have HNX:=zz hnx;clear hG hw0 hb hX hr0 hr hE0 hch hs1 hw hnx;obtain⟨A1,hA1⟩:∃ x,x=a+1:=⟨_,rfl⟩;have gA1:a+1<=A1:=by omega
 have lA1:A1<=a+1:=by omega
 have hleA1:a<=A1:=by omega
 have hlnA1:A1<=S.length:=by omega
 have HCA1:Hid (S.getD A1 0=53):=zz (by rw[hA1];exact HCH.out 1 (by decide));clear hA1;obtain⟨A2,hA2⟩:∃ x,x=a+2:=⟨_,rfl⟩;have gA2:a+2<=A2:=by omega
 have lA2:A2<=a+2:=by omega
 have hleA2:a<=A2:=by omega
 have hlnA2:A2<=S.length:=by omega
 have HCA2:Hid (S.getD A2 0=101):=zz (by rw[hA2];exact HCH.out 2 (by decide));have HSA1:=zz HS1.out;rw[<-hA2] at HSA1;clear hA2;obtain⟨A3,hA3⟩:∃ x,x=a+3:=⟨_,rfl⟩;have gA3:a+3<=A3:=by omega
 have lA3:A3<=a+3:=by omega
 have hleA3:a<=A3:=by omega
 have hlnA3:A3<=S.length:=by omega
 have HCA3:Hid (S.getD A3 0=45):=zz (by rw[hA3];exact HCH.out 3 (by decide));clear hA3;obtain⟨A4,hA4⟩:∃ x,x=a+4:=⟨_,rfl⟩;have gA4:a+4<=A4:=by omega
 have lA4:A4<=a+4:=by omega
 have hleA4:a<=A4:=by omega
 have hlnA4:A4<=S.length:=by omega
 have HCA4:Hid (S.getD A4 0=49):=zz (by rw[hA4];exact HCH.out 4 (by decide));clear hA4;obtain⟨A5,hA5⟩:∃ x,x=a+5:=⟨_,rfl⟩;rw[<-hA5];have gA5:a+5<=A5:=by omega
 have lA5:A5<=a+5:=by omega
 have hleA5:a<=A5:=by omega
 have hlnA5:A5<=S.length:=by omega
 have HNA:=zz HNX.out;rw[<-hA5] at HNA;clear hA5;have HSZ:=zz HSN.out;rw[<-(show A5=a+5 by omega)] at HSZ;clear HNX HS1 HSN;have HCA0:Hid (S.getD a 0=49):=zz (HCH.out 0 (by decide));show Calls _ _ #[_,_] _ _;go_enter Tryz.func64,Tryz.ntmps64
 go_upto_region 1 with fail
 change Code.wp _ _ _ _ (w.alloc (.cells zAr 31));rw[<-HW0.out];go_wp2_with fail
 refine (zDV w0 p S a false HR0.out 45 (fun _=>zEL (c:=45) (by rw[HCA0.out];decide))).mono ?_;rintro e w1 ⟨rfl,n1,rfl⟩;have HR1:=zz (HR0.out.drewN n1);have HX1:=zz (HX0.out.drewN n1);have HE1:=zz (HE0.out.drewN n1);have hsz1:w.heap.size<(w0.drewN n1).heap.size:=hsz0;generalize w0.drewN n1=w1 at HR1 HX1 HE1 hsz1 ⊢;clear c1 HW0 HR0 HX0 HE0 hsz0;have c1:=HR1.out.at1;go_wp2_with fail
 clear c1;refine (zDV w1 p S a false HR1.out 48 (fun _=>zEL (c:=48) (by rw[HCA0.out];decide))).mono ?_;rintro e w2 ⟨rfl,n2,rfl⟩;have HR2:=zz (HR1.out.drewN n2);have HX2:=zz (HX1.out.drewN n2);have HE2:=zz (HE1.out.drewN n2);have hsz2:w.heap.size<(w1.drewN n2).heap.size:=hsz1;generalize w1.drewN n2=w2 at HR2 HX2 HE2 hsz2 ⊢;clear HR1 HX1 HE1 hsz1;go_wp2_with fail
 refine (zBq w2 p S a A2 false HR2.out zK2 (by omega) (by omega) hS (fun i h1 h2=>by
  have h:=HCH.out (i - a) (by omega);rw[show a+(i - a)=i by omega] at h;rw[h];rcases (by omega:i - a=0 \/ i - a=1) with h3|h3 <;> rw[h3] <;> decide) (fun _=>by rw[HCA2.out];decide) 1 (by omega)).mono ?_
 rintro e w3 ⟨rfl,hr3⟩
 try rw[show A1+1=A2 by omega] at hr3
 have HR3:=zz hr3.1;have HX3:=zz (hr3.2.blk HX2.out hsz2 hpX);have HE3:=zz (HE2.out.trans (hr3.2.mono (by omega) (fun _ h=>h)));have hsz3:w.heap.size<w3.heap.size:=HX3.out.lt;clear hr3 HR2 HX2 HE2 hsz2;have c0:=HR3.out.at0;have c1:=HR3.out.at1;go_upto_region 11 with fail
 have HT:Hid (∀ w,Calls Tryz.prog 104 #[.string (zAc (sub S a A2))] w fun e w'=>e=.returned (.tuple #[.int .u64 ((15:Nat):Int),.bool true])/\Below w.heap.size w w'):=zz (by
  intro w;rw[HSA1.out];have h:=zCT w [49,53] ⟨by decide,by decide,by decide,by decide⟩ (by decide);rw[show dec ([49,53]:List UInt8) ([49,53]:List UInt8).length=15 by decide] at h;exact h)
 go_region_with (go_at_call 104;go_must (refine (HT.out _).mono ?_;rintro e w90 ⟨rfl,hb9⟩;have HB9:=zz hb9;clear hb9))
 all_goals (
  have hb:Below w3.heap.size w3 w90:=(zAd (zK w3.heap.size w3) 1).trans HB9.out;have HR4:Hid (Rd w90 p S A2 false):=zz (Blk.below HR3.out hb (Blk.lt HR3.out));have HX4:=zz (HX3.out.below hb hsz3);have HE4:=zz (HE3.out.trans (Ex.of_below (hb.mono (Nat.le_of_lt hsz3))));have hsz4:w.heap.size<w90.heap.size:=HX4.out.lt;clear hb HB9 HR3 HX3 HE3 hsz3 c0 c1 HT;generalize w90=w4 at HR4 HX4 HE4 hsz4 ⊢;go_wp2_with fail
  refine (zAT w4 p S A2 false HR4.out [40] (fun _=>by rw[HCA2.out];decide)).mono ?_;rintro e w5 ⟨rfl,n5,rfl⟩;have HR5:=zz (HR4.out.drewN n5);have HX5:=zz (HX4.out.drewN n5);have HE5:=zz (HE4.out.drewN n5);have hsz5:w.heap.size<(w4.drewN n5).heap.size:=hsz4;generalize w4.drewN n5=w5 at HR5 HX5 HE5 hsz5 ⊢;clear HR4 HX4 HE4 hsz4;go_wp2_with fail
  refine (zDV w5 p S A2 false HR5.out 46 (fun _=>zEL (c:=46) (by rw[HCA2.out];decide))).mono ?_;rintro e w6 ⟨rfl,n6,rfl⟩;have HR6:=zz (HR5.out.drewN n6);have HX6:=zz (HX5.out.drewN n6);have HE6:=zz (HE5.out.drewN n6);have hsz6:w.heap.size<(w5.drewN n6).heap.size:=hsz5;generalize w5.drewN n6=w6 at HR6 HX6 HE6 hsz6 ⊢;clear HR5 HX5 HE5 hsz5;go_wp2_with fail
  refine (zBu w6 p S A2 false HR6.out [101,69] (by omega) (by rw[HCA2.out];decide)).mono ?_;rintro e w7 ⟨rfl,n7,rfl⟩;have HR7:=zz (HR6.out.drewN n7);have HX7:=zz (HX6.out.drewN n7);have HE7:=zz (HE6.out.drewN n7);have hsz7:w.heap.size<(w6.drewN n7).heap.size:=hsz6;generalize w6.drewN n7=w7 at HR7 HX7 HE7 hsz7 ⊢;clear HR6 HX6 HE6 hsz6;have c1:=HR7.out.at1;have f1:w7.frozen? ⟨p,1,none⟩=false:=Blk.free HR7.out 1;have g3:IntKind.i64.wrap (((A2:Nat):Int)+1)=((A3:Nat):Int):=by rw[zY _ (by omega)];omega
  have HR8:=zz (HR7.out.set1 A3);have HX8:=zz (HX7.out.set_other ⟨p,1,none⟩ (.int .i64 ((A3:Nat):Int)) hpX);have HE8:=zz (HE7.out.setCell p 1 (.inl rfl) (.int .i64 ((A3:Nat):Int)));have hsz8:w.heap.size<(w7.setCell ⟨p,1,none⟩ (.int .i64 ((A3:Nat):Int))).heap.size:=HX8.out.lt;go_upto_region 20 with fail
  generalize w7.setCell ⟨p,1,none⟩ (.int .i64 ((A3:Nat):Int))=w8 at HR8 HX8 HE8 hsz8 ⊢;clear c1 f1 g3 HR7 HX7 HE7 hsz7;go_wp2_with fail
  refine (zBu w8 p S A3 false HR8.out [43,45] (by omega) (by rw[HCA3.out];decide)).mono ?_;rintro e w9 ⟨rfl,n9,rfl⟩;have HR9:=zz (HR8.out.drewN n9);have HX9:=zz (HX8.out.drewN n9);have HE9:=zz (HE8.out.drewN n9);have hsz9:w.heap.size<(w8.drewN n9).heap.size:=hsz8;generalize w8.drewN n9=w9 at HR9 HX9 HE9 hsz9 ⊢;clear HR8 HX8 HE8 hsz8;have c1:=HR9.out.at1;have f1:w9.frozen? ⟨p,1,none⟩=false:=Blk.free HR9.out 1;have g3:IntKind.i64.wrap (((A3:Nat):Int)+1)=((A4:Nat):Int):=by rw[zY _ (by omega)];omega
  have HR10:=zz (HR9.out.set1 A4);have HX10:=zz (HX9.out.set_other ⟨p,1,none⟩ (.int .i64 ((A4:Nat):Int)) hpX);have HE10:=zz (HE9.out.setCell p 1 (.inl rfl) (.int .i64 ((A4:Nat):Int)));have hsz10:w.heap.size<(w9.setCell ⟨p,1,none⟩ (.int .i64 ((A4:Nat):Int))).heap.size:=HX10.out.lt;go_upto_region 22 with fail
  generalize w9.setCell ⟨p,1,none⟩ (.int .i64 ((A4:Nat):Int))=w10 at HR10 HX10 HE10 hsz10 ⊢;clear c1 f1 g3 HR9 HX9 HE9 hsz9;go_wp2_with fail
  refine (zBq w10 p S A4 A5 false HR10.out zK2 (by omega) (by omega) hS (fun i h1 h2=>by
   have h:=HCH.out (i - a) (by omega);rw[show a+(i - a)=i by omega] at h;rw[h];rcases (by omega:i - a=4) with h3 <;> rw[h3] <;> decide) (fun h h2=>HNA.out h (zGR h2)) 1 (by omega)).mono ?_
  rintro e w11 ⟨rfl,hr11⟩
  try rw[show A1+1=A2 by omega] at hr11
  have HR11:=zz hr11.1;have HX11:=zz (hr11.2.blk HX10.out hsz10 hpX);have HE11:=zz (HE10.out.trans (hr11.2.mono (by omega) (fun _ h=>h)));have hsz11:w.heap.size<w11.heap.size:=HX11.out.lt;clear hr11 HR10 HX10 HE10 hsz10;have c2:=HR11.out.at2;have f2:w11.frozen? ⟨p,2,none⟩=false:=Blk.free HR11.out 2;have HR12:=zz (HR11.out.set2 true);have HX12:=zz (HX11.out.set_other ⟨p,2,none⟩ (.bool true) hpX);have HE12:=zz (HE11.out.setCell p 2 (.inl rfl) (.bool true));have hsz12:w.heap.size<(w11.setCell ⟨p,2,none⟩ (.bool true)).heap.size:=HX12.out.lt;go_upto_region 25 with fail
  generalize w11.setCell ⟨p,2,none⟩ (.bool true)=w12 at HR12 HX12 HE12 hsz12 ⊢;clear c2 f2 HR11 HX11 HE11 hsz11;have c0:=HR12.out.at0;have c1:=HR12.out.at1;go_upto_region 28 with fail
  have HGj:=zz (HG.out.ex HE12.out hp)
  have HER:Hid (Calls Tryz.prog 109 #[.string (zAc (sub S a A5))] w12.drew fun e w'=>e=.returned (.tuple #[.int .u64 4609434218613702656,.nilIface])/\Below w12.drew.heap.size w12.drew w'):=zz (by
   rw[HSZ.out];exact zMB w12.drew (HGj.out.step (zAd (zK _ _) 1)))
  go_region_with (go_at_call 109;go_must (refine HER.out.mono ?_;rintro e w91 ⟨rfl,hb91⟩;have HB91:=zz hb91;clear hb91))
  all_goals (
   have hb:Below w12.heap.size w12 w91:=(zAd (zK w12.heap.size w12) 1).trans HB91.out;have HR91:Hid (Rd w91 p S A5 true):=zz (Blk.below HR12.out hb (Blk.lt HR12.out));have HX91:=zz (HX12.out.below hb hsz12);have HE91:=zz (HE12.out.trans (Ex.of_below (hb.mono (Nat.le_of_lt hsz12))));have hsz91:w.heap.size<w91.heap.size:=HX91.out.lt;have HOF:=zz (zOe w91 (HG.out.ex HE91.out hp));clear hb HB91 HR12 HX12 HE12 hsz12 c0 c1 HER HGj;go_wp2_with fail
   refine HOF.out.mono ?_;rintro e w92 ⟨rfl,hb2⟩;have HR92:Hid (Rd w92 p S A5 true):=zz (Blk.below HR91.out hb2 (Blk.lt HR91.out));have HX92:=zz (HX91.out.below hb2 hsz91);have HE92:=zz (HE91.out.trans (Ex.of_below (hb2.mono (Nat.le_of_lt hsz91))));dsimp only;go_step;refine wpList_store_row rfl 31 _ _ rfl w.heap.size zDP rfl rfl 31 _ HX92.out (by kernel_rfl) rfl (zAo _ _ _ _ _ _ _ _ rfl rfl) ?_;have HFIN:Hid (Blk (w92.setRow w.heap.size zDP) w.heap.size zDP 31):=zz (setRow_heap _ _ _ _ _ _ HX92.out);have HLEAF:Hid (zAm (w92.setRow w.heap.size zDP) (fun k=>w.heap.size<=k) zHt 0 (.agg zDP)):=zz (zK4 _ _);go_wp2;exact bodyPost_ret (v:=.agg zDP) (results_cell_row rfl _ _ w.heap.size 31 _ (0,0) _ rfl HFIN.out Tryz.underlying31 rfl (by kernel_rfl)) rfl ⟨Rs.setRow ⟨HR92.out,HE92.out⟩ (zQ _) hpX _,_,rfl,HLEAF.out⟩))
end Go.Proofs.YtcanfakaigpkgaaGreatDoor.D
