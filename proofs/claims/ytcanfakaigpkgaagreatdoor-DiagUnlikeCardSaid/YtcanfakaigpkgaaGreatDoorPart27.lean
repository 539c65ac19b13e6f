/-
  Of the proof that the law DiagUnlike answers true at every two values: a part, without conditions of its own.
-/
import Derived.Test.YtcanfakaigpkgaaGreatDoorPart26
set_option linter.unusedVariables false
set_option linter.unusedSimpArgs false
set_option maxRecDepth 100000
set_option maxHeartbeats 8000000
namespace Go.Proofs.YtcanfakaigpkgaaGreatDoor.D
open Go Go.RowKit Limb
attribute [local go_sem high] zAI zAg zBv zAz
structure Dg (D:List UInt8):Prop where
 h1:1<=D.length
 h9:D.length<=9
 hd:∀ i,i<D.length->48<=(D.getD i 0).toNat/\(D.getD i 0).toNat<=57
 h0:(D.getD 0 0).toNat≠48
theorem zPR{D:List UInt8}(h:Dg D):∀ k,k<=D.length->dec D k<10 ^ k:=by
 intro k
 induction k with
 | zero=>intro _;simp[dec]
 | succ k ih=>
  intro hk;have:=ih (by omega);have hc:=h.hd k (by omega);rw[dec,Nat.pow_succ];omega
theorem zCT(w:World)(D:List UInt8)(hD:Dg D)(hn:dec D D.length≠2/\dec D D.length≠3):
  Calls Tryz.prog 104 #[.string (zAc D)] w fun e w'=>e=.returned (.tuple #[.int .u64 (dec D D.length:Nat),.bool true])/\Below w.heap.size w w':=by
 have HQ:=zz (zDo w D hD.h1 hD.h9 hD.hd hD.h0);have hlt:=zPR hD D.length (zQ _);have hp:10 ^ D.length<=10 ^ 9:=Nat.pow_le_pow_right (by omega) hD.h9;have h9:=hD.h9;obtain⟨n,hn'⟩:∃ n,n=dec D D.length:=⟨_,rfl⟩;rw[<-hn'] at HQ hlt hn ⊢;have g1:¬ (20:Int)<(D.length:Int):=by omega
 have g2:((n:Int) != 2)=true:=by rw[bne_iff_ne];omega
 have g3:((n:Int) != 3)=true:=by rw[bne_iff_ne];omega
 clear hn' hn hD;go_enter Tryz.func104,Tryz.ntmps104
 go_wp2_with fail
 refine HQ.out.mono ?_;rintro e w1 ⟨hb1,v1,rfl,hl1⟩;have HB:=zz hb1;have HU:=zz (zDn w1 v1 _ hl1 (by rw[zAe];omega));rw[zAe] at HU;obtain⟨b,c,rfl⟩:=hl1.slice;clear hb1 hl1 HQ;go_wp2_with fail
 refine HU.out.mono ?_;rintro e w2 ⟨rfl,rfl⟩;clear HU;go_wp2;refine bodyPost_ret (v:=.tuple #[.int .u64 (n:Int),.bool true]) (by simp[results,Tryz.results104,go_sem]) rfl ⟨rfl,HB.out⟩
def zK2:List UInt8:=[48,49,50,51,52,53,54,55,56,57]
theorem zJK(x:Nat)(h:x<10):(dig x).toNat=48+x:=by unfold dig;simp;omega
theorem zEL{S:List UInt8}{a:Nat}{c:UInt8}(h:S.getD a 0≠c):ch S a≠b8 c:=by
 intro e;apply h;unfold ch b8 at e;apply UInt8.toNat_inj.1;omega
theorem zK0(x:Nat)(h:x<10):dig x ∈ zK2:=by
 have:∀ x:Fin 10,dig x.val ∈ zK2:=by decide
 exact this ⟨x,h⟩
theorem zPE(x:Nat)(h1:1<=x)(h9:x<10):Dg [dig x]/\dec [dig x] 1=x:=by
 have hn:=zJK x h9;refine⟨⟨by simp,by simp,fun i hi=>?_,?_⟩,?_⟩
 ·obtain rfl:i=0:=by simpa using hi
  simp only[List.getD_cons_zero];omega
 ·simp only[List.getD_cons_zero];omega
 ·simp only[dec,List.getD_cons_zero];omega
def zDh:List UInt8:=[48,49,50,51,52,53,54,55,56,57,40,46,101,69]
theorem zGR{c:UInt8}(h:c ∈ zK2):c ∈ zDh:=by
 have:zK2 ⊆ zDh:=by decide
 exact this h
theorem zOC(S:List UInt8)(a:Nat)(h:a<S.length):sub S a (a+1)=[S.getD a 0]:=by
 unfold sub;rw[show a+1 - a=1 by omega,List.drop_eq_getElem_cons h,List.take_succ_cons,List.take_zero,zw,zZ h];rfl
theorem zH1(w:World)(B x:Nat)(m1:Option Addr)(n m3:Nat)(fs:Nat->F)(h:zAf w (.slice m1 n m3) (zAb x))(hn:New B (.slice m1 n m3))(h1:1<=x)(h9:x<10):zAm w (fun k=>B<=k) (.node [dig x] x fs) 0 (.agg (zAa 3 0 false (.slice m1 n m3) 0 0 (zAc []) (.slice none 0 0))):=by
 refine⟨3,0,_,0,0,[],_,0,rfl,⟨⟨rfl,.inr (.inl ⟨rfl,rfl,rfl,rfl,rfl,x,⟨by omega,rfl⟩,h,?_⟩)⟩,hn⟩,?_,.inl ⟨rfl,rfl,rfl⟩⟩
 ·intro b o k c e;obtain⟨_,⟨_,h⟩|⟨blk,off,cap,h,_,_,h3,_⟩⟩:=h
  ·have hp:=zAk (n:=x) (by omega);rw[h] at hp;simp at hp
  ·rw[h] at e;simp only[Value.slice.injEq,Option.some.injEq,Addr.mk.injEq] at e;obtain⟨⟨rfl,_⟩,_⟩:=e;exact h3
 ·exact⟨fun e=>by omega,fun _=>⟨h1,h9,rfl⟩,fun e=>by omega,fun e=>by omega,fun e=>by omega,fun e=>by omega,fun e=>by omega⟩
theorem zJa(S:List UInt8)(a b ar x:Nat)(fs:Nat->F)(hab:b=a+1)(ha:a<S.length)(hS:S.length<=1099511627776)(h1:1<=x)(h9:x<10)(h2:x≠2/\x≠3)(hc:S.getD a 0=dig x)(hnx:b<S.length->S.getD b 0 ∉ zDh):
  zId 64 [.int .i64 (ar:Int)] S a b (.node [dig x] x fs) 0 false true:=by
 intro w p hG hp hr;obtain⟨hdg,hdec⟩:=zPE x h1 h9;have hdn:=zJK x h9;obtain⟨w0,hw0⟩:∃ w0,w0=w.alloc (.cells zAr 31):=⟨_,rfl⟩;have hb:Below w.heap.size w w0:=by rw[hw0];exact (zK _ _).alloc (zQ _) _
 have hX:Blk w0 w.heap.size zAr 31:=by rw[hw0];exact Blk.new _ _ _
 have hr0:Rd w0 p S a false:=Blk.below hr hb (Blk.lt hr);have hpX:w.heap.size≠p:=by have:=Blk.lt hr;omega
 have hE0:Ex (fun k=>k=p) w.heap.size w w0:=Ex.of_below hb;have hsz0:w.heap.size<w0.heap.size:=hX.lt;have c1:=hr0.at1;have HG:=zz (hG.step hb);have HW0:=zz hw0;have HR0:=zz hr0;have HX0:=zz hX;have HE0:=zz hE0;have hl1:b<=S.length:=by omega
 have hle:a<=b:=by omega
 have HSUB:Hid (sub S a b=[dig x]):=zz (by rw[hab,zOC S a ha,hc]);have HAB:=zz hab;clear hG hw0 hb hX hr0 hr hE0;show Calls _ _ #[_,_] _ _;go_enter Tryz.func64,Tryz.ntmps64
 go_upto_region 1 with fail
 change Code.wp _ _ _ _ (w.alloc (.cells zAr 31));rw[<-HW0.out];go_wp2_with fail
 refine (zDV w0 p S a false HR0.out 45 (fun _=>zEL (c:=45) (by rw[hc];intro e;rw[e] at hdn;exact absurd hdn (by simp;omega)))).mono ?_;rintro e w1 ⟨rfl,n1,rfl⟩;have HR1:=zz (HR0.out.drewN n1);have HX1:=zz (HX0.out.drewN n1);have HE1:=zz (HE0.out.drewN n1);have hsz1:w.heap.size<(w0.drewN n1).heap.size:=hsz0;generalize w0.drewN n1=w1 at HR1 HX1 HE1 hsz1 ⊢;clear HR0 HX0 HE0 hsz0 HW0 c1;have c1:=HR1.out.at1;go_wp2_with fail
 clear c1;refine (zDV w1 p S a false HR1.out 48 (fun _=>zEL (c:=48) (by rw[hc];intro e;rw[e] at hdn;exact absurd hdn (by simp;omega)))).mono ?_;rintro e w2 ⟨rfl,n2,rfl⟩;have HR2:=zz (HR1.out.drewN n2);have HX2:=zz (HX1.out.drewN n2);have HE2:=zz (HE1.out.drewN n2);have hsz2:w.heap.size<(w1.drewN n2).heap.size:=hsz1;generalize w1.drewN n2=w2 at HR2 HX2 HE2 hsz2 ⊢;clear HR1 HX1 HE1 hsz1;go_wp2_with fail
 refine (zBq w2 p S a b false HR2.out zK2 hle hl1 hS (fun i h1 h2=>by
  obtain rfl:i=a:=by omega
  rw[hc];exact zK0 x h9) (fun h h'=>hnx h (zGR h')) 1 (by omega)).mono ?_
 rintro e w3 ⟨rfl,hr3⟩;have HR3:=zz hr3.1;have HX3:=zz (hr3.2.blk HX2.out hsz2 hpX);have HE3:=zz (HE2.out.trans (hr3.2.mono (by omega) (fun _ h=>h)));have hsz3:w.heap.size<w3.heap.size:=HX3.out.lt;clear hr3 HR2 HX2 HE2 hsz2;have c0:=HR3.out.at0;have c1:=HR3.out.at1;clear hab;go_upto_region 11 with fail
 have HT:Hid (∀ w,Calls Tryz.prog 104 #[.string (zAc (sub S a b))] w fun e w'=>e=.returned (.tuple #[.int .u64 (x:Nat),.bool true])/\Below w.heap.size w w'):=zz (by
  intro w;rw[HSUB.out];have:=zCT w [dig x] hdg (by rw[show [dig x].length=1 from rfl,hdec];exact h2)
  rwa [show [dig x].length=1 from rfl,hdec] at this)
 go_region_with (go_at_call 104;go_must (refine (HT.out _).mono ?_;rintro e w9 ⟨rfl,hb9⟩;have HB9:=zz hb9;clear hb9))
 all_goals (
  have hb:Below w3.heap.size w3 w9:=(zAd (zK w3.heap.size w3) 1).trans HB9.out;have HR9:Hid (Rd w9 p S b false):=zz (Blk.below HR3.out hb (Blk.lt HR3.out));have HX9:=zz (HX3.out.below hb hsz3);have HE9:=zz (HE3.out.trans (Ex.of_below (hb.mono (Nat.le_of_lt hsz3))));have hsz9:w.heap.size<w9.heap.size:=HX9.out.lt;clear hb HB9 HR3 HX3 HE3 hsz3 c0 c1 HT;go_wp2_with fail
  refine (zAT w9 p S b false HR9.out [40] (fun h h'=>hnx h (by
   have:([40]:List UInt8) ⊆ zDh:=by decide
   exact this h'))).mono ?_
  rintro e wa ⟨rfl,na,rfl⟩;have HRa:=zz (HR9.out.drewN na);have HXa:=zz (HX9.out.drewN na);have HEa:=zz (HE9.out.drewN na);have hsza:w.heap.size<(w9.drewN na).heap.size:=hsz9;generalize w9.drewN na=wa at HRa HXa HEa hsza ⊢;clear HR9 HX9 HE9 hsz9;go_wp2_with fail
  refine (zDV wa p S b false HRa.out 46 (fun h=>zEL (c:=46) (fun e=>hnx h (by rw[e];decide)))).mono ?_;rintro e wb ⟨rfl,nb,rfl⟩;have HRb:=zz (HRa.out.drewN nb);have HXb:=zz (HXa.out.drewN nb);have HEb:=zz (HEa.out.drewN nb);have hszb:w.heap.size<(wa.drewN nb).heap.size:=hsza;generalize wa.drewN nb=wb at HRb HXb HEb hszb ⊢;clear HRa HXa HEa hsza;go_wp2_with fail
  refine (zAT wb p S b false HRb.out [101,69] (fun h h'=>hnx h (by
   have:([101,69]:List UInt8) ⊆ zDh:=by decide
   exact this h'))).mono ?_
  rintro e wc ⟨rfl,nc,rfl⟩;have hrc:=HRb.out.drewN nc;have hxc:=HXb.out.drewN nc;have hec:=HEb.out.drewN nc;have hszc:w.heap.size<(wb.drewN nc).heap.size:=hszb;generalize wb.drewN nc=wc at hrc hxc hec hszc ⊢;clear HRb HXb HEb hszb;have c2:=hrc.at2;have f2:wc.frozen? ⟨p,2,none⟩=false:=Blk.free hrc 2;have hrd:=hrc.set2 true;have hxd:=hxc.set_other ⟨p,2,none⟩ (.bool true) hpX;have hed:=hec.setCell p 2 (.inl rfl) (.bool true);have hszd:w.heap.size<(wc.setCell ⟨p,2,none⟩ (.bool true)).heap.size:=hxd.lt;go_upto_region 25 with fail
  generalize wc.setCell ⟨p,2,none⟩ (.bool true)=wd at hrd hxd hed hszd ⊢;clear c2 f2 hrc hxc hec hszc;have HRd:=zz hrd;have HXd:=zz hxd;have HEd:=zz hed;clear hrd hxd hed;have c0:=HRd.out.at0;have c1:=HRd.out.at1;go_upto_region 26 with fail
  have HT2:Hid (∀ w,Calls Tryz.prog 106 #[.string (zAc (sub S a b))] w fun e w'=>Below w.heap.size w w'/\∃ v,e=.returned (.tuple #[v,.bool true])/\zAf w' v (zAb x)):=zz (by
   intro w;rw[HSUB.out];have:=zDo w [dig x] hdg.h1 hdg.h9 hdg.hd hdg.h0
   rwa [show [dig x].length=1 from rfl,hdec] at this)
  go_region_with (go_at_call 106;go_must (refine (HT2.out _).mono ?_;rintro e w8 ⟨hb8,v8,rfl,hl8⟩;have HB8:=zz hb8;have HL8:=zz hl8;obtain⟨l1,l3,rfl⟩:=hl8.slice;clear hb8 hl8))
  all_goals (
   have hb:Below wd.heap.size wd w8:=(zAd (zK wd.heap.size wd) 1).trans HB8.out;have HR8:Hid (Rd w8 p S b true):=zz (Blk.below HRd.out hb (Blk.lt HRd.out));have HX8:=zz (HXd.out.below hb hszd);have HE8:=zz (HEd.out.trans (Ex.of_below (hb.mono (Nat.le_of_lt hszd))));have hsz8:w.heap.size<w8.heap.size:=HX8.out.lt;have hlx:zAb x=[x]:=Limb.zAu (by omega) (by omega);have HNM:=zz (zD9 w8 _ _ HL8.out (by rw[hlx];simp));rw[zAe] at HNM;rw[hlx] at HNM ⊢;clear hb HB8 HRd HXd HEd hszd c0 c1 HT2 HL8;go_wp2_with fail
   refine HNM.out.mono ?_;rintro e w7 ⟨hb7,v7,rfl,hl7,_⟩;have HR7:Hid (Rd w7 p S b true):=zz (Blk.below HR8.out hb7 (Blk.lt HR8.out));have HX7:=zz (HX8.out.below hb7 hsz8);have HE7:=zz (HE8.out.trans (Ex.of_below (hb7.mono (Nat.le_of_lt hsz8))));have hsz7:w.heap.size<w7.heap.size:=HX7.out.lt;have HOI:=zz (zLu w7 v7 _ hl7 (by simp));rw[<-hlx,zAe,hlx] at HOI;clear hb7 hl7 HNM HR8 HX8 HE8 hsz8;go_wp2_with fail
   refine HOI.out.mono ?_;rintro e w6 ⟨hb6,v6,rfl,hl6,hn6⟩;obtain⟨m1,m3,rfl⟩:=hl6.slice;have hX4:=HX7.out.below hb6 hsz7;have HE6:=zz (HE7.out.trans (Ex.of_below (hb6.mono (Nat.le_of_lt hsz7))));have HR6:Hid (Rd w6 p S b true):=zz (Blk.below HR7.out hb6 (Blk.lt HR7.out));have HX4:=zz hX4;have HL6:=zz hl6;have HN6:=zz (hn6.mono (Nat.le_of_lt hsz7));clear hX4 hl6 hn6 hb6 HOI HR7 HX7 HE7;dsimp only;go_step;refine wpList_store_row rfl 31 _ _ rfl w.heap.size (zAa 3 0 false (.slice m1 [x].length m3) 0 0 ⟨#[]⟩ (.slice none 0 0)) rfl rfl 31 _ HX4.out (by kernel_rfl) rfl (zAo _ _ _ _ _ _ _ _ rfl rfl) ?_;have HFIN:Hid (Blk (w6.setRow w.heap.size (zAa 3 0 false (.slice m1 [x].length m3) 0 0 ⟨#[]⟩ (.slice none 0 0))) w.heap.size (zAa 3 0 false (.slice m1 [x].length m3) 0 0 ⟨#[]⟩ (.slice none 0 0)) 31):=zz (setRow_heap _ _ _ _ _ _ HX4.out);have hlf:zAf (w6.setRow w.heap.size (zAa 3 0 false (.slice m1 [x].length m3) 0 0 ⟨#[]⟩ (.slice none 0 0))) (.slice m1 [x].length m3) [x]:=HL6.out.setRow HX4.out (by intro i x;match i with|0|1|2|3|4|5|6|7=>simp[zAr]|i+8=>simp[zAr]) _;have HLF:=zz hlf;have HLX:=zz hlx;clear hlf hlx;go_wp2;refine bodyPost_ret (v:=.agg (zAa 3 0 false (.slice m1 [x].length m3) 0 0 (zAc []) (.slice none 0 0))) (results_cell_row rfl _ _ w.heap.size 31 _ (0,0) _ rfl HFIN.out Tryz.underlying31 rfl (by kernel_rfl)) rfl ⟨Rs.setRow ⟨HR6.out,HE6.out⟩ (zQ _) hpX _,_,rfl,zH1 _ _ x _ _ _ _ (by rw[HLX.out];exact HLF.out) HN6.out h1 h9⟩))
end Go.Proofs.YtcanfakaigpkgaaGreatDoor.D
