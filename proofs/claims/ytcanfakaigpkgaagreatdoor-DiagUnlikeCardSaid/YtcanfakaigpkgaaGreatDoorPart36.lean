/-
  Of the proof that the law DiagUnlike answers true at every two values: a part, without conditions of its own.
-/
import Derived.Test.YtcanfakaigpkgaaGreatDoorPart33
set_option linter.unusedVariables false
set_option linter.unusedSimpArgs false
set_option maxRecDepth 100000
set_option maxHeartbeats 8000000
namespace Go.Proofs.YtcanfakaigpkgaaGreatDoor.D
open Go Go.RowKit Limb
theorem zE2(c:UInt8):∀ k,Lib.repeatL [c] k=List.replicate k c
 | 0=>rfl
 | k+1=>by
  have:=zE2 c k;rw[List.replicate_succ,<-this];rfl
theorem zE8(k:Nat)(hk:k<=100000)(w:World):Calls Tryz.prog 140 #[.string (zAc [48]),.int .i64 (k:Int)] w fun e w'=>e=.returned (.string (zAc (List.replicate k 48)))/\Below w.heap.size w w':=by
 have h:=Tryz.strings_Repeat (zAc [48]) k w (by omega) (by rw[zAg];simp;omega);rw[show (zAc [48]).data.toList=[48] from rfl,zE2] at h;exact h
theorem zLA{G:List Nat}(h0:0<G.length)(h:G.getLast?≠some 0):G.getD (G.length - 1) 0≠0:=by
 intro he;apply h;rw[List.getLast?_eq_getElem?,zZ (by omega)];rw[zw,zZ (by omega)] at he;exact congrArg some he
theorem zML{G:List Nat}(h0:0<G.length)(h:G.head?≠some 0):G.getD 0 0≠0:=by
 intro he;apply h;rw[List.head?_eq_getElem?,zZ h0];rw[zw,zZ h0] at he;exact congrArg some he
theorem zPC(G:List Nat)(i:Nat)(hi:i<G.length):ch (G.map dig) i=((dig (G.getD i 0)).toNat:Int):=by
 unfold ch b8;rw[zw,List.getElem?_map,zZ hi,zw,zZ hi];rfl
theorem zHO(S:List UInt8)(b:Nat):sub S 0 b=S.take b:=by simp[sub]
theorem zH5(S:List UInt8)(a:Nat):sub S a S.length=S.drop a:=by
 unfold sub;rw[List.take_of_length_le (by simp)]
theorem zIB(w:World)(ng:Bool)(G:List Nat)(n:Int)(hD:zGq G)(hlast:G.getLast?≠some 0)(hlen:G.length<=96000)(hn1:-20400<=n)(hn2:n<=20400):Calls Tryz.prog 84 #[.agg #[.bool ng,.string (zAc (G.map dig)),.int .i64 n]] w fun e w'=>e=.returned (.tuple #[.string (zAc (zBa ng ++ zDQ G n)),.bool true])/\Below w.heap.size w w':=by
 have h0:0<G.length:=by
  rcases Nat.eq_zero_or_pos G.length with h|h
  ·exact absurd (List.eq_nil_of_length_eq_zero h) hD.ne
  ·exact h
 have HD9:=zz hD.le;have HH0:=zz (zML h0 hD.head);have HL0:=zz (zLA h0 hlast);have HCH:=zz (zPC G);have HNE:=zz hD.ne;obtain⟨D,hDD⟩:∃ D,D=G.map dig:=⟨_,rfl⟩;have hDl:D.length=G.length:=by rw[hDD];simp
 have HDD:=zz hDD;rw[<-hDD];rw[<-hDD] at HCH;obtain⟨k,hk⟩:∃ k,k=G.length:=⟨_,rfl⟩;have HK:=zz hk;have HDL:Hid (D.length=k):=zz (by omega);have hk0:0<k:=by omega
 have hkl:k<=96000:=by omega
 rw[<-hk] at HL0 HCH;clear hD hlast hlen hDD hDl h0;obtain⟨w1,hw1⟩:∃ w1,w1=w.alloc (.cells #[.bool ng,.string (zAc D),.int .i64 n] 130):=⟨_,rfl⟩;have hb1:Below w.heap.size w w1:=by rw[hw1];exact (zK _ _).alloc (zQ _) _
 have hB1:Blk w1 w.heap.size #[.bool ng,.string (zAc D),.int .i64 n] 130:=by rw[hw1];exact Blk.new _ _ _
 have HB1:=zz hb1;have HL1:=zz hB1;have HW1:=zz hw1;have c1:w1.cell? ⟨w.heap.size,1,none⟩=some (.string (zAc D)):=hB1.cell 1;have c2:w1.cell? ⟨w.heap.size,2,none⟩=some (.int .i64 n):=hB1.cell 2;have hsz:(zAc D).size=k:=by rw[zAg];exact HDL.out
 clear hb1 hB1 hw1 hk;go_enter Tryz.func84,Tryz.ntmps84
 go_upto_region 1 with fail
 change Code.wp _ _ _ _ (w.alloc (.cells #[.bool ng,.string (zAc D),.int .i64 n] 130));rw[<-HW1.out];go_quiet (fail)
 have HB2:=zz (zAd HB1.out nq);have HL2:=zz (HL1.out.drewN nq);clear c1 c2 HB1 HL1 HW1;generalize w1.drewN nq=w2 at HB2 HL2 ⊢;have c0:w2.cell? ⟨w.heap.size,0,none⟩=some (.bool ng):=HL2.out.cell 0;have c1:w2.cell? ⟨w.heap.size,1,none⟩=some (.string (zAc D)):=HL2.out.cell 1;have c2:w2.cell? ⟨w.heap.size,2,none⟩=some (.int .i64 n):=HL2.out.cell 2;have hx0:(Instr.index 9 (.string (zAc D)) (.int .i64 0)).run Tryz.prog w2=.ok (.int .u8 (ch D 0)) w2:=zAI w2 D 0 (by rw[HDL.out];exact hk0);have hx1:=zAI w2 D (k - 1) (by rw[HDL.out];omega);have hkk:IntKind.i64.wrap ((k:Int) - 1)=((k - 1:Nat):Int):=by rw[zY _ (by omega)];omega
 have hq0:(ch D 0 == 48)=false:=beq_eq_false_iff_ne.2 (by
  rw[HCH.out 0 hk0,zA4 (HD9.out _ (by rw[zw,zZ (by rw[<-HK.out];exact hk0)];exact List.getElem_mem _))];have:=HH0.out;omega)
 have hq1:(ch D (k - 1) == 48)=false:=beq_eq_false_iff_ne.2 (by
  rw[HCH.out (k - 1) (by omega),zA4 (HD9.out _ (by rw[zw,zZ (by rw[<-HK.out];omega)];exact List.getElem_mem _))];have:=HL0.out;omega)
 have hk00:((k:Int) == 0)=false:=beq_eq_false_iff_ne.2 (by omega);have HKM:Hid (0<k/\k<=96000):=zz ⟨hk0,hkl⟩;have HNN:Hid (-20400<=n/\n<=20400):=zz ⟨hn1,hn2⟩;go_upto_region 4 with fail
 clear hx0 hx1 hq0 hq1 hkk hk00 c0 c2 hn1 hn2;go_wp2;go_loopw [30] (fun iv wr=>∃ i:Nat,i<=k/\iv=.int .i64 (i:Int)/\wr=w2) (fun iv _=>k - (intOf iv).toNat)
 case atStart=>exact⟨0,by omega,rfl,(by first|rfl|trivial)⟩
 case round=>
 obtain⟨i,hi,rfl,rfl⟩:=hrel;by_cases h1:i<k
 ·have hI:(i:Int)<(k:Int):=by omega
  have hxi:=zAI wr D i (by rw[HDL.out];exact h1);rw[HCH.out i h1] at hxi;have HDI:=zz (zJe wr (G.getD i 0) (HD9.out _ (by rw[zw,zZ (by rw[<-HK.out];exact h1)];exact List.getElem_mem _)));have gi:IntKind.i64.wrap ((i:Int)+1)=(i:Int)+1:=zY _ (by omega);generalize ((dig (G.getD i 0)).toNat:Int)=cx at *;go_wp2_with fail
  refine HDI.out.mono ?_;rintro e w3 ⟨rfl,rfl⟩;go_wp2;go_roundw
  case rel=>exact⟨i+1,by omega,by simp,(by first|rfl|trivial)⟩
  case measure=>simp[intOf];omega
 ·obtain rfl:k=i:=by omega
  have hI:¬ (k:Int)<(k:Int):=by omega
  have hb5:Below wr.heap.size wr (wr.alloc (.cells #[.pointer none,.slice none 0 0] 49)):=(zK _ _).alloc (zQ _) _;have hI5:BIs 49 [] wr.heap.size wr.heap.size [] (wr.alloc (.cells #[.pointer none,.slice none 0 0] 49)):=.inl ⟨zQ _,_,Blk.new _ _ _,World.ownsRow_nil _ _ _ _,by simp[Value.ownBlock]⟩;have HB5:=zz (HB2.out.trans (hb5.mono HB2.out.size));have HL5:=zz (HL2.out.below hb5 HL2.out.lt);have HI5:=zz hI5;have HS5:Hid (wr.heap.size<=(wr.alloc (.cells #[.pointer none,.slice none 0 0] 49)).heap.size):=zz hb5.size;have HLT:=zz HL2.out.lt;go_upto_region 11 with fail
  change Code.wp _ _ _ _ (wr.alloc (.cells #[.pointer none,.slice none 0 0] 49));clear c1 hb5 hI5 HB2 HL2;generalize wr.alloc (.cells #[.pointer none,.slice none 0 0] 49)=w5 at HB5 HL5 HI5 HS5 ⊢;generalize wr.heap.size=b at HI5 HS5 HLT ⊢;have c0:w5.cell? ⟨w.heap.size,0,none⟩=some (.bool ng):=HL5.out.cell 0;go_upto_if 41 with fail
  go_cut [5] from 42 to 42 (fun nv wx=>nv=.int .i64 n/\Hid (BIs 49 [] b b (zBa ng) wx)/\Hid (Below w.heap.size w wx)/\Hid (Blk wx w.heap.size #[.bool ng,.string (zAc D),.int .i64 n] 130)/\Hid (b<=wx.heap.size))
  case first=>
   cases ng with
   | true=>
    have HWB:=zz (zCC zCG b b [] 45 w5 HI5.out (by decide) HS5.out);have HWB:Hid (Calls Tryz.prog 87 #[.pointer (some ⟨b,0,none⟩),.int .u8 45] w5 _):=HWB;clear c0;go_wp2_with fail
    refine HWB.out.mono ?_;rintro e w6 ⟨rfl,hb6,hk6⟩;go_wp2;go_meet
    exact⟨rfl,zz (.inr hb6),zz (HB5.out.trans (hk6.1.mono (Nat.le_of_lt HLT.out))),zz (HL5.out.below hk6.1 HLT.out),zz (zJ HS5.out hk6.2.1)⟩
   | false=>
    clear c0;go_wp2;go_meet
    exact⟨rfl,HI5,HB5,HL5,HS5⟩
  case rest=>
  obtain⟨rfl,HI6,HB6,HL6,HS6⟩:=hcut;clear c0 HI5 HB5 HL5 HS5;have HSG:Hid ((zBa ng).length<=1):=zz (by cases ng <;> decide);have HTL:Hid (D.length<=96000):=zz (by have:=HKM.out;have:=HDL.out;omega);have c1:wc.cell? ⟨w.heap.size,1,none⟩=some (.string (zAc D)):=HL6.out.cell 1;have gn:=HNN.out;have gk:=HKM.out;by_cases hA:n<=21/\(k:Int)<=n
  ·obtain⟨hA1,hA2⟩:=hA;obtain⟨m,hm⟩:∃ m,m=(n - (k:Int)).toNat:=⟨_,rfl⟩;have hmw:IntKind.i64.wrap (n - (k:Int))=(m:Int):=by rw[hm,zY _ (by omega)];omega
   have HM:Hid (m<=100000/\m=(n - (k:Int)).toNat):=zz ⟨by omega,hm⟩;clear hm;have HQ7:=zz (zAY zCG b b (zBa ng) D wc HI6.out (by have:=HSG.out;have:=HTL.out;simp;omega) HS6.out);go_wp2_with fail
   refine HQ7.out.mono ?_;rintro e w7 ⟨rfl,hb7,hk7⟩;have HI7:Hid (BIs 49 [] b b ((zBa ng) ++ D) w7):=zz (.inr hb7);have HB7:=zz (HB6.out.trans (hk7.1.mono (Nat.le_of_lt HLT.out)));have HL7:=zz (HL6.out.below hk7.1 HLT.out);have HS7:=zz (zJ HS6.out hk7.2.1);clear hb7 hk7 HQ7 HI6 HB6 HL6 HS6 c1;have c1:w7.cell? ⟨w.heap.size,1,none⟩=some (.string (zAc D)):=HL7.out.cell 1;have HR:=zz (zE8 m HM.out.1 w7);go_wp2_with fail
   refine HR.out.mono ?_;rintro e w8 ⟨rfl,hb8⟩;have HI8:=zz (HI7.out.below hb8);have HB8:=zz (HB7.out.trans (hb8.mono HB7.out.size));have HL8:=zz (HL7.out.below hb8 HL7.out.lt);have HS8:=zz (zJ HS7.out hb8.size);clear hb8 HR HI7 HB7 HL7 HS7 c1;have c1:w8.cell? ⟨w.heap.size,1,none⟩=some (.string (zAc D)):=HL8.out.cell 1;have HQ9:=zz (zAY zCG b b (zBa ng ++ D) (List.replicate m 48) w8 HI8.out (by have:=HSG.out;have:=HTL.out;have:=HM.out.1;simp;omega) HS8.out);go_wp2_with fail
   refine HQ9.out.mono ?_;rintro e w9 ⟨rfl,hb9,hk9⟩;have HI9:Hid (BIs 49 [] b b ((zBa ng ++ D) ++ (List.replicate m 48)) w9):=zz (.inr hb9);have HB9:=zz (HB8.out.trans (hk9.1.mono (Nat.le_of_lt HLT.out)));have HL9:=zz (HL8.out.below hk9.1 HLT.out);have HS9:=zz (zJ HS8.out hk9.2.1);clear hb9 hk9 HQ9 HI8 HB8 HL8 HS8 c1;have c1:w9.cell? ⟨w.heap.size,1,none⟩=some (.string (zAc D)):=HL9.out.cell 1;have HE:=zz (show (zBa ng ++ D) ++ List.replicate m 48=zBa ng ++ zDQ G n from by unfold zDQ;rw[if_pos ⟨by omega,by rw[<-HK.out];omega⟩,HDD.out,HM.out.2,HK.out,List.append_assoc]);have HBS:=zz (zBg b b _ w9 (HI9.out.has (fun h=>by have:=congrArg List.length h;have h2:=HDL.out;have h3:=HKM.out;simp only[List.length_append,List.length_nil] at this;omega)));rw[HE.out] at HBS;clear c1;go_wp2_with fail
   refine HBS.out.mono ?_;rintro e wz ⟨rfl,_,hbz⟩;have HBz:=zz (HB9.out.trans (hbz.mono (Nat.le_of_lt HLT.out)));clear hbz;go_wp2;go_ret2
   exact⟨rfl,HBz.out⟩
  by_cases hB:n<=21/\0<n
  ·obtain⟨hB1,hB2⟩:=hB;have hA':¬ (k:Int)<=n:=fun h=>hA ⟨hB1,h⟩
   obtain⟨m,rfl⟩:∃ m:Nat,n=(m:Int):=⟨n.toNat,by omega⟩;have hmk:m<k:=by omega
   have hs1:∀ w,(Instr.slice 9 (.string (zAc D)) none (some (.int .i64 (m:Int))) none).run Tryz.prog w=.ok (.string (zAc (D.take m))) w:=fun w=>by rw[zCJ w D m (by rw[HDL.out];omega),zHO]
   have hs2:∀ w,(Instr.slice 9 (.string (zAc D)) (some (.int .i64 (m:Int))) none none).run Tryz.prog w=.ok (.string (zAc (D.drop m))) w:=fun w=>by rw[zAz w D m (by rw[HDL.out];omega),zH5]
   have hz1:(zAc (D.take m)).size+(⟨#[46]⟩:ByteArray).size<=9223372036854775807:=by rw[zAg,show (⟨#[46]⟩:ByteArray).size=1 from rfl,List.length_take];have:=HTL.out;omega
   have hz2:(zAc (D.take m) ++ ⟨#[46]⟩).size+(zAc (D.drop m)).size<=9223372036854775807:=by rw[show (⟨#[46]⟩:ByteArray)=zAc [46] from rfl,zBm,zAg,zAg];have:=HTL.out;simp;omega
   have hz3:(zAc (D.take m)).size+1<=9223372036854775807:=by rw[zAg,List.length_take];have:=HTL.out;omega
   have hz4:(zAc (D.take m)).size+1+(zAc (D.drop m)).size<=9223372036854775807:=by rw[zAg,zAg];have:=HTL.out;simp;omega
   have hcat:zAc (D.take m) ++ ⟨#[46]⟩ ++ zAc (D.drop m)=zAc (D.take m ++ [46] ++ D.drop m):=by rw[show (⟨#[46]⟩:ByteArray)=zAc [46] from rfl,zBm,zBm]
   go_upto_region 23 with fail
   have HWS:Hid (∀ x w',x=zAc (D.take m) ++ ⟨#[46]⟩ ++ zAc (D.drop m)->Below wc.heap.size wc w'->Calls Tryz.prog 72 #[.pointer (some ⟨b,0,none⟩),.string x] w' fun e w''=>(∃ z:Int,e=.returned (.tuple #[.int .i64 z,.nilIface]))/\BIs 49 [] b b (zBa ng ++ (D.take m ++ [46] ++ D.drop m)) w''/\Wk b b wc w''):=zz (fun x w' hx hbb=>by
    subst hx;rw[hcat];refine (zAY zCG b b (zBa ng) (D.take m ++ [46] ++ D.drop m) w' (HI6.out.below hbb) (by have:=HSG.out;have:=HTL.out;simp;omega) (zJ HS6.out hbb.size)).mono ?_;rintro e w'' ⟨rfl,h1,h2⟩;exact⟨⟨_,rfl⟩,.inr h1,(Wk.of_below hbb HS6.out).trans h2⟩)
   clear hcat;go_region_with (go_at_call 72;go_must (refine (HWS.out _ _ (by rfl) (zAd (zK wc.heap.size wc) 1)).mono ?_;rintro e w9 ⟨⟨z,rfl⟩,hI9,hk9⟩))
   all_goals (
    have HE:Hid (zBa ng ++ (D.take m ++ [46] ++ D.drop m)=zBa ng ++ zDQ G (m:Int)):=zz (by unfold zDQ;rw[if_neg (by rw[<-HK.out];omega),if_pos ⟨by omega,by omega⟩,HDD.out,Int.toNat_natCast,List.map_take,List.map_drop]);have HBS:=zz (zBg b b _ w9 (hI9.has (by simp)));rw[HE.out] at HBS;have HB9:=zz (HB6.out.trans (hk9.1.mono (Nat.le_of_lt HLT.out)));clear hI9 hk9 HWS c1 hs1 hs2 hz1 hz2 hz3 hz4;go_wp2_with fail
    refine HBS.out.mono ?_;rintro e wz ⟨rfl,_,hbz⟩;have HBz:=zz (HB9.out.trans (hbz.mono (Nat.le_of_lt HLT.out)));clear hbz;go_wp2;go_ret2
    exact⟨rfl,HBz.out⟩)
  by_cases hC:n<=0/\-6<n
  ·obtain⟨hC1,hC2⟩:=hC;have hA':¬ (k:Int)<=n:=by omega
   have hB':¬ 0<n:=by omega
   obtain⟨m,hm⟩:∃ m,m=(-n).toNat:=⟨_,rfl⟩;have hmw:IntKind.i64.wrap (-n)=(m:Int):=by rw[hm,zY _ (by omega)];omega
   have HM:Hid (m<=10/\m=(-n).toNat):=zz ⟨by omega,hm⟩;clear hm;have hz1:(⟨#[48,46]⟩:ByteArray).size+(zAc (List.replicate m 48)).size<=9223372036854775807:=by rw[zAg,show (⟨#[48,46]⟩:ByteArray).size=2 from rfl];have:=HM.out.1;simp;omega
   have hz2:(⟨#[48,46]⟩ ++ zAc (List.replicate m 48)).size+(zAc D).size<=9223372036854775807:=by rw[show (⟨#[48,46]⟩:ByteArray)=zAc [48,46] from rfl,zBm,zAg,zAg];have:=HTL.out;have:=HM.out.1;simp;omega
   have hz3:2+(zAc (List.replicate m 48)).size<=9223372036854775807:=by rw[zAg];have:=HM.out.1;simp;omega
   have hz4:2+(zAc (List.replicate m 48)).size+(zAc D).size<=9223372036854775807:=by rw[zAg,zAg];have:=HTL.out;have:=HM.out.1;simp;omega
   have hcat:⟨#[48,46]⟩ ++ zAc (List.replicate m 48) ++ zAc D=zAc ([48,46] ++ List.replicate m 48 ++ D):=by rw[show (⟨#[48,46]⟩:ByteArray)=zAc [48,46] from rfl,zBm,zBm]
   go_upto_region 25 with fail
   have HR:=zz (fun w=>zE8 m (zJ HM.out.1 (by omega)) w)
   have HWS:Hid (∀ x w',x=⟨#[48,46]⟩ ++ zAc (List.replicate m 48) ++ zAc D->Below wc.heap.size wc w'->Calls Tryz.prog 72 #[.pointer (some ⟨b,0,none⟩),.string x] w' fun e w''=>(∃ z:Int,e=.returned (.tuple #[.int .i64 z,.nilIface]))/\BIs 49 [] b b (zBa ng ++ ([48,46] ++ List.replicate m 48 ++ D)) w''/\Wk b b wc w''):=zz (fun x w' hx hbb=>by
    subst hx;rw[hcat];refine (zAY zCG b b (zBa ng) ([48,46] ++ List.replicate m 48 ++ D) w' (HI6.out.below hbb) (by have:=HSG.out;have:=HTL.out;have:=HM.out.1;simp;omega) (zJ HS6.out hbb.size)).mono ?_;rintro e w'' ⟨rfl,h1,h2⟩;exact⟨⟨_,rfl⟩,.inr h1,(Wk.of_below hbb HS6.out).trans h2⟩)
   clear hcat
   go_region_with (first
    | (go_at_call 140;go_must (refine (HR.out _).mono ?_;rintro e w8 ⟨rfl,hb8⟩;have c1:w8.cell? ⟨w.heap.size,1,none⟩=some (.string (zAc D)):=(HL6.out.drew.below hb8 HL6.out.lt).cell 1;have HB8:=zz hb8;clear hb8))
    | (go_at_call 72;go_must (refine (HWS.out _ _ (by rfl) ((zAd (zK wc.heap.size wc) 1).trans HB8.out)).mono ?_;rintro e w9 ⟨⟨z,rfl⟩,hI9,hk9⟩)))
   all_goals (
    have HE:Hid (zBa ng ++ ([48,46] ++ List.replicate m 48 ++ D)=zBa ng ++ zDQ G n):=zz (by unfold zDQ;rw[if_neg (by rw[<-HK.out];omega),if_neg (by omega),if_pos ⟨by omega,by omega⟩,HDD.out,HM.out.2]);have HBS:=zz (zBg b b _ w9 (hI9.has (by simp)));rw[HE.out] at HBS;have HB9:=zz (HB6.out.trans (hk9.1.mono (Nat.le_of_lt HLT.out)));clear hI9 hk9 HWS c1 hz1 hz2 hz3 hz4;go_wp2_with fail
    refine HBS.out.mono ?_;rintro e wz ⟨rfl,_,hbz⟩;have HBz:=zz (HB9.out.trans (hbz.mono (Nat.le_of_lt HLT.out)));clear hbz;go_wp2;go_ret2
    exact⟨rfl,HBz.out⟩)
  have hs1:∀ w,(Instr.slice 9 (.string (zAc D)) none (some (.int .i64 1)) none).run Tryz.prog w=.ok (.string (zAc (D.take 1))) w:=fun w=>by have:=zCJ w D 1 (by rw[HDL.out];omega);rw[zHO] at this;exact this
  have hs2:∀ w,(Instr.slice 9 (.string (zAc D)) (some (.int .i64 1)) none none).run Tryz.prog w=.ok (.string (zAc (D.drop 1))) w:=fun w=>by have:=zAz w D 1 (by rw[HDL.out];omega);rw[zH5] at this;exact this
  obtain⟨D1,hD1⟩:∃ D1,D1=D.drop 1:=⟨_,rfl⟩;have hD1l:D1.length<=96000:=by rw[hD1];have:=HTL.out;simp;omega
  rw[<-hD1] at hs2;have HD1:=zz hD1;have HD1L:=zz hD1l;clear hD1 hD1l;obtain⟨mid,hmid⟩:∃ mid,mid=if 1<k then [46] ++ D1 else []:=⟨_,rfl⟩
  have HMD:Hid (mid=if 1<k then [46] ++ D1 else []):=zz hmid;have HMID:Hid (mid.length<=96001):=zz (by rw[hmid];split <;> (have:=HD1L.out;first|(simp;done)|(simp;omega)));clear hmid;by_cases hn21:21<n
  ·have hnn:¬ n<=21:=by omega
   have hn0:0<n:=by omega
   have hn00:¬ n<=0:=by omega
   clear hA hB hC;have HQ7:=zz (zAY zCG b b (zBa ng) (D.take 1) wc HI6.out (by have:=HSG.out;have:=HTL.out;simp;omega) HS6.out);go_wp2_with fail
   refine HQ7.out.mono ?_;rintro e w7 ⟨rfl,hb7,hk7⟩;have HI7:Hid (BIs 49 [] b b ((zBa ng) ++ (D.take 1)) w7):=zz (.inr hb7);have HB7:=zz (HB6.out.trans (hk7.1.mono (Nat.le_of_lt HLT.out)));have HL7:=zz (HL6.out.below hk7.1 HLT.out);have HS7:=zz (zJ HS6.out hk7.2.1);clear hb7 hk7 HQ7 HI6 HB6 HL6 HS6 c1;have c1:w7.cell? ⟨w.heap.size,1,none⟩=some (.string (zAc D)):=HL7.out.cell 1;clear hs1;go_upto_if 48 with fail
   go_cut [5] from 48 to 53 (fun nv wx=>nv=.int .i64 n/\Hid (BIs 49 [] b b (zBa ng ++ (D.take 1 ++ mid)) wx)/\Hid (Below w.heap.size w wx)/\Hid (Blk wx w.heap.size #[.bool ng,.string (zAc D),.int .i64 n] 130)/\Hid (b<=wx.heap.size))
   case first=>
    by_cases h1:1<k
    ·have hI1:(1:Int)<(k:Int):=by omega
     have hz1:(⟨#[46]⟩:ByteArray).size+(zAc (D1)).size<=9223372036854775807:=by rw[zAg,show (⟨#[46]⟩:ByteArray).size=1 from rfl];have:=HD1L.out;simp;omega
     have hz3:1+(zAc (D1)).size<=9223372036854775807:=by rw[zAg];have:=HD1L.out;omega
     have HWS:Hid (∀ x,x=⟨#[46]⟩ ++ zAc (D1)->Calls Tryz.prog 72 #[.pointer (some ⟨b,0,none⟩),.string x] w7 fun e w''=>(∃ z:Int,e=.returned (.tuple #[.int .i64 z,.nilIface]))/\BIs 49 [] b b ((zBa ng ++ D.take 1) ++ ([46] ++ D1)) w''/\Wk b b w7 w''):=zz (fun x hx=>by
      subst hx;rw[show (⟨#[46]⟩:ByteArray)=zAc [46] from rfl,zBm];refine (zAY zCG b b (zBa ng ++ D.take 1) ([46] ++ D1) w7 HI7.out (by have:=HSG.out;have:=HTL.out;have:=HD1L.out;simp;omega) HS7.out).mono ?_;rintro e w'' ⟨rfl,h1,h2⟩;exact⟨⟨_,rfl⟩,.inr h1,h2⟩)
     have HM1:Hid (mid=[46] ++ D1):=zz (by rw[HMD.out,if_pos h1]);go_wp2_with (go_at_call 72;go_must (refine (HWS.out _ (by rfl)).mono ?_))
     rintro e w8 ⟨⟨z,rfl⟩,hI8,hk8⟩;have HI8:=zz hI8;have HK8:=zz hk8;clear hI8 hk8 hz1 hz3 c1;go_wp2;go_meet
     exact⟨rfl,zz (by rw[HM1.out,<-List.append_assoc];exact HI8.out),zz (HB7.out.trans (HK8.out.1.mono (Nat.le_of_lt HLT.out))),zz (HL7.out.below HK8.out.1 HLT.out),zz (zJ HS7.out HK8.out.2.1)⟩
    ·have hI1:¬ (1:Int)<(k:Int):=by omega
     have HM1:Hid (mid=[]):=zz (by rw[HMD.out,if_neg h1]);clear c1;go_wp2;go_meet
     exact⟨rfl,zz (by rw[HM1.out,List.append_nil];exact HI7.out),HB7,HL7,HS7⟩
   case rest=>
   obtain⟨rfl,HI,HBB,HLL,HSS⟩:=hcut;clear HI7 HB7 HL7 HS7 c1 hs2;have HI7:=HI;have HB7:=HBB;have HL7:=HLL;have HS7:=HSS;clear HI HBB HLL HSS;obtain⟨m,hm⟩:∃ m,m=(n - 1).toNat:=⟨_,rfl⟩;have hmw:IntKind.i64.wrap (n - 1)=(m:Int):=by rw[hm,zY _ (by omega)];omega
   have hmu:IntKind.u64.wrap (m:Int)=(m:Int):=by rw[IntKind.wrap_u64];omega
   have HM:Hid (m<18446744073709551616/\m=(n - 1).toNat):=zz ⟨by omega,hm⟩;clear hm;have HNUM:=zz (zEV m HM.out.1 wc);go_wp2_with fail
   refine HNUM.out.mono ?_;rintro e w8 ⟨rfl,hb8⟩;have HI8:=zz (HI7.out.below hb8);have HB8:=zz (HB7.out.trans (hb8.mono HB7.out.size));have HS8:=zz (zJ HS7.out hb8.size);clear hb8 HNUM HI7 HB7 HL7 HS7;have hdl:=zB6 HM.out.1;have hz1:(⟨#[101,43]⟩:ByteArray).size+(zAc (zAZ m)).size<=9223372036854775807:=by rw[zAg,show (⟨#[101,43]⟩:ByteArray).size=2 from rfl];omega
   have hz3:2+(zAc (zAZ m)).size<=9223372036854775807:=by rw[zAg];omega
   have HWS:Hid (∀ x,x=⟨#[101,43]⟩ ++ zAc (zAZ m)->Calls Tryz.prog 72 #[.pointer (some ⟨b,0,none⟩),.string x] w8 fun e w''=>(∃ z:Int,e=.returned (.tuple #[.int .i64 z,.nilIface]))/\BIs 49 [] b b ((zBa ng ++ (D.take 1 ++ mid)) ++ ([101,43] ++ zAZ m)) w''/\Wk b b w8 w''):=zz (fun x hx=>by
    subst hx;rw[show (⟨#[101,43]⟩:ByteArray)=zAc [101,43] from rfl,zBm];refine (zAY zCG b b (zBa ng ++ (D.take 1 ++ mid)) ([101,43] ++ zAZ m) w8 HI8.out (by have:=HSG.out;have:=HMID.out;have:=HTL.out;simp;omega) HS8.out).mono ?_;rintro e w'' ⟨rfl,h1,h2⟩;exact⟨⟨_,rfl⟩,.inr h1,h2⟩)
   go_wp2_with (go_at_call 72;go_must (refine (HWS.out _ (by rfl)).mono ?_))
   rintro e w9 ⟨⟨z,rfl⟩,hI9,hk9⟩
   have HE:Hid ((zBa ng ++ (D.take 1 ++ mid)) ++ ([101,43] ++ zAZ m)=zBa ng ++ zDQ G n):=zz (by
    unfold zDQ;rw[if_neg (by rw[<-HK.out];omega),if_neg (by omega),if_neg (by omega),if_pos hn0,HMD.out,<-HM.out.2,HD1.out,HDD.out,HK.out];simp only[List.map_take,List.map_drop,List.append_assoc,List.cons_append,List.nil_append])
   have HBS:=zz (zBg b b _ w9 (hI9.has (by simp)));rw[HE.out] at HBS;have HB9:=zz (HB8.out.trans (hk9.1.mono (Nat.le_of_lt HLT.out)));clear hI9 hk9 HWS hz1 hz3 hdl;go_wp2_with fail
   refine HBS.out.mono ?_;rintro e wz ⟨rfl,_,hbz⟩;have HBz:=zz (HB9.out.trans (hbz.mono (Nat.le_of_lt HLT.out)));clear hbz;go_wp2;go_ret2
   exact⟨rfl,HBz.out⟩
  ·have hnn:n<=21:=by omega
   have hk9:¬ (k:Int)<=n:=fun h=>hA ⟨hnn,h⟩
   have hn0:¬ 0<n:=fun h=>hB ⟨hnn,h⟩
   have hn00:n<=0:=by omega
   have hn6:¬ -6<n:=fun h=>hC ⟨hn00,h⟩
   have hn7:n<=-6:=by omega
   clear hA hB hC;have HQ7:=zz (zAY zCG b b (zBa ng) (D.take 1) wc HI6.out (by have:=HSG.out;have:=HTL.out;simp;omega) HS6.out);go_wp2_with fail
   refine HQ7.out.mono ?_;rintro e w7 ⟨rfl,hb7,hk7⟩;have HI7:Hid (BIs 49 [] b b ((zBa ng) ++ (D.take 1)) w7):=zz (.inr hb7);have HB7:=zz (HB6.out.trans (hk7.1.mono (Nat.le_of_lt HLT.out)));have HL7:=zz (HL6.out.below hk7.1 HLT.out);have HS7:=zz (zJ HS6.out hk7.2.1);clear hb7 hk7 HQ7 HI6 HB6 HL6 HS6 c1;have c1:w7.cell? ⟨w.heap.size,1,none⟩=some (.string (zAc D)):=HL7.out.cell 1;clear hs1;go_upto_if 48 with fail
   go_cut [5] from 48 to 53 (fun nv wx=>nv=.int .i64 n/\Hid (BIs 49 [] b b (zBa ng ++ (D.take 1 ++ mid)) wx)/\Hid (Below w.heap.size w wx)/\Hid (Blk wx w.heap.size #[.bool ng,.string (zAc D),.int .i64 n] 130)/\Hid (b<=wx.heap.size))
   case first=>
    by_cases h1:1<k
    ·have hI1:(1:Int)<(k:Int):=by omega
     have hz1:(⟨#[46]⟩:ByteArray).size+(zAc (D1)).size<=9223372036854775807:=by rw[zAg,show (⟨#[46]⟩:ByteArray).size=1 from rfl];have:=HD1L.out;simp;omega
     have hz3:1+(zAc (D1)).size<=9223372036854775807:=by rw[zAg];have:=HD1L.out;omega
     have HWS:Hid (∀ x,x=⟨#[46]⟩ ++ zAc (D1)->Calls Tryz.prog 72 #[.pointer (some ⟨b,0,none⟩),.string x] w7 fun e w''=>(∃ z:Int,e=.returned (.tuple #[.int .i64 z,.nilIface]))/\BIs 49 [] b b ((zBa ng ++ D.take 1) ++ ([46] ++ D1)) w''/\Wk b b w7 w''):=zz (fun x hx=>by
      subst hx;rw[show (⟨#[46]⟩:ByteArray)=zAc [46] from rfl,zBm];refine (zAY zCG b b (zBa ng ++ D.take 1) ([46] ++ D1) w7 HI7.out (by have:=HSG.out;have:=HTL.out;have:=HD1L.out;simp;omega) HS7.out).mono ?_;rintro e w'' ⟨rfl,h1,h2⟩;exact⟨⟨_,rfl⟩,.inr h1,h2⟩)
     have HM1:Hid (mid=[46] ++ D1):=zz (by rw[HMD.out,if_pos h1]);go_wp2_with (go_at_call 72;go_must (refine (HWS.out _ (by rfl)).mono ?_))
     rintro e w8 ⟨⟨z,rfl⟩,hI8,hk8⟩;have HI8:=zz hI8;have HK8:=zz hk8;clear hI8 hk8 hz1 hz3 c1;go_wp2;go_meet
     exact⟨rfl,zz (by rw[HM1.out,<-List.append_assoc];exact HI8.out),zz (HB7.out.trans (HK8.out.1.mono (Nat.le_of_lt HLT.out))),zz (HL7.out.below HK8.out.1 HLT.out),zz (zJ HS7.out HK8.out.2.1)⟩
    ·have hI1:¬ (1:Int)<(k:Int):=by omega
     have HM1:Hid (mid=[]):=zz (by rw[HMD.out,if_neg h1]);clear c1;go_wp2;go_meet
     exact⟨rfl,zz (by rw[HM1.out,List.append_nil];exact HI7.out),HB7,HL7,HS7⟩
   case rest=>
   obtain⟨rfl,HI,HBB,HLL,HSS⟩:=hcut;clear HI7 HB7 HL7 HS7 c1 hs2;have HI7:=HI;have HB7:=HBB;have HL7:=HLL;have HS7:=HSS;clear HI HBB HLL HSS;obtain⟨m,hm⟩:∃ m,m=(1 - n).toNat:=⟨_,rfl⟩;have hm1:IntKind.i64.wrap (n+1)=n+1:=zY _ (by omega);have hm2:IntKind.i64.wrap (-(n+1))=-(n+1):=zY _ (by omega);have hm3:IntKind.u64.wrap (-(n+1))=-(n+1):=by rw[IntKind.wrap_u64];omega
   have hm4:IntKind.u64.wrap (-(n+1)+2)=(m:Int):=by rw[IntKind.wrap_u64];omega
   have HM:Hid (m<18446744073709551616/\m=(1 - n).toNat):=zz ⟨by omega,hm⟩;clear hm;have HNUM:=zz (zEV m HM.out.1 wc);go_wp2_with fail
   refine HNUM.out.mono ?_;rintro e w8 ⟨rfl,hb8⟩;have HI8:=zz (HI7.out.below hb8);have HB8:=zz (HB7.out.trans (hb8.mono HB7.out.size));have HS8:=zz (zJ HS7.out hb8.size);clear hb8 HNUM HI7 HB7 HL7 HS7;have hdl:=zB6 HM.out.1;have hz1:(⟨#[101,45]⟩:ByteArray).size+(zAc (zAZ m)).size<=9223372036854775807:=by rw[zAg,show (⟨#[101,45]⟩:ByteArray).size=2 from rfl];omega
   have hz3:2+(zAc (zAZ m)).size<=9223372036854775807:=by rw[zAg];omega
   have HWS:Hid (∀ x,x=⟨#[101,45]⟩ ++ zAc (zAZ m)->Calls Tryz.prog 72 #[.pointer (some ⟨b,0,none⟩),.string x] w8 fun e w''=>(∃ z:Int,e=.returned (.tuple #[.int .i64 z,.nilIface]))/\BIs 49 [] b b ((zBa ng ++ (D.take 1 ++ mid)) ++ ([101,45] ++ zAZ m)) w''/\Wk b b w8 w''):=zz (fun x hx=>by
    subst hx;rw[show (⟨#[101,45]⟩:ByteArray)=zAc [101,45] from rfl,zBm];refine (zAY zCG b b (zBa ng ++ (D.take 1 ++ mid)) ([101,45] ++ zAZ m) w8 HI8.out (by have:=HSG.out;have:=HMID.out;have:=HTL.out;simp;omega) HS8.out).mono ?_;rintro e w'' ⟨rfl,h1,h2⟩;exact⟨⟨_,rfl⟩,.inr h1,h2⟩)
   go_wp2_with (go_at_call 72;go_must (refine (HWS.out _ (by rfl)).mono ?_))
   rintro e w9 ⟨⟨z,rfl⟩,hI9,hk9⟩
   have HE:Hid ((zBa ng ++ (D.take 1 ++ mid)) ++ ([101,45] ++ zAZ m)=zBa ng ++ zDQ G n):=zz (by
    unfold zDQ;rw[if_neg (by rw[<-HK.out];omega),if_neg (by omega),if_neg (by omega),if_neg (show ¬ 0<n by omega),HMD.out,<-HM.out.2,HD1.out,HDD.out,HK.out];simp only[List.map_take,List.map_drop,List.append_assoc,List.cons_append,List.nil_append])
   have HBS:=zz (zBg b b _ w9 (hI9.has (by simp)));rw[HE.out] at HBS;have HB9:=zz (HB8.out.trans (hk9.1.mono (Nat.le_of_lt HLT.out)));clear hI9 hk9 HWS hz1 hz3 hdl;go_wp2_with fail
   refine HBS.out.mono ?_;rintro e wz ⟨rfl,_,hbz⟩;have HBz:=zz (HB9.out.trans (hbz.mono (Nat.le_of_lt HLT.out)));clear hbz;go_wp2;go_ret2
   exact⟨rfl,HBz.out⟩
end Go.Proofs.YtcanfakaigpkgaaGreatDoor.D
