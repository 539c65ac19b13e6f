/-
  Of the proof that the law DiagUnlike answers true at every two values: a part, without conditions of its own.
-/
import Derived.Test.YtcanfakaigpkgaaGreatDoorPart23
import Derived.Test.YtcanfakaigpkgaaGreatDoorPart18
import Derived.Test.YtcanfakaigpkgaaGreatDoorPart21
set_option linter.unusedVariables false
set_option linter.unusedSimpArgs false
set_option maxRecDepth 100000
set_option maxHeartbeats 8000000
namespace Go.Proofs.YtcanfakaigpkgaaGreatDoor.D
open Go Go.RowKit Limb
theorem zHr(w:World)(hG:GW w):Calls Tryz.prog 83 #[.int .u64 zBz] w fun e w'=>e=.returned (.tuple #[.agg #[.bool false,.string ⟨#[49,53]⟩,.int .i64 1],.bool true])/\Below w.heap.size w w':=by
 obtain⟨w1,hw1⟩:∃ w1,w1=w.alloc (.cells #[.bool false,.string ⟨#[]⟩,.int .i64 0] 130):=⟨_,rfl⟩;have hb1:Below w.heap.size w w1:=by rw[hw1];exact (zK _ _).alloc (zQ _) _
 have hB1:Blk w1 w.heap.size #[.bool false,.string ⟨#[]⟩,.int .i64 0] 130:=by rw[hw1];exact Blk.new _ _ _
 have HG1:=zz (hG.step hb1);have HB1:=zz hb1;have HBL1:=zz hB1;have HW1:=zz hw1;have n1:bits .and .u64 zBz 9223372036854775808=0:=zBN.1;have n2:bits .andNot .u64 zBz 9223372036854775808=zBz:=by unfold zBz;decide
 have x1:bits BinOp.xor IntKind.u64 IntKind.u64.max 0=18446744073709551615:=by decide
 have x2:IntKind.u64.wrap (18446744073709551615 - 18446744073709551615 / 2)=9223372036854775808:=by decide
 have x3:IntKind.u64.wrap 9223372036854775808=9223372036854775808:=by decide
 clear hG hb1 hB1 hw1;have HCL:=zz (zCg w1 HG1.out.s zBz zBN);go_enter Tryz.func83,Tryz.ntmps83
 go_wp2_with fail
 change Calls _ _ _ (w.alloc (.cells #[.bool false,.string ⟨#[]⟩,.int .i64 0] 130)) _;rw[<-HW1.out];refine HCL.out.mono ?_;rintro e w2 ⟨rfl,hb2⟩;have HB2:=zz (HB1.out.trans (hb2.mono HB1.out.size));have HBL2:=zz (HBL1.out.below hb2 HBL1.out.lt);have HG2:=zz (HG1.out.step hb2);clear hb2 HCL HB1 HBL1 HG1;go_wp2_with fail
 refine (zLy w2).mono ?_;rintro e w3 ⟨rfl,rfl⟩;have HST:=zz (zJ9 w3 6755399441055744 0 52 (-52) (by decide) (by decide) (Or.inl rfl) (by decide) (by decide));rw[show 6755399441055744*2 ^ (1+0)=13510798882111488 by decide,show 1*2 ^ (1+52)=9007199254740992 by decide,show (6755399441055744 % 2 == 0)=true by decide,show 1*2 ^ 0=1 by decide] at HST;have HST:Hid (Calls Tryz.prog 135 #[.int .u64 6755399441055744,.int .i64 (-52),.bool false] w3 fun r w'=>Below w3.heap.size w3 w'/\∃ R,r=.returned (.pointer (some ⟨R,0,none⟩))/\w3.heap.size<=R/\Rt w' R 13510798882111488 9007199254740992 1 1 true):=HST;go_wp2_with fail
 refine HST.out.mono ?_;rintro e w4 ⟨hb4,R,rfl,hR,hRt⟩;have HB4:=zz (HB2.out.trans (hb4.mono HB2.out.size));have HBL4:=zz (HBL2.out.below hb4 HBL2.out.lt);have HG4:=zz (HG2.out.step hb4);have HR4:=zz hRt;have HRW:Hid (w.heap.size<R):=zz (by have:=HBL2.out.lt;omega);clear hb4 hR hRt HST HB2 HBL2 HG2;have HFR:=zz (zAH w4 6755399441055744 (by decide));have HFR:Hid (Calls Tryz.prog 137 #[.int .u64 6755399441055744] w4 fun e w'=>Below w4.heap.size w4 w'/\∃ v',e=.returned v'/\zAf w' v' (zAb 6755399441055744)):=HFR;go_wp2_with fail
 refine HFR.out.mono ?_;rintro e w5 ⟨hb5,v5,rfl,hv5⟩;have HB5:=zz (HB4.out.trans (hb5.mono HB4.out.size));have HBL5:=zz (HBL4.out.below hb5 HBL4.out.lt);have HG5:=zz (HG4.out.step hb5);have HR5:=zz (HR4.out.below hb5);have hlen:=zBs w5 v5 _ hv5 (zAj (by decide) _ (by decide));rw[zAe,zA0 (n:=6755399441055744) (k:=53) (by decide) (by decide) (by decide)] at hlen;have hlen:Calls Tryz.prog 78 #[v5] w5 fun e w'=>w'=w5/\e=.returned (.int .i64 53):=hlen
 have HLEN:=zz hlen;clear hb5 hv5 hlen HFR HB4 HBL4 HG4 HR4;go_wp2_with fail
 refine HLEN.out.mono ?_;rintro e w6 ⟨rfl,rfl⟩;have HSC:=zz (zJW w6 HG5.out R HR5.out);go_wp2_with fail
 refine HSC.out.mono ?_;rintro e w7 ⟨rfl,hR7,hE7⟩;have HB7:=zz (HB5.out.trans (hE7.below (B':=w.heap.size) HB5.out.size (fun k hk=>by have:=HRW.out;omega)));have HBL7:=zz (hE7.blk HBL5.out HBL5.out.lt (by have:=HRW.out;omega));have HR7:=zz hR7;clear hR7 hE7 HSC HLEN HB5 HBL5 HG5 HR5;obtain⟨w8,hw8⟩:∃ w8,w8=w7.alloc (.cells #[.bool false,.string ⟨#[]⟩,.int .i64 1] 130):=⟨_,rfl⟩;have hb8:Below w7.heap.size w7 w8:=by rw[hw8];exact (zK _ _).alloc (zQ _) _
 have hB8:Blk w8 w7.heap.size #[.bool false,.string ⟨#[]⟩,.int .i64 1] 130:=by rw[hw8];exact Blk.new _ _ _
 have HW8:=zz hw8;have HQ8:=zz hB8;have HR8:=zz (HR7.out.below hb8);have HB8:=zz (HB7.out.trans (hb8.mono HB7.out.size));have HBL8:=zz (HBL7.out.below hb8 HBL7.out.lt);have HQW:Hid (w.heap.size<w7.heap.size/\R<w7.heap.size):=zz ⟨HBL7.out.lt,HR7.out.lt⟩;have HDG:=zz (zKk w8 R HR8.out);clear hw8 hb8 hB8 HR7 HB7 HBL7;go_wp2_with fail
 change Calls _ _ _ (w7.alloc (.cells #[.bool false,.string ⟨#[]⟩,.int .i64 1] 130)) _;rw[<-HW8.out];refine HDG.out.mono ?_;rintro e w9 ⟨hE9,g,cap,rfl,hg9,hO9⟩;have HB9:=zz (HB8.out.trans (hE9.below (B':=w.heap.size) HB8.out.size (fun k hk=>by have:=HRW.out;omega)));have HBL9:=zz (hE9.blk HBL8.out HBL8.out.lt (by have:=HRW.out;omega));have HQ9:=zz (hE9.blk HQ8.out HQ8.out.lt (by have:=HQW.out;omega))
 have hrow:∃ cur,Blk w9 g cur 5/\cur[0]?=some (.int .u8 1)/\cur[1]?=some (.int .u8 5):=by
  obtain⟨_,⟨h0,_⟩|⟨g',cap',cur,hv,_,hc,_,_,_,ht⟩⟩:=hO9
  ·simp at h0
  ·simp only[Value.slice.injEq,Option.some.injEq,Addr.mk.injEq] at hv;obtain⟨⟨rfl,-⟩,-,-⟩:=hv;have h0:(cur.toList.take 2)[0]?=some (.int .u8 1):=by rw[show (2:Nat)=([1,5]:List UInt8).length*1 from rfl,ht];rfl
   have h1:(cur.toList.take 2)[1]?=some (.int .u8 5):=by rw[show (2:Nat)=([1,5]:List UInt8).length*1 from rfl,ht];rfl
   rw[List.getElem?_take,if_pos (by decide),Array.getElem?_toList] at h0 h1;exact⟨cur,hc,h0,h1⟩
 obtain⟨cur,hcur,hc0,hc1⟩:=hrow;have HGW:Hid (w.heap.size<g/\w7.heap.size<g):=zz (by have:=HQ8.out.lt;have:=HQW.out;omega);have HCU:=zz hcur;have HC1:=zz hc1;generalize w7.heap.size=Q at HQ9 HGW HQW ⊢;clear HW8 HQ8 HR8 HB8 HBL8 HDG hE9 hg9 hO9 hcur hc1;go_wp2;refine wp_loop_rounds 3 ?_;rw[rounds_succ];have k0:w9.cell? ⟨g,0,none⟩=some (.int .u8 1):=by rw[HCU.out.cell];exact hc0
 have f0:=HCU.out.free 0;have HCA:=zz (HCU.out.set 0 (.int .u8 49));have HBA:=zz (HB9.out.setCell (p:=⟨g,0,none⟩) (Nat.le_of_lt HGW.out.1) (.int .u8 49));have HLA:=zz (HBL9.out.set_other ⟨g,0,none⟩ (.int .u8 49) (by have:=HGW.out;simp;omega));have HQA:=zz (HQ9.out.set_other ⟨g,0,none⟩ (.int .u8 49) (by have:=HGW.out;simp;omega));go_wp2;clear k0 f0;generalize w9.setCell ⟨g,0,none⟩ (.int .u8 49)=wa at HCA HBA HLA HQA ⊢;rw[rounds_succ];have k1:wa.cell? ⟨g,1,none⟩=some (.int .u8 5):=by rw[HCA.out.cell,Array.getElem?_setIfInBounds_ne (by decide)];exact HC1.out
 have f1:=HCA.out.free 1;have HCB:=zz (HCA.out.set 1 (.int .u8 53));have HBB:=zz (HBA.out.setCell (p:=⟨g,1,none⟩) (Nat.le_of_lt HGW.out.1) (.int .u8 53));have HLB:=zz (HLA.out.set_other ⟨g,1,none⟩ (.int .u8 53) (by have:=HGW.out;simp;omega));have HQB:=zz (HQA.out.set_other ⟨g,1,none⟩ (.int .u8 53) (by have:=HGW.out;simp;omega));go_wp2;clear k1 f1;generalize wa.setCell ⟨g,1,none⟩ (.int .u8 53)=wb at HCB HBB HLB HQB ⊢;rw[rounds_succ]
 have hcv:(convert 47 9 (.slice (some ⟨g,0,none⟩) 2 cap)).run Tryz.prog wb=.ok (.string ⟨#[49,53]⟩) wb:=zAN wb g 0 2 cap [49,53] rfl (fun i hi=>by
  rcases (by omega:i=0 \/ i=1) with rfl|rfl
  ·rw[HCB.out.cell,Array.getElem?_setIfInBounds_ne (by decide),Array.getElem?_setIfInBounds_self_of_lt (Array.getElem?_eq_some_iff.1 hc0).1];rfl
  ·rw[HCB.out.cell,Array.getElem?_setIfInBounds_self_of_lt (by rw[Array.size_setIfInBounds];exact (Array.getElem?_eq_some_iff.1 HC1.out).1)];rfl)
 have q1:wb.cell? ⟨Q,1,none⟩=some (.string ⟨#[]⟩):=HQB.out.cell 1;have q1f:=HQB.out.free 1;have HQC:=zz (HQB.out.set 1 (.string ⟨#[49,53]⟩));have HBC:=zz (HBB.out.setCell (p:=⟨Q,1,none⟩) (Nat.le_of_lt HQW.out.1) (.string ⟨#[49,53]⟩));have HLC:=zz (HLB.out.set_other ⟨Q,1,none⟩ (.string ⟨#[49,53]⟩) (by have:=HQW.out;simp;omega));go_upto_region 18 with fail
 clear q1 q1f hcv;generalize wb.setCell ⟨Q,1,none⟩ (.string ⟨#[49,53]⟩)=wc at HQC HBC HLC ⊢;have z0:wc.cell? ⟨Q,0,none⟩=some (.bool false):=HQC.out.cell 0;have z1:wc.cell? ⟨Q,1,none⟩=some (.string ⟨#[49,53]⟩):=HQC.out.cell 1;have z2:wc.cell? ⟨Q,2,none⟩=some (.int .i64 1):=HQC.out.cell 2;have y0:wc.cell? ⟨w.heap.size,0,none⟩=some (.bool false):=HLC.out.cell 0;have y1:wc.cell? ⟨w.heap.size,1,none⟩=some (.string ⟨#[]⟩):=HLC.out.cell 1;have y2:wc.cell? ⟨w.heap.size,2,none⟩=some (.int .i64 0):=HLC.out.cell 2;have g0:=HLC.out.free 0;have g1:=HLC.out.free 1;have g2:=HLC.out.free 2;go_wp2;have HLD:=zz (((HLC.out.set 0 (.bool false)).set 1 (.string ⟨#[49,53]⟩)).set 2 (.int .i64 1));have HBD:=zz (((HBC.out.setCell (p:=⟨w.heap.size,0,none⟩) (zQ _) (.bool false)).setCell (p:=⟨w.heap.size,1,none⟩) (zQ _) (.string ⟨#[49,53]⟩)).setCell (p:=⟨w.heap.size,2,none⟩) (zQ _) (.int .i64 1));clear z0 z1 z2 y0 y1 y2 g0 g1 g2;generalize ((wc.setCell ⟨w.heap.size,0,none⟩ (.bool false)).setCell ⟨w.heap.size,1,none⟩ (.string ⟨#[49,53]⟩)).setCell ⟨w.heap.size,2,none⟩ (.int .i64 1)=wd at HLD HBD ⊢;have y0:wd.cell? ⟨w.heap.size,0,none⟩=some (.bool false):=HLD.out.cell 0;have y1:wd.cell? ⟨w.heap.size,1,none⟩=some (.string ⟨#[49,53]⟩):=HLD.out.cell 1;have y2:wd.cell? ⟨w.heap.size,2,none⟩=some (.int .i64 1):=HLD.out.cell 2;exact bodyPost_ret (v:=.tuple #[.agg #[.bool false,.string ⟨#[49,53]⟩,.int .i64 1],.bool true]) (by simp[results,Tryz.results83,go_sem,y0,y1,y2]) rfl ⟨rfl,HBD.out⟩
theorem zKd(w:World):Calls Tryz.prog 139 #[.int .u8 49] w fun e w'=>e=.returned (.bool true)/\w'=w:=by
 go_enter Tryz.func139,Tryz.ntmps139
 go_wp2;go_ret;exact⟨rfl,rfl⟩
theorem zKv(w:World):Calls Tryz.prog 139 #[.int .u8 53] w fun e w'=>e=.returned (.bool true)/\w'=w:=by
 go_enter Tryz.func139,Tryz.ntmps139
 go_wp2;go_ret;exact⟨rfl,rfl⟩
theorem zLt(w:World):Calls Tryz.prog 84 #[.agg #[.bool false,.string ⟨#[49,53]⟩,.int .i64 1]] w fun e w'=>e=.returned (.tuple #[.string (zAc [49,46,53]),.bool true])/\Below w.heap.size w w':=by
 obtain⟨w1,hw1⟩:∃ w1,w1=w.alloc (.cells #[.bool false,.string ⟨#[49,53]⟩,.int .i64 1] 130):=⟨_,rfl⟩;have hb1:Below w.heap.size w w1:=by rw[hw1];exact (zK _ _).alloc (zQ _) _
 have hB1:Blk w1 w.heap.size #[.bool false,.string ⟨#[49,53]⟩,.int .i64 1] 130:=by rw[hw1];exact Blk.new _ _ _
 have HB1:=zz hb1;have HL1:=zz hB1;have HW1:=zz hw1;have c1:w1.cell? ⟨w.heap.size,1,none⟩=some (.string ⟨#[49,53]⟩):=hB1.cell 1;have c2:w1.cell? ⟨w.heap.size,2,none⟩=some (.int .i64 1):=hB1.cell 2;clear hb1 hB1 hw1;go_enter Tryz.func84,Tryz.ntmps84
 go_upto_region 1 with fail
 change Code.wp _ _ _ _ (w.alloc (.cells #[.bool false,.string ⟨#[49,53]⟩,.int .i64 1] 130));rw[<-HW1.out];go_quiet (fail)
 have HB2:=zz (zAd HB1.out nq);have HL2:=zz (HL1.out.drewN nq);clear c1 c2 HB1 HL1 HW1;generalize w1.drewN nq=w2 at HB2 HL2 ⊢;have c0:w2.cell? ⟨w.heap.size,0,none⟩=some (.bool false):=HL2.out.cell 0;have c1:w2.cell? ⟨w.heap.size,1,none⟩=some (.string ⟨#[49,53]⟩):=HL2.out.cell 1;have c2:w2.cell? ⟨w.heap.size,2,none⟩=some (.int .i64 1):=HL2.out.cell 2;go_wp2;refine wp_loop_rounds 3 ?_;rw[rounds_succ];go_wp2_with fail
 refine (zKd w2).mono ?_;rintro e w3 ⟨rfl,rfl⟩;go_wp2;rw[rounds_succ];go_wp2_with fail
 refine (zKv w3).mono ?_;rintro e w4 ⟨rfl,rfl⟩;go_wp2;rw[rounds_succ];have hb5:Below w4.heap.size w4 (w4.alloc (.cells #[.pointer none,.slice none 0 0] 49)):=(zK _ _).alloc (zQ _) _;have hI5:BIs 49 [] w4.heap.size w4.heap.size [] (w4.alloc (.cells #[.pointer none,.slice none 0 0] 49)):=.inl ⟨zQ _,_,Blk.new _ _ _,World.ownsRow_nil _ _ _ _,by simp[Value.ownBlock]⟩;have HB5:=zz (HB2.out.trans (hb5.mono HB2.out.size));have HL5:=zz (HL2.out.below hb5 HL2.out.lt);have HI5:=zz hI5;have HS4:Hid (w4.heap.size<=(w4.alloc (.cells #[.pointer none,.slice none 0 0] 49)).heap.size):=zz hb5.size;have HLT:=zz HL2.out.lt;go_upto_region 11 with fail
 change Code.wp _ _ _ _ (w4.alloc (.cells #[.pointer none,.slice none 0 0] 49));clear c0 c1 c2 hb5 hI5 HB2 HL2;generalize w4.alloc (.cells #[.pointer none,.slice none 0 0] 49)=w5 at HB5 HL5 HI5 HS4 ⊢;generalize w4.heap.size=b at HI5 HS4 HLT ⊢;have c0:w5.cell? ⟨w.heap.size,0,none⟩=some (.bool false):=HL5.out.cell 0;have c1:w5.cell? ⟨w.heap.size,1,none⟩=some (.string ⟨#[49,53]⟩):=HL5.out.cell 1;go_upto_region 23 with fail
 have HWS:Hid (∀ x,x=zAc [49,46,53]->Calls Tryz.prog 72 #[.pointer (some ⟨b,0,none⟩),.string x] w5.drew fun e w'=>e=.returned (.tuple #[.int .i64 3,.nilIface])/\BIs 49 [] b b [49,46,53] w'/\Wk b b w5.drew w'):=zz (fun x hx=>by
  subst hx;refine (zAY zCG b b [] [49,46,53] w5.drew (HI5.out.below (zAd (zK w5.heap.size w5) 1)) (by decide) HS4.out).mono ?_;rintro e w' ⟨rfl,h1,h2⟩;exact⟨rfl,.inr h1,h2⟩)
 go_region_with (go_at_call 72;go_must (refine (HWS.out _ (by rfl)).mono ?_;rintro e w9 ⟨rfl,hI9,hk9⟩))
 all_goals (
  have HBS:=zz (zBg b b [49,46,53] w9 (hI9.has (by simp)));have HB9:=zz ((zAd HB5.out 1).trans (hk9.1.mono (Nat.le_of_lt HLT.out)));clear hI9 hk9 HWS c0 c1;go_wp2_with fail
  refine HBS.out.mono ?_;rintro e wa ⟨rfl,_,hba⟩;have HBa:=zz (HB9.out.trans (hba.mono (Nat.le_of_lt HLT.out)));clear hba;go_wp2;go_ret2
  exact⟨rfl,HBa.out⟩)
theorem zIn(w:World)(hG:GW w):Calls Tryz.prog 41 #[.int .u64 zBz] w fun e w'=>e=.returned (.string (zAc [49,46,53]))/\Below w.heap.size w w':=by
 have HCL:=zz (zCg w hG.s zBz zBN);have HG:=zz hG;clear hG;go_enter Tryz.func41,Tryz.ntmps41
 go_wp2_with fail
 refine HCL.out.mono ?_;rintro e w1 ⟨rfl,hb1⟩;have HB1:=zz hb1;have HDG:=zz (zHr w1 (HG.out.step hb1));clear hb1 HCL HG;go_wp2_with fail
 refine HDG.out.mono ?_;rintro e w2 ⟨rfl,hb2⟩;have HB2:=zz (HB1.out.trans (hb2.mono HB1.out.size));clear hb2 HB1 HDG;obtain⟨w3,hw3⟩:∃ w3,w3=w2.alloc (.cells #[.bool false,.string ⟨#[49,53]⟩,.int .i64 1] 130):=⟨_,rfl⟩;have HB3:Hid (Below w.heap.size w w3):=zz (by rw[hw3];exact HB2.out.alloc HB2.out.size _);have HW3:=zz hw3;have HLY:=zz (zLt w3);clear hw3 HB2;go_wp2_with fail
 change Calls _ _ _ (w2.alloc (.cells #[.bool false,.string ⟨#[49,53]⟩,.int .i64 1] 130)) _;rw[<-HW3.out];refine HLY.out.mono ?_;rintro e w4 ⟨rfl,hb4⟩;have HB4:=zz (HB3.out.trans (hb4.mono HB3.out.size));clear hb4 HB3 HLY;go_wp2;go_ret;exact⟨rfl,HB4.out⟩
end Go.Proofs.YtcanfakaigpkgaaGreatDoor.D

namespace Go.Proofs.YtcanfakaigpkgaaGreatDoor.D
open Go Go.RowKit Limb
theorem zKh(w:World)(b:Int)(neg:Bool)(m e:Nat)(hm:m<18446744073709551616)(he:e<=2000)
  (HP:∀ w',Below w.heap.size w w'->Calls Tryz.prog 175 #[.int .u64 b] w' fun e' w''=>e'=.returned (.tuple #[.bool neg,.int .u64 (m:Int),.int .i64 (e:Int),.bool true])/\Below w'.heap.size w' w'') :
  Calls Tryz.prog 124 #[.int .u64 b] w fun e' w'=>(∃ nb bb k c,e'=.returned (.tuple #[.agg #[.bool nb,.slice bb k c],.bool true]))/\Below w.heap.size w w':=by
 have hbx:Below w.heap.size w (w.alloc (.cells #[.bool false,.slice none 0 0] 28)):=(zK _ _).alloc (zQ _) _;have hB:=Blk.new w #[.bool false,.slice none 0 0] 28;have HP1:=zz (HP _ hbx);have HB:=zz hB;have HX:=zz hbx;have he0:¬ (e:Int)<0:=by omega
 clear HP hbx hB;go_enter Tryz.func124,Tryz.ntmps124
 go_wp2_with fail
 refine HP1.out.mono ?_;rintro e' w1 ⟨rfl,hb1⟩;have HB1:=zz (HB.out.below hb1 HB.out.lt);have HX1:=zz (HX.out.trans (hb1.mono HX.out.size));clear hb1 HB HX HP1;go_wp2_with fail
 refine (zAH w1 m hm).mono ?_;rintro e' w2 ⟨hb2,v2,rfl,hv2⟩;have HB2:=zz (HB1.out.below hb2 HB1.out.lt);have HX2:=zz (HX1.out.trans (hb2.mono HX1.out.size));have HSH:=zz (zGG w2 v2 _ e hv2 (zAj hm _ (by omega)) (by rw[zAe];have:=zCj hm;omega))
 have hlen:(zAb (val (zAb m)*2 ^ e)).length<=34359738368:=by
  rw[zAe];refine zJ (zEw (i:=2) (j:=e+1) (zAj hm _ (by omega)) ?_) (by omega);apply zAq;have h1:2 ^ e<=4294967296 ^ e:=Nat.pow_le_pow_left (by omega) e;have h2:4294967296 ^ e<4294967296 ^ (e+1):=Nat.pow_lt_pow_right (by omega) (by omega);omega
 have HLEN:=zz hlen;clear hb2 HB1 HX1 hv2 hlen;go_wp2_with fail
 refine HSH.out.mono ?_;rintro e' w3 ⟨hb3,v3,rfl,hv3⟩;have HB3:=zz (HB2.out.below hb3 HB2.out.lt);have HX3:=zz (HX2.out.trans (hb3.mono HX2.out.size));have HN:=zz (zKB w3 neg v3 _ hv3 HLEN.out);obtain⟨b3,c3,h3⟩:=hv3.slice;obtain⟨l3,hl3⟩:∃ l3,l3=(zAb (val (zAb m)*2 ^ e)).length:=⟨_,rfl⟩;rw[<-hl3] at h3;subst h3;clear hl3;clear hb3 HB2 HX2 hv3 HSH HLEN;go_wp2_with fail
 refine HN.out.mono ?_;rintro e' w4 ⟨hb4,v4,rfl,hv4,_⟩;obtain⟨b4,c4,h4⟩:=hv4.slice;obtain⟨l4,hl4⟩:∃ l4,l4=(zAb (val (zAb (val (zAb m)*2 ^ e)))).length:=⟨_,rfl⟩;rw[<-hl4] at h4;subst h4;have HB4:=HB3.out.below hb4 HB3.out.lt;have HX4:=zz (HX3.out.trans (hb4.mono HX3.out.size));have c0:=HB4.cell 0;have c1:=HB4.cell 1;have f0:=HB4.free 0;have f1:=HB4.free 1;simp only[zv,zk,zx] at c0 c1;clear hb4 HB3 HX3 HN hv4 hl4 HB4;generalize zM2 neg (val (zAb (val (zAb m)*2 ^ e)))=nb;go_wp2;refine bodyPost_ret (v:=.tuple #[.agg #[.bool nb,.slice b4 l4 c4],.bool true]) (by simp[results,Tryz.results124,go_sem,c0,c1]) rfl ⟨⟨_,_,_,_,rfl⟩,?_⟩;exact (HX4.out.setCell (by simp) _).setCell (by simp) _
theorem zMq(w:World)(b:Int)(neg:Bool)(m e:Int)(he:e<0)
  (HP:∀ w',Below w.heap.size w w'->Calls Tryz.prog 175 #[.int .u64 b] w' fun e' w''=>e'=.returned (.tuple #[.bool neg,.int .u64 m,.int .i64 e,.bool true])/\Below w'.heap.size w' w'') :
  Calls Tryz.prog 124 #[.int .u64 b] w fun e' w'=>(∃ nb bb k c,e'=.returned (.tuple #[.agg #[.bool nb,.slice bb k c],.bool false]))/\Below w.heap.size w w':=by
 have hbx:Below w.heap.size w (w.alloc (.cells #[.bool false,.slice none 0 0] 28)):=(zK _ _).alloc (zQ _) _;have hB:=Blk.new w #[.bool false,.slice none 0 0] 28;have HP1:=zz (HP _ hbx);have HB:=zz hB;have HX:=zz hbx;clear HP hbx hB;go_enter Tryz.func124,Tryz.ntmps124
 go_wp2_with fail
 refine HP1.out.mono ?_;rintro e' w1 ⟨rfl,hb1⟩;have hB1:=HB.out.below hb1 HB.out.lt;have c0:=hB1.cell 0;have c1:=hB1.cell 1;have f0:=hB1.free 0;have f1:=hB1.free 1;simp only[zv,zk,zx] at c0 c1;have HB1:=zz (HX.out.trans (hb1.mono HX.out.size));clear hb1 hB1 HB HX HP1;go_wp2;refine bodyPost_ret (v:=.tuple #[.agg #[.bool false,.slice none 0 0],.bool false]) (by simp[results,Tryz.results124,go_sem,c0,c1]) rfl ⟨⟨_,_,_,_,rfl⟩,?_⟩;exact (HB1.out.setCell (by simp) _).setCell (by simp) _
theorem zIP(w:World)(hG:GV w)(b:Nat)(hb:b<18446744073709551616)(h0:b % 9223372036854775808=0):
  Calls Tryz.prog 175 #[.int .u64 (b:Int)] w fun e' w'=>e'=.returned (.tuple #[.bool (decide (9223372036854775808<=b)),.int .u64 0,.int .i64 0,.bool true])/\Below w.heap.size w w':=by
 have HS:=zz (fun w hG=>zCz w hG b hb);rw[h0] at HS;have HS:Hid (∀ w,zAK w->Calls Tryz.prog 53 #[.int .u64 (b:Int)] w fun e w'=>e=.returned (.tuple #[.bool (decide (9223372036854775808<=b)),.int .u64 0])/\Below w.heap.size w w'):=HS;clear hb h0;generalize decide (9223372036854775808<=b)=sg at HS ⊢;generalize (b:Int)=B at HS ⊢;have HG:=zz hG;clear hG;have HI:Hid (∀ w,Calls Tryz.prog 133 #[.agg #[.int .i64 52,.int .i64 (-1074),.int .i64 11]] w fun e w'=>e=.returned (.int .u64 9218868437227405312)/\Below w.heap.size w w'):=zz (fun w=>zDH w);go_enter Tryz.func175,Tryz.ntmps175
 go_wp2_with fail
 refine (zCy w HG.out.g.s).mono ?_;rintro e' w1 ⟨rfl,hb1⟩;have hG1:=HG.out.step hb1;go_upto_region 2 with fail
 have hbx:Below w1.heap.size w1 (w1.alloc (.cells #[.int .i64 52,.int .i64 (-1074),.int .i64 11] 144)):=(zK _ _).alloc (zQ _) _;have hB:=Blk.new w1 #[.int .i64 52,.int .i64 (-1074),.int .i64 11] 144;have hG2:=hG1.step hbx;have hbb:=hb1.trans (hbx.mono hb1.size);obtain⟨X,hX⟩:∃ X,X=w1.heap.size:=⟨_,rfl⟩;rw[<-hX] at hB ⊢;clear hb1 hG1 hbx hX;generalize w1.alloc (.cells #[.int .i64 52,.int .i64 (-1074),.int .i64 11] 144)=w2 at hB hG2 hbb ⊢;go_wp2_with fail
 refine (HS.out w2 hG2.g.s).mono ?_;rintro e' w3 ⟨rfl,hb3⟩;have hB3:=hB.below hb3 hB.lt;have hbb3:=hbb.trans (hb3.mono hbb.size);have d0:=hB3.cell 0;have d1:=hB3.cell 1;have d2:=hB3.cell 2;simp only[zv,zk,zx] at d0 d1 d2;clear hb3 hB hbb hG2 HS;go_wp2_with fail
 refine (HI.out w3).mono ?_;rintro e' w4 ⟨rfl,hb4⟩;have hbb4:=zz (hbb3.trans (hb4.mono hbb3.size));clear d0 d1 d2 hb4 hbb3 hB3;go_wp2;refine bodyPost_ret (v:=.tuple #[.bool sg,.int .u64 0,.int .i64 0,.bool true]) (by simp[results,Tryz.results175,go_sem]) rfl ⟨rfl,hbb4.out⟩
theorem zJ7{s n o:Nat}(h:sM s=2 ^ n*(2*o+1))(hw:zNU 1075 s):1074<=sK s+n:=by
 rcases hw with hw|⟨a,ha⟩
 ·omega
 ·rcases Nat.lt_or_ge (sK s+n) 1074 with h1|h1
  ·exfalso
   rw[h] at ha;obtain⟨d,hd⟩:∃ d,1075=(sK s+n+1)+(d+1):=⟨1074 - (sK s+n) - 1,by omega⟩;have hd':2 ^ 1075=2 ^ (sK s+n+1)*(2 ^ d*2):=by rw[hd,Nat.pow_add _ (sK s+n+1) (d+1),Nat.pow_succ _ d]
   generalize 2 ^ 1075=E at ha hd';subst hd'
   have e1:2*(2 ^ n*(2*o+1))*2 ^ sK s=2 ^ (sK s+n+1)*(2*o+1):=by
    rw[Nat.pow_succ,Nat.pow_add];grind
   rw[e1,show a*(2 ^ (sK s+n+1)*(2 ^ d*2))=2 ^ (sK s+n+1)*(2*(a*2 ^ d)) by grind] at ha;have:=Nat.eq_of_mul_eq_mul_left (Nat.two_pow_pos _) ha;omega
  ·exact h1
theorem zJY(w:World)(hG:GV w)(b:Nat)(hb:b<18446744073709551616):
  Calls Tryz.prog 74 #[.int .u64 (b:Int)] w fun e' w'=>(∃ fb,e'=.returned (.bool fb)/\(fb=true->zGE b))/\Below w.heap.size w w':=by
 have HCL:=zz (zEC w hG.g.s b hb);have HG:=zz hG;clear hG;by_cases k1:9218868437227405312<b % 9223372036854775808
 ·rw[show zCV (b % 9223372036854775808)=5 by unfold zCV;rw[if_pos k1]] at HCL
  have hq:((b:Int) == 9221120237041090560)=decide (b=9221120237041090560):=by
   by_cases h:b=9221120237041090560
   ·rw[h];rfl
   ·rw[decide_eq_false h];exact beq_eq_false_iff_ne.2 (by omega)
  have HOK:Hid (decide (b=9221120237041090560)=true->zGE b):=zz (fun h=>.inl (of_decide_eq_true h));generalize decide (b=9221120237041090560)=fb at hq HOK;clear k1 hb;generalize (b:Int)=B at *;go_enter Tryz.func74,Tryz.ntmps74
  go_wp2_with fail
  refine HCL.out.mono ?_;rintro e' w1 ⟨rfl,hb1⟩;have HB1:=zz hb1;clear hb1;go_wp2;go_ret;exact⟨⟨fb,rfl,HOK.out⟩,HB1.out⟩
 ·by_cases k2:b % 9223372036854775808=9218868437227405312
  ·rw[show zCV (b % 9223372036854775808)=4 by unfold zCV;rw[if_neg k1,if_pos k2]] at HCL;have HOK:Hid (zGE b):=zz (.inr (.inl k2));clear k1 k2 hb;generalize (b:Int)=B at *;go_enter Tryz.func74,Tryz.ntmps74
   go_wp2_with fail
   refine HCL.out.mono ?_;rintro e' w1 ⟨rfl,hb1⟩;have HB1:=zz hb1;clear hb1;go_wp2;go_ret;exact⟨⟨true,rfl,fun _=>HOK.out⟩,HB1.out⟩
  ·obtain⟨cl,hcl⟩:∃ cl,cl=zCV (b % 9223372036854775808):=⟨_,rfl⟩;have hc5:(cl == 5)=false:=beq_eq_false_iff_ne.2 (by rw[hcl];unfold zCV;rw[if_neg k1,if_neg k2];split <;> (try split) <;> decide);have hc4:(cl == 4)=false:=beq_eq_false_iff_ne.2 (by rw[hcl];unfold zCV;rw[if_neg k1,if_neg k2];split <;> (try split) <;> decide);rw[<-hcl] at HCL
   have HINT:Hid (∃ is,(is=false->zGE b)/\∀ w',Below w.heap.size w w'->Calls Tryz.prog 124 #[.int .u64 (b:Int)] w' fun e' w''=>(∃ nb bb k c,e'=.returned (.tuple #[.agg #[.bool nb,.slice bb k c],.bool is]))/\Below w'.heap.size w' w''):=zz (by
    by_cases k3:b % 9223372036854775808=0
    ·exact⟨true,Bool.noConfusion,fun w' hb'=>zKh w' (b:Int) (decide (9223372036854775808<=b)) 0 0 (by omega) (by omega) (fun w'' hb''=>zIP w'' ((HG.out.step hb').step hb'') b hb k3)⟩
    ·obtain⟨n,o,hno,hn64,_⟩:=zGl w HG.out b hb (by omega) k3;have hK:sK (b % 9223372036854775808)<=2048:=by unfold sK;split <;> omega
     have hP:∀ w'',GV w''->Calls Tryz.prog 175 #[.int .u64 (b:Int)] w'' fun e' w'=>e'=.returned (.tuple #[.bool (decide (9223372036854775808<=b)),.int .u64 ((2*o+1:Nat):Int),.int .i64 ((sK (b % 9223372036854775808):Int) - 1074+(n:Int)),.bool true])/\Below w''.heap.size w'' w':=fun w'' hG''=>by
      obtain⟨n',o',hno',_,hc⟩:=zGl w'' hG'' b hb (by omega) k3;rw[hno] at hno';obtain⟨rfl,rfl⟩:=zNx hno';exact hc
     by_cases he:1074<=sK (b % 9223372036854775808)+n
     ·refine⟨true,Bool.noConfusion,fun w' hb'=>zKh w' (b:Int) (decide (9223372036854775808<=b)) (2*o+1) (sK (b % 9223372036854775808)+n - 1074) ?_ (by omega) (fun w'' hb''=>?_)⟩
      ·have:=zJk (b % 9223372036854775808);have h1:2*o+1<=2 ^ n*(2*o+1):=Nat.le_mul_of_pos_left _ (Nat.two_pow_pos n);omega
      ·have:=hP w'' ((HG.out.step hb').step hb'');rw[show ((sK (b % 9223372036854775808):Int) - 1074+(n:Int))=((sK (b % 9223372036854775808)+n - 1074:Nat):Int) by omega] at this;exact this
     ·refine⟨false,fun _=>.inr (.inr ⟨by omega,by omega,fun hw=>he (zJ7 hno hw)⟩),fun w' hb'=>zMq w' (b:Int) (decide (9223372036854775808<=b)) _ _ (by omega) (fun w'' hb''=>hP w'' ((HG.out.step hb').step hb''))⟩)
   clear k1 k2 hb hcl;obtain⟨is,his,hI⟩:=HINT.out;have HIS:=zz his;have HI:=zz hI;clear HINT his hI;generalize (b:Int)=B at *;go_enter Tryz.func74,Tryz.ntmps74
   go_wp2_with fail
   refine HCL.out.mono ?_;rintro e' w1 ⟨rfl,hb1⟩;have HB1:=zz hb1;have HI1:=zz (HI.out w1 hb1);clear hb1;go_wp2_with fail
   refine HI1.out.mono ?_;rintro e' w2 ⟨⟨nb,bb,k,c,rfl⟩,hb2⟩;have HB2:=zz ((HB1.out.trans (hb2.mono HB1.out.size)).alloc (zJ HB1.out.size hb2.size) (.cells #[.bool nb,.slice bb k c] 28));clear hb2
   cases is with
   | true=>
    go_wp2;go_ret
    exact⟨⟨false,rfl,fun h=>by cases h⟩,HB2.out⟩
   | false=>
    go_wp2;go_ret;exact⟨⟨true,rfl,fun _=>HIS.out (by first|rfl|trivial)⟩,HB2.out⟩
def IsB(K:Bool->Prop)(e:Ending):Prop:=∃ B,e=.returned (.bool B)/\K B
theorem IsB.mk{K:Bool->Prop}{e:Ending}(B:Bool)(h:e=.returned (.bool B))(k:K B):IsB K e:=⟨B,h,k⟩
theorem zFj{l:List Nat}(hf:Fit l)(hp:0<l.length)(h:l.getD (l.length - 1) 0≠0):l=zAb (val l):=by
 rw[<-zAv hf,<-zC6 l l.length (fun i h1 h2=>by omega) (fun _=>h),List.take_length]
theorem zI9(w:World)(neg:Bool)(v:Value)(l:List Nat)(h:zAf w v l)(hl:l.length<=1048576):
  Calls Tryz.prog 73 #[.agg #[.bool neg,v]] w fun e w'=>IsB (fun B=>B=true->∃ x,l=zAb x/\(x=0->neg=false)) e/\Below w.heap.size w w':=by
 have hb:Below w.heap.size w (w.alloc (.cells #[.bool neg,v] 28)):=(zK _ _).alloc (zQ _) _;have h':=h.below hb;by_cases hx:l=[]
 ·obtain⟨bb,c,hv⟩:=h.slice;subst hx;simp only[List.length_nil] at hv;subst hv;have HB:=zz hb;clear h h' hl hb
  cases neg with
  | true=>
   go_enter Tryz.func73,Tryz.ntmps73
   go_wp2;go_ret
   exact⟨IsB.mk false rfl (fun h=>Bool.noConfusion h),HB.out⟩
  | false=>
   go_enter Tryz.func73,Tryz.ntmps73
   go_wp2;go_ret;exact⟨IsB.mk true rfl (fun _=>⟨0,zAn.symm,fun _=>(by first|rfl|trivial)⟩),HB.out⟩
 ·have hp:0<l.length:=by
   rcases Nat.eq_zero_or_pos l.length with h|h
   ·exact absurd (List.eq_nil_of_length_eq_zero h) hx
   ·exact h
  have hlim:=zFj h.fit hp;obtain⟨hf,⟨h1,h2⟩|⟨blk,off,cap,rfl,h1,h2,h3,h4⟩⟩:=h'
  ·exact absurd h2 hx
  ·have hc:=h4 (l.length - 1) (by omega);obtain⟨B,hB⟩:∃ B,B=decide (l.getD (l.length - 1) 0≠0):=⟨_,rfl⟩
   have g0:((((l.getD (l.length - 1) 0:Nat):Int)) != 0)=B:=by
    rw[hB];by_cases hz:l.getD (l.length - 1) 0=0
    ·rw[hz];rfl
    ·rw[decide_eq_true hz,bne_iff_ne];omega
   have HRES:Hid (B=true->∃ x,l=zAb x/\(x=0->neg=false)):=zz (fun hb1=>by
    rw[hB] at hb1;have hz:=of_decide_eq_true hb1;refine⟨val l,hlim hz,fun h0=>?_⟩;have e:=hlim hz;rw[h0,zAn] at e;exact absurd e hx)
   generalize ((((l.getD (l.length - 1) 0:Nat):Int)))=q at hc g0;have HB:=zz hb;clear h4 hf h hB hlim hb hx;generalize l.length=n at *;have g1:((n:Int) - 1).toNat=n - 1:=by omega
   have g2:(0:Int)<=(n:Int) - 1:=by omega
   have g3:(n:Int) - 1<(n:Int):=by omega
   have g4:IntKind.i64.wrap ((n:Int) - 1)=(n:Int) - 1:=zY _ (by omega);have g5:((n:Int) == 0)=false:=beq_eq_false_iff_ne.2 (by omega);have g6:(0:Int)<(n:Int):=by omega
   go_enter Tryz.func73,Tryz.ntmps73
   go_wp2;go_ret;exact⟨IsB.mk B rfl HRES.out,HB.out⟩
theorem zIQ(w:World)(n:Int):
  Calls Tryz.prog 77 #[.int .u64 n] w fun e w'=>IsB (fun _=>True) e/\w'=w:=by
 by_cases h1:n<20
 ·go_enter Tryz.func77,Tryz.ntmps77
  go_wp2;go_ret;exact⟨IsB.mk _ rfl trivial,rfl⟩
 ·have h1':¬ n<20:=h1
  cases h2:(n == 23) with
  | true=>
   go_enter Tryz.func77,Tryz.ntmps77
   go_wp2;go_ret
   exact⟨IsB.mk _ rfl trivial,rfl⟩
  | false=>
   by_cases h3:32<=n
   ·go_enter Tryz.func77,Tryz.ntmps77
    go_wp2;go_ret;exact⟨IsB.mk _ rfl trivial,rfl⟩
   ·have h3':¬ 32<=n:=h3;go_enter Tryz.func77,Tryz.ntmps77
    go_wp2;go_ret;exact⟨IsB.mk _ rfl trivial,rfl⟩
theorem zI5(w:World)(N m d:Nat)(hG:zAK w)(hN:N<=w.heap.size)(b o cap:Nat)(kb:Option Addr)(xs:Nat->Array Value)(fs:Nat->VT)(hb:0<m->kb=some ⟨b,o,none⟩/\b<N/\zBO w b o m xs)
  (hm:m<=1048576) (hf:∀ i,i<m->zAl w N (fs i) (.agg (xs i))/\(fs i).small d) :
  Calls Tryz.prog 76 #[.slice kb m cap] w fun e w'=>IsB (fun B=>B=true->m % 2=0) e/\Below w.heap.size w w':=by
 have HB:=zz hb;have HF:=zz hf;have HS:=zz hG;have HN:=zz hN;clear hb hf hG hN;go_enter Tryz.func76,Tryz.ntmps76
 go_wp2;go_loopw [3] (fun iv wr=>∃ p q:Nat,q=p+2/\p<=m+1/\iv=.int .i64 (q:Int)/\Hid (Below w.heap.size w wr)) (fun iv _=>m+4 - (intOf iv).toNat)
 case atStart=>exact⟨0,2,rfl,by omega,rfl,zz (zK _ _)⟩
 case round=>
  obtain⟨p,q,hq,hp,rfl,HBr⟩:=hrel;by_cases h1:q<m
  ·have hI:(q:Int)<(m:Int):=by omega
   have gw:IntKind.i64.wrap ((q:Int) - 2)=(p:Int):=by rw[zY _ (by omega)];omega
   have gi:IntKind.i64.wrap ((q:Int)+2)=((q+2:Nat):Int):=by rw[zY _ (by omega)];omega
   have hpm:(p:Int)<(m:Int):=by omega
   have HPQ:Hid (q=p+2/\q<m):=zz ⟨hq,h1⟩;obtain⟨rfl,hbN,hrow⟩:=HB.out (by omega);have hT1:=zAl.below (HBr.out.mono HN.out) _ _ (HF.out p (by omega)).1;have hT2:=zAl.below (HBr.out.mono HN.out) _ _ (HF.out q h1).1;obtain⟨_,hx1⟩:=(hrow.below (HBr.out.mono HN.out) hbN) p (by omega);obtain⟨_,hx2⟩:=(hrow.below (HBr.out.mono HN.out) hbN) q h1
   have HC:Hid (∀ w',Below wr.heap.size wr w'->Calls Tryz.prog 8 #[.agg (xs p),.agg (xs q)] w' fun e w''=>(∃ c:Int,e=.returned (.int .i64 c))/\Below w'.heap.size w' w''):=zz (fun w' hb'=>by
    have hbb:=HBr.out.trans (hb'.mono HBr.out.size);refine (zCm (fs p) (fs q) w' N _ _ d (HS.out.below hbb HS.out.size) (zJ HN.out hbb.size) (zAl.below (hb'.mono (zJ HN.out HBr.out.size)) _ _ hT1) (zAl.below (hb'.mono (zJ HN.out HBr.out.size)) _ _ hT2) (HF.out p (by omega)).2 (HF.out q h1).2).mono ?_;rintro e w'' ⟨⟨c,rfl,_⟩,h⟩;exact⟨⟨c,rfl⟩,h⟩)
   obtain⟨a1,kind1,mb1,mn1,mc1,kb1,kn1,kc1,hxk1⟩:=hT1.cells;obtain⟨a2,kind2,mb2,mn2,mc2,kb2,kn2,kc2,hxk2⟩:=hT2.cells;simp only[Value.agg.injEq] at hxk1 hxk2;rw[hxk1] at hx1 HC;rw[hxk2] at hx2 HC;have d0:=hx1 0 (by omega);have d1:=hx1 1 (by omega);have d2:=hx1 2 (by omega);have d3:=hx1 3 (by omega);have d4:=hx1 4 (by omega);have d5:=hx1 5 (by omega);have d6:=hx1 6 (by omega);have d7:=hx1 7 (by omega);have e0:=hx2 0 (by omega);have e1:=hx2 1 (by omega);have e2:=hx2 2 (by omega);have e3:=hx2 3 (by omega);have e4:=hx2 4 (by omega);have e5:=hx2 5 (by omega);have e6:=hx2 6 (by omega);have e7:=hx2 7 (by omega);simp only[zAh,zAa,zv,zk,zx,Nat.add_zero] at d0 d1 d2 d3 d4 d5 d6 d7 e0 e1 e2 e3 e4 e5 e6 e7;simp only[zAh,zAa] at HC;clear hx1 hx2 hxk1 hxk2 hT1 hT2 hrow hq h1 hp;go_upto_region 4 with fail
   go_cut [20] from 10 to 20 (fun bv wx=>(∃ B:Bool,bv=.bool B)/\Hid (Below wr.heap.size wr wx))
   case first=>
    go_region_with (go_at_call 8;go_must (refine (HC.out _ (zAd (zK wr.heap.size wr) 1)).mono ?_;rintro e w9 ⟨⟨c,rfl⟩,hb9⟩))
    all_goals (
     have HB9:=zz ((zAd (zK wr.heap.size wr) 1).trans hb9);clear hb9 d0 d1 d2 d3 d4 d5 d6 d7 e0 e1 e2 e3 e4 e5 e6 e7;go_wp2;go_meet
     exact⟨⟨_,rfl⟩,HB9⟩)
   case rest=>
   obtain⟨⟨B,rfl⟩,HB9⟩:=hcut;have HBz:=zz (HBr.out.trans (HB9.out.mono HBr.out.size));clear d0 d1 d2 d3 d4 d5 d6 d7 e0 e1 e2 e3 e4 e5 e6 e7 HC
   cases B with
   | true=>
    go_wp2;go_ret
    exact⟨IsB.mk false rfl (fun h=>Bool.noConfusion h),HBz.out⟩
   | false=>
    go_wp2;go_roundw
    case rel=>exact⟨p+2,q+2,by have:=HPQ.out;omega,by have:=HPQ.out;omega,rfl,HBz⟩
    case measure=>have:=HPQ.out;simp[intOf];omega
  ·have hI:¬ (q:Int)<(m:Int):=by omega
   have hmod:(m:Int).tmod 2=((m % 2:Nat):Int):=by rw[Int.tmod_eq_emod_of_nonneg (by omega)];omega
   have hmod2:IntKind.i64.wrap ((m % 2:Nat):Int)=((m % 2:Nat):Int):=zY _ (by omega)
   have hbz:(((m % 2:Nat):Int) == 0)=decide (m % 2=0):=by
    rcases Nat.mod_two_eq_zero_or_one m with h|h <;> rw[h] <;> rfl
   have HE:Hid (decide (m % 2=0)=true->m % 2=0):=zz of_decide_eq_true;generalize decide (m % 2=0)=B at hbz HE;generalize ((m % 2:Nat):Int)=M2 at *;clear hq hp;go_wp2;go_ret;exact⟨IsB.mk B rfl HE.out,HBr.out⟩
end Go.Proofs.YtcanfakaigpkgaaGreatDoor.D
