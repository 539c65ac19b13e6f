/-
  Of the proof that the law DiagUnlike answers true at every two values: a part, without conditions of its own.
-/
import Derived.Test.YtcanfakaigpkgaaGreatDoorPart32
set_option linter.unusedVariables false
set_option linter.unusedSimpArgs false
set_option maxRecDepth 100000
set_option maxHeartbeats 8000000
namespace Go.Proofs.YtcanfakaigpkgaaGreatDoor.D
open Go Go.RowKit Limb
theorem zOA(most:Int)(w:World)(B p:Nat)(L:List UInt8)(hB:B<=w.heap.size)(hB2:21<B)(hG:GW w)(hW:Wr B p most L w)(mb:Option Addr)(mn mc:Nat)(bits ext:Int)(text:List UInt8)(b o m cap:Nat)(N:Nat)(xs:Nat->Array Value)(ds:Nat->Nat)(fs:Nat->F)(hNB:N<=B)(hrow:zBO w b o m xs)(hbN:b<N)(hm3:m<=3)(hkid:∀ i,i<m->zAU w N (fs i) (ds i) (.agg (xs i)))(hIH:∀ i,i<m->WV most (fs i))(hm:(((L ++ ([91] ++ zAF [44,32] [44,32] m fs m ++ [93])).length:Nat):Int)<=most)(hl:(L ++ ([91] ++ zAF [44,32] [44,32] m fs m ++ [93])).length<=140737488355328):
  Calls Tryz.prog 13 #[.pointer (some ⟨p,0,none⟩),.agg (zAa 7 0 false (.slice mb mn mc) bits ext (zAc text) (.slice (some ⟨b,o,none⟩) m cap))] w fun e w'=>e=.returned (.tuple #[])/\Wr B p most (L ++ ([91] ++ zAF [44,32] [44,32] m fs m ++ [93])) w'/\Wk B p w w':=by
 obtain⟨w0,hw0⟩:∃ w0,w0=w.alloc (.cells (zAa 7 0 false (.slice mb mn mc) bits ext (zAc text) (.slice (some ⟨b,o,none⟩) m cap)) 31):=⟨_,rfl⟩;have hb:Below w.heap.size w w0:=by rw[hw0];exact (zK _ _).alloc (zQ _) _
 have hX:Blk w0 w.heap.size (zAa 7 0 false (.slice mb mn mc) bits ext (zAc text) (.slice (some ⟨b,o,none⟩) m cap)) 31:=by rw[hw0];exact Blk.new _ _ _
 have hB0:B<=w0.heap.size:=zJ hB hb.size;have hW0:Wr B p most L w0:=BIs.below hW hb;have hpX:w.heap.size≠p:=by have:=hW.lt;omega
 have hG0:GW w0:=hG.step hb;have HK0:Hid (Wk B p w w0):=zz (Wk.of_below hb hB);have hNX:N<=w.heap.size:=zJ hNB hB;have hrow0:=hrow.below (hb.mono hNX) hbN;have hkid0:∀ i,i<m->zAU w0 N (fs i) (ds i) (.agg (xs i)):=fun i hi=>zAU.below (hb.mono hNX) _ _ _ (hkid i hi)
 have HQ:=zz (fun w1 (h1:Below w0.heap.size w0 w1)=>zD4 most N B p m b o cap xs ds fs [44,32] [44,32] [91] [93] L w1 hNB (zJ hB0 h1.size) hB2 (hG0.step h1) (BIs.below hW0 h1) (hrow0.below (h1.mono (zJ hNB hB0)) hbN) hbN hm3 (fun i hi=>zAU.below (h1.mono (zJ hNB hB0)) _ _ _ (hkid0 i hi)) hIH (by rw[List.append_assoc,List.append_assoc,<-List.append_assoc [91]];exact hm) (by rw[List.append_assoc,List.append_assoc,<-List.append_assoc [91]];exact hl));have HT:Hid (L ++ [91] ++ zAF [44,32] [44,32] m fs m ++ [93]=L ++ ([91] ++ zAF [44,32] [44,32] m fs m ++ [93])):=zz (by simp only[List.append_assoc]);clear hrow hkid hIH hrow0 hkid0;have c0:=hX.cell 0;have c7:=hX.cell 7;simp only[zAa,zv,zk,zx] at c0 c7;have HX:=zz hX;have HW0:=zz hw0;clear hW hb hX hW0 hw0 hG hG0;simp only[zAa] at HW0 ⊢;go_enter Tryz.func13,Tryz.ntmps13
 go_upto_region 1 with fail
 change Code.wp _ _ _ _ (w.alloc (.cells (zAa 7 0 false (.slice mb mn mc) bits ext (zAc text) (.slice (some ⟨b,o,none⟩) m cap)) 31));simp only[zAa];rw[<-HW0.out];go_wp2_with fail
 refine (HQ.out w0 (zK _ _)).mono ?_;rintro e w9 ⟨rfl,hw9,hk9⟩;rw[HT.out] at hw9;have HW9:=zz hw9;have HK9:=zz (HK0.out.trans hk9);clear hw9 hk9;go_wp2;go_end0
 exact⟨rfl,HW9.out,HK9.out⟩
theorem zPk(most:Int)(w:World)(B p:Nat)(L:List UInt8)(hB:B<=w.heap.size)(hB2:21<B)(hG:GW w)(hW:Wr B p most L w)(mb:Option Addr)(mn mc:Nat)(bits ext:Int)(text:List UInt8)(b o m cap:Nat)(N:Nat)(xs:Nat->Array Value)(ds:Nat->Nat)(fs:Nat->F)(hNB:N<=B)(hrow:zBO w b o m xs)(hbN:b<N)(hm3:m<=3)(hkid:∀ i,i<m->zAU w N (fs i) (ds i) (.agg (xs i)))(hIH:∀ i,i<m->WV most (fs i))(hm:(((L ++ ([123] ++ zAF [58,32] [44,32] m fs m ++ [125])).length:Nat):Int)<=most)(hl:(L ++ ([123] ++ zAF [58,32] [44,32] m fs m ++ [125])).length<=140737488355328):
  Calls Tryz.prog 13 #[.pointer (some ⟨p,0,none⟩),.agg (zAa 8 0 false (.slice mb mn mc) bits ext (zAc text) (.slice (some ⟨b,o,none⟩) m cap))] w fun e w'=>e=.returned (.tuple #[])/\Wr B p most (L ++ ([123] ++ zAF [58,32] [44,32] m fs m ++ [125])) w'/\Wk B p w w':=by
 obtain⟨w0,hw0⟩:∃ w0,w0=w.alloc (.cells (zAa 8 0 false (.slice mb mn mc) bits ext (zAc text) (.slice (some ⟨b,o,none⟩) m cap)) 31):=⟨_,rfl⟩;have hb:Below w.heap.size w w0:=by rw[hw0];exact (zK _ _).alloc (zQ _) _
 have hX:Blk w0 w.heap.size (zAa 8 0 false (.slice mb mn mc) bits ext (zAc text) (.slice (some ⟨b,o,none⟩) m cap)) 31:=by rw[hw0];exact Blk.new _ _ _
 have hB0:B<=w0.heap.size:=zJ hB hb.size;have hW0:Wr B p most L w0:=BIs.below hW hb;have hpX:w.heap.size≠p:=by have:=hW.lt;omega
 have hG0:GW w0:=hG.step hb;have HK0:Hid (Wk B p w w0):=zz (Wk.of_below hb hB);have hNX:N<=w.heap.size:=zJ hNB hB;have hrow0:=hrow.below (hb.mono hNX) hbN;have hkid0:∀ i,i<m->zAU w0 N (fs i) (ds i) (.agg (xs i)):=fun i hi=>zAU.below (hb.mono hNX) _ _ _ (hkid i hi)
 have HQ:=zz (fun w1 (h1:Below w0.heap.size w0 w1)=>zD4 most N B p m b o cap xs ds fs [58,32] [44,32] [123] [125] L w1 hNB (zJ hB0 h1.size) hB2 (hG0.step h1) (BIs.below hW0 h1) (hrow0.below (h1.mono (zJ hNB hB0)) hbN) hbN hm3 (fun i hi=>zAU.below (h1.mono (zJ hNB hB0)) _ _ _ (hkid0 i hi)) hIH (by rw[List.append_assoc,List.append_assoc,<-List.append_assoc [123]];exact hm) (by rw[List.append_assoc,List.append_assoc,<-List.append_assoc [123]];exact hl));have HT:Hid (L ++ [123] ++ zAF [58,32] [44,32] m fs m ++ [125]=L ++ ([123] ++ zAF [58,32] [44,32] m fs m ++ [125])):=zz (by simp only[List.append_assoc]);clear hrow hkid hIH hrow0 hkid0;have c0:=hX.cell 0;have c7:=hX.cell 7;simp only[zAa,zv,zk,zx] at c0 c7;have HX:=zz hX;have HW0:=zz hw0;clear hW hb hX hW0 hw0 hG hG0;simp only[zAa] at HW0 ⊢;go_enter Tryz.func13,Tryz.ntmps13
 go_upto_region 1 with fail
 change Code.wp _ _ _ _ (w.alloc (.cells (zAa 8 0 false (.slice mb mn mc) bits ext (zAc text) (.slice (some ⟨b,o,none⟩) m cap)) 31));simp only[zAa];rw[<-HW0.out];go_wp2_with fail
 refine (HQ.out w0 (zK _ _)).mono ?_;rintro e w9 ⟨rfl,hw9,hk9⟩;rw[HT.out] at hw9;have HW9:=zz hw9;have HK9:=zz (HK0.out.trans hk9);clear hw9 hk9;go_wp2;go_end0
 exact⟨rfl,HW9.out,HK9.out⟩
theorem zN5(most:Int)(w:World)(B p:Nat)(L:List UInt8)(hB:B<=w.heap.size)(hB2:21<B)(hG:GW w)(hW:Wr B p most L w)(mb:Option Addr)(mn mc:Nat)(bits ext:Int)(text:List UInt8)(b o m cap:Nat)(N:Nat)(xs:Nat->Array Value)(ds:Nat->Nat)(fs:Nat->F)(hNB:N<=B)(hrow:zBO w b o m xs)(hbN:b<N)(hm3:m<=3)(hkid:∀ i,i<m->zAU w N (fs i) (ds i) (.agg (xs i)))(hIH:∀ i,i<m->WV most (fs i))(hm:(((L ++ ([49,40] ++ zAF [] [] m fs m ++ [41])).length:Nat):Int)<=most)(hl:(L ++ ([49,40] ++ zAF [] [] m fs m ++ [41])).length<=140737488355328):
  Calls Tryz.prog 13 #[.pointer (some ⟨p,0,none⟩),.agg (zAa 9 1 false (.slice mb mn mc) bits ext (zAc text) (.slice (some ⟨b,o,none⟩) m cap))] w fun e w'=>e=.returned (.tuple #[])/\Wr B p most (L ++ ([49,40] ++ zAF [] [] m fs m ++ [41])) w'/\Wk B p w w':=by
 obtain⟨w0,hw0⟩:∃ w0,w0=w.alloc (.cells (zAa 9 1 false (.slice mb mn mc) bits ext (zAc text) (.slice (some ⟨b,o,none⟩) m cap)) 31):=⟨_,rfl⟩;have hb:Below w.heap.size w w0:=by rw[hw0];exact (zK _ _).alloc (zQ _) _
 have hX:Blk w0 w.heap.size (zAa 9 1 false (.slice mb mn mc) bits ext (zAc text) (.slice (some ⟨b,o,none⟩) m cap)) 31:=by rw[hw0];exact Blk.new _ _ _
 have hB0:B<=w0.heap.size:=zJ hB hb.size;have hW0:Wr B p most L w0:=BIs.below hW hb;have hpX:w.heap.size≠p:=by have:=hW.lt;omega
 have hG0:GW w0:=hG.step hb;have HK0:Hid (Wk B p w w0):=zz (Wk.of_below hb hB);have hNX:N<=w.heap.size:=zJ hNB hB;have hrow0:=hrow.below (hb.mono hNX) hbN;have hkid0:∀ i,i<m->zAU w0 N (fs i) (ds i) (.agg (xs i)):=fun i hi=>zAU.below (hb.mono hNX) _ _ _ (hkid i hi)
 have HQ:=zz (fun w1 (h1:Below w0.heap.size w0 w1)=>zD4 most N B p m b o cap xs ds fs [] [] [49,40] [41] L w1 hNB (zJ hB0 h1.size) hB2 (hG0.step h1) (BIs.below hW0 h1) (hrow0.below (h1.mono (zJ hNB hB0)) hbN) hbN hm3 (fun i hi=>zAU.below (h1.mono (zJ hNB hB0)) _ _ _ (hkid0 i hi)) hIH (by rw[List.append_assoc,List.append_assoc,<-List.append_assoc [49,40]];exact hm) (by rw[List.append_assoc,List.append_assoc,<-List.append_assoc [49,40]];exact hl));have HT:Hid (L ++ [49,40] ++ zAF [] [] m fs m ++ [41]=L ++ ([49,40] ++ zAF [] [] m fs m ++ [41])):=zz (by simp only[List.append_assoc]);clear hrow hkid hIH hrow0 hkid0;have c0:=hX.cell 0;have c1:=hX.cell 1;have c7:=hX.cell 7;simp only[zAa,zv,zk,zx] at c0 c1 c7;have HX:=zz hX;have HW0:=zz hw0;clear hW hb hX hW0 hw0 hG hG0;simp only[zAa] at HW0 ⊢;go_enter Tryz.func13,Tryz.ntmps13
 go_upto_region 1 with fail
 change Code.wp _ _ _ _ (w.alloc (.cells (zAa 9 1 false (.slice mb mn mc) bits ext (zAc text) (.slice (some ⟨b,o,none⟩) m cap)) 31));simp only[zAa];rw[<-HW0.out];go_upto_region 21 with fail
 have HQ2:=zz (HQ.out w0.drew ((zK _ _).drew));have HF:=zz zNH;clear HQ
 go_region_with (first
  | (go_at_call 44;refine (HF.out _).mono ?_;rintro e w' ⟨rfl,rfl⟩)
  | (go_at_call 43;go_must (refine HQ2.out.mono ?_;rintro e w9 ⟨rfl,hw9,hk9⟩;have HW8:=zz hw9;have HK8:=zz hk9;clear hw9 hk9)))
 all_goals (
  have hw9:=HW8.out;rw[HT.out] at hw9;have hk9:Wk B p w0 _:=(Wk.drewN (Wk.refl B p w0) 1).trans HK8.out;have HW9:=zz hw9;have HK9:=zz (HK0.out.trans hk9);clear hw9 hk9 HW8 HK8;go_wp2;go_end0
  exact⟨rfl,HW9.out,HK9.out⟩)
theorem zLG(most:Int)(w:World)(B p:Nat)(L:List UInt8)(hB:B<=w.heap.size)(hB2:21<B)(hG:GW w)(hW:Wr B p most L w)(mb:Option Addr)(mn mc:Nat)(bits ext:Int)(text:List UInt8)(b o m cap:Nat)(N:Nat)(xs:Nat->Array Value)(ds:Nat->Nat)(fs:Nat->F)(hNB:N<=B)(hrow:zBO w b o m xs)(hbN:b<N)(hm3:m<=3)(hkid:∀ i,i<m->zAU w N (fs i) (ds i) (.agg (xs i)))(hIH:∀ i,i<m->WV most (fs i))(hm:(((L ++ ([49,48,40] ++ zAF [] [] m fs m ++ [41])).length:Nat):Int)<=most)(hl:(L ++ ([49,48,40] ++ zAF [] [] m fs m ++ [41])).length<=140737488355328):
  Calls Tryz.prog 13 #[.pointer (some ⟨p,0,none⟩),.agg (zAa 9 10 false (.slice mb mn mc) bits ext (zAc text) (.slice (some ⟨b,o,none⟩) m cap))] w fun e w'=>e=.returned (.tuple #[])/\Wr B p most (L ++ ([49,48,40] ++ zAF [] [] m fs m ++ [41])) w'/\Wk B p w w':=by
 obtain⟨w0,hw0⟩:∃ w0,w0=w.alloc (.cells (zAa 9 10 false (.slice mb mn mc) bits ext (zAc text) (.slice (some ⟨b,o,none⟩) m cap)) 31):=⟨_,rfl⟩;have hb:Below w.heap.size w w0:=by rw[hw0];exact (zK _ _).alloc (zQ _) _
 have hX:Blk w0 w.heap.size (zAa 9 10 false (.slice mb mn mc) bits ext (zAc text) (.slice (some ⟨b,o,none⟩) m cap)) 31:=by rw[hw0];exact Blk.new _ _ _
 have hB0:B<=w0.heap.size:=zJ hB hb.size;have hW0:Wr B p most L w0:=BIs.below hW hb;have hpX:w.heap.size≠p:=by have:=hW.lt;omega
 have hG0:GW w0:=hG.step hb;have HK0:Hid (Wk B p w w0):=zz (Wk.of_below hb hB);have hNX:N<=w.heap.size:=zJ hNB hB;have hrow0:=hrow.below (hb.mono hNX) hbN;have hkid0:∀ i,i<m->zAU w0 N (fs i) (ds i) (.agg (xs i)):=fun i hi=>zAU.below (hb.mono hNX) _ _ _ (hkid i hi)
 have HQ:=zz (fun w1 (h1:Below w0.heap.size w0 w1)=>zD4 most N B p m b o cap xs ds fs [] [] [49,48,40] [41] L w1 hNB (zJ hB0 h1.size) hB2 (hG0.step h1) (BIs.below hW0 h1) (hrow0.below (h1.mono (zJ hNB hB0)) hbN) hbN hm3 (fun i hi=>zAU.below (h1.mono (zJ hNB hB0)) _ _ _ (hkid0 i hi)) hIH (by rw[List.append_assoc,List.append_assoc,<-List.append_assoc [49,48,40]];exact hm) (by rw[List.append_assoc,List.append_assoc,<-List.append_assoc [49,48,40]];exact hl));have HT:Hid (L ++ [49,48,40] ++ zAF [] [] m fs m ++ [41]=L ++ ([49,48,40] ++ zAF [] [] m fs m ++ [41])):=zz (by simp only[List.append_assoc]);clear hrow hkid hIH hrow0 hkid0;have c0:=hX.cell 0;have c1:=hX.cell 1;have c7:=hX.cell 7;simp only[zAa,zv,zk,zx] at c0 c1 c7;have HX:=zz hX;have HW0:=zz hw0;clear hW hb hX hW0 hw0 hG hG0;simp only[zAa] at HW0 ⊢;go_enter Tryz.func13,Tryz.ntmps13
 go_upto_region 1 with fail
 change Code.wp _ _ _ _ (w.alloc (.cells (zAa 9 10 false (.slice mb mn mc) bits ext (zAc text) (.slice (some ⟨b,o,none⟩) m cap)) 31));simp only[zAa];rw[<-HW0.out];go_upto_region 21 with fail
 have HQ2:=zz (HQ.out w0.drew ((zK _ _).drew));have HF:=zz zN6;clear HQ
 go_region_with (first
  | (go_at_call 44;refine (HF.out _).mono ?_;rintro e w' ⟨rfl,rfl⟩)
  | (go_at_call 43;go_must (refine HQ2.out.mono ?_;rintro e w9 ⟨rfl,hw9,hk9⟩;have HW8:=zz hw9;have HK8:=zz hk9;clear hw9 hk9)))
 all_goals (
  have hw9:=HW8.out;rw[HT.out] at hw9;have hk9:Wk B p w0 _:=(Wk.drewN (Wk.refl B p w0) 1).trans HK8.out;have HW9:=zz hw9;have HK9:=zz (HK0.out.trans hk9);clear hw9 hk9 HW8 HK8;go_wp2;go_end0
  exact⟨rfl,HW9.out,HK9.out⟩)
end Go.Proofs.YtcanfakaigpkgaaGreatDoor.D
