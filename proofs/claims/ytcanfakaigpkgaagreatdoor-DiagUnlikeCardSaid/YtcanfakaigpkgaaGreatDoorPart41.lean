/-
  Of the proof that the law DiagUnlike answers true at every two values: a part, without conditions of its own.
-/
import Derived.Test.YtcanfakaigpkgaaGreatDoorPart40
set_option linter.unusedVariables false
set_option linter.unusedSimpArgs false
set_option maxRecDepth 100000
set_option maxHeartbeats 8000000
namespace Go.Proofs.YtcanfakaigpkgaaGreatDoor.D
open Go Go.RowKit Limb
theorem zP8(w:World)(a b:Value):(Instr.index 85 (.agg #[a,b]) (.int .u64 0)).run Tryz.prog w=.ok a w:=by kernel_rfl
theorem zPY(w:World)(a b:Value):(Instr.index 85 (.agg #[a,b]) (.int .u64 1)).run Tryz.prog w=.ok b w:=by kernel_rfl
theorem zJh(s:List UInt8):(zBC s).length<=2+6*s.length:=by
 have h:=zFc s s.length (zQ _);unfold zEG at h;rw[List.take_of_length_le (zQ _)] at h;unfold zBC;rw[List.length_append];simp at h ⊢;omega
theorem zOv(w:World)(B p:Nat)(L:List UInt8)(hB:B<=w.heap.size)(hB2:21<B)(hG:GQ w)(hW:Wq B p L w)(mb:Option Addr)(mc:Nat)(kb:Option Addr)(kn kc:Nat):
  zCQ 13 #[.pointer (some ⟨p,0,none⟩),.agg (zAa 1 0 false (.slice mb 0 mc) 0 0 (zAc []) (.slice kb kn kc))] B p L ([110,117,108,108]) w:=by
 unfold zCQ;obtain⟨w0,hw0⟩:∃ w0,w0=w.alloc (.cells (zAa 1 0 false (.slice mb 0 mc) 0 0 (zAc []) (.slice kb kn kc)) 31):=⟨_,rfl⟩;have hb:Below w.heap.size w w0:=by rw[hw0];exact (zK _ _).alloc (zQ _) _
 have hX:Blk w0 w.heap.size (zAa 1 0 false (.slice mb 0 mc) 0 0 (zAc []) (.slice kb kn kc)) 31:=by rw[hw0];exact Blk.new _ _ _
 have hB0:B<=w0.heap.size:=zJ hB hb.size;have hW0:Wq B p L w0:=hW.below hb;have HWW:=zz hW0;have hpX:w.heap.size≠p:=by have:=hW.lt;omega
 have hG0:GQ w0:=hG.step hb;have HK0:Hid (Wk B p w w0):=zz (Wk.of_below hb hB);have HP:=zz (zJz B p L [110,117,108,108] w0 hW0 (by decide) hB0);have c0:=hX.cell 0;simp only[zAa,zv,zk,zx] at c0;have HX:=zz hX;have HB0:=zz hB0;have HW0:=zz hw0;clear hW hb hX hW0 hw0 hG hG0;simp only[zAa] at HW0 ⊢;go_enter Tryz.func13,Tryz.ntmps13
 go_upto_region 1 with fail
 change Code.wp _ _ _ _ (w.alloc (.cells (zAa 1 0 false (.slice mb 0 mc) 0 0 (zAc []) (.slice kb kn kc)) 31));simp only[zAa];rw[<-HW0.out];go_wp2_with fail
 refine HP.out.mono ?_;rintro e w9 ⟨rfl,⟨T9,hp9,hw9⟩,hk9⟩;have HW9:=zz hw9;have HP9:=zz (hp9);have HK9:=zz (HK0.out.trans hk9);clear hw9 hk9 hp9;go_wp2;go_end0
 exact⟨rfl,⟨T9,HP9.out,HW9.out⟩,HK9.out⟩
theorem zMS(w:World)(B p:Nat)(L:List UInt8)(hB:B<=w.heap.size)(hB2:21<B)(hG:GQ w)(hW:Wq B p L w)(mb:Option Addr)(mc:Nat)(kb:Option Addr)(kn kc:Nat):
  zCQ 13 #[.pointer (some ⟨p,0,none⟩),.agg (zAa 2 0 false (.slice mb 0 mc) 0 0 (zAc []) (.slice kb kn kc))] B p L ([102,97,108,115,101]) w:=by
 unfold zCQ;obtain⟨w0,hw0⟩:∃ w0,w0=w.alloc (.cells (zAa 2 0 false (.slice mb 0 mc) 0 0 (zAc []) (.slice kb kn kc)) 31):=⟨_,rfl⟩;have hb:Below w.heap.size w w0:=by rw[hw0];exact (zK _ _).alloc (zQ _) _
 have hX:Blk w0 w.heap.size (zAa 2 0 false (.slice mb 0 mc) 0 0 (zAc []) (.slice kb kn kc)) 31:=by rw[hw0];exact Blk.new _ _ _
 have hB0:B<=w0.heap.size:=zJ hB hb.size;have hW0:Wq B p L w0:=hW.below hb;have HWW:=zz hW0;have hpX:w.heap.size≠p:=by have:=hW.lt;omega
 have hG0:GQ w0:=hG.step hb;have HK0:Hid (Wk B p w w0):=zz (Wk.of_below hb hB);have HP:=zz (zJz B p L [102,97,108,115,101] w0 hW0 (by decide) hB0);have ha:bits .and .u64 0 1=0:=by decide
 have hi:=fun w=>zP8 w (.string ⟨#[102,97,108,115,101]⟩) (.string ⟨#[116,114,117,101]⟩)
 have c0:=hX.cell 0;have c1:=hX.cell 1;simp only[zAa,zv,zk,zx] at c0 c1;have HX:=zz hX;have HB0:=zz hB0;have HW0:=zz hw0;clear hW hb hX hW0 hw0 hG hG0;simp only[zAa] at HW0 ⊢;go_enter Tryz.func13,Tryz.ntmps13
 go_upto_region 1 with fail
 change Code.wp _ _ _ _ (w.alloc (.cells (zAa 2 0 false (.slice mb 0 mc) 0 0 (zAc []) (.slice kb kn kc)) 31));simp only[zAa];rw[<-HW0.out];go_wp2_with fail
 refine HP.out.mono ?_;rintro e w9 ⟨rfl,⟨T9,hp9,hw9⟩,hk9⟩;have HW9:=zz hw9;have HP9:=zz (hp9);have HK9:=zz (HK0.out.trans hk9);clear hw9 hk9 hp9;go_wp2;go_end0
 exact⟨rfl,⟨T9,HP9.out,HW9.out⟩,HK9.out⟩
theorem zN8(w:World)(B p:Nat)(L:List UInt8)(hB:B<=w.heap.size)(hB2:21<B)(hG:GQ w)(hW:Wq B p L w)(mb:Option Addr)(mc:Nat)(kb:Option Addr)(kn kc:Nat):
  zCQ 13 #[.pointer (some ⟨p,0,none⟩),.agg (zAa 2 1 false (.slice mb 0 mc) 0 0 (zAc []) (.slice kb kn kc))] B p L ([116,114,117,101]) w:=by
 unfold zCQ;obtain⟨w0,hw0⟩:∃ w0,w0=w.alloc (.cells (zAa 2 1 false (.slice mb 0 mc) 0 0 (zAc []) (.slice kb kn kc)) 31):=⟨_,rfl⟩;have hb:Below w.heap.size w w0:=by rw[hw0];exact (zK _ _).alloc (zQ _) _
 have hX:Blk w0 w.heap.size (zAa 2 1 false (.slice mb 0 mc) 0 0 (zAc []) (.slice kb kn kc)) 31:=by rw[hw0];exact Blk.new _ _ _
 have hB0:B<=w0.heap.size:=zJ hB hb.size;have hW0:Wq B p L w0:=hW.below hb;have HWW:=zz hW0;have hpX:w.heap.size≠p:=by have:=hW.lt;omega
 have hG0:GQ w0:=hG.step hb;have HK0:Hid (Wk B p w w0):=zz (Wk.of_below hb hB);have HP:=zz (zJz B p L [116,114,117,101] w0 hW0 (by decide) hB0);have ha:bits .and .u64 1 1=1:=by decide
 have hi:=fun w=>zPY w (.string ⟨#[102,97,108,115,101]⟩) (.string ⟨#[116,114,117,101]⟩)
 have c0:=hX.cell 0;have c1:=hX.cell 1;simp only[zAa,zv,zk,zx] at c0 c1;have HX:=zz hX;have HB0:=zz hB0;have HW0:=zz hw0;clear hW hb hX hW0 hw0 hG hG0;simp only[zAa] at HW0 ⊢;go_enter Tryz.func13,Tryz.ntmps13
 go_upto_region 1 with fail
 change Code.wp _ _ _ _ (w.alloc (.cells (zAa 2 1 false (.slice mb 0 mc) 0 0 (zAc []) (.slice kb kn kc)) 31));simp only[zAa];rw[<-HW0.out];go_wp2_with fail
 refine HP.out.mono ?_;rintro e w9 ⟨rfl,⟨T9,hp9,hw9⟩,hk9⟩;have HW9:=zz hw9;have HP9:=zz (hp9);have HK9:=zz (HK0.out.trans hk9);clear hw9 hk9 hp9;go_wp2;go_end0
 exact⟨rfl,⟨T9,HP9.out,HW9.out⟩,HK9.out⟩
theorem zPM(w:World)(B p:Nat)(L:List UInt8)(hB:B<=w.heap.size)(hB2:21<B)(hG:GQ w)(hW:Wq B p L w)(mb:Option Addr)(mc:Nat)(neg:Bool)(l:List Nat)(h:zAf w (.slice mb l.length mc) l)(hl:l.length<=1048576)(h0:val l=0->neg=false)(kb:Option Addr)(kn kc:Nat):
  zCQ 13 #[.pointer (some ⟨p,0,none⟩),.agg (zAa 3 0 neg (.slice mb l.length mc) 0 0 (zAc []) (.slice kb kn kc))] B p L (zEH neg (val l)) w:=by
 unfold zCQ;obtain⟨w0,hw0⟩:∃ w0,w0=w.alloc (.cells (zAa 3 0 neg (.slice mb l.length mc) 0 0 (zAc []) (.slice kb kn kc)) 31):=⟨_,rfl⟩;have hb:Below w.heap.size w w0:=by rw[hw0];exact (zK _ _).alloc (zQ _) _
 have hX:Blk w0 w.heap.size (zAa 3 0 neg (.slice mb l.length mc) 0 0 (zAc []) (.slice kb kn kc)) 31:=by rw[hw0];exact Blk.new _ _ _
 have hB0:B<=w0.heap.size:=zJ hB hb.size;have hW0:Wq B p L w0:=hW.below hb;have HWW:=zz hW0;have hpX:w.heap.size≠p:=by have:=hW.lt;omega
 have hG0:GQ w0:=hG.step hb;have HK0:Hid (Wk B p w w0):=zz (Wk.of_below hb hB);have HN:=zz (zG9 w0 neg _ l (h.below hb) hl h0);clear h hl h0;have c0:=hX.cell 0;have c2:=hX.cell 2;have c3:=hX.cell 3;simp only[zAa,zv,zk,zx] at c0 c2 c3;have HX:=zz hX;have HB0:=zz hB0;have HW0:=zz hw0;clear hW hb hX hW0 hw0 hG hG0;simp only[zAa] at HW0 ⊢;go_enter Tryz.func13,Tryz.ntmps13
 go_upto_region 1 with fail
 change Code.wp _ _ _ _ (w.alloc (.cells (zAa 3 0 neg (.slice mb l.length mc) 0 0 (zAc []) (.slice kb kn kc)) 31));simp only[zAa];rw[<-HW0.out];go_wp2_with fail
 refine HN.out.mono ?_;rintro e w1 ⟨⟨rfl,hl1⟩,hb1⟩;have HP:=zz (zJz B p L (zEH neg (val l)) w1 (HWW.out.below hb1) (by omega) (zJ HB0.out hb1.size));have HK1:Hid (Wk B p w0 w1):=zz (Wk.of_below hb1 HB0.out);clear hb1 hl1;go_wp2_with fail
 refine HP.out.mono ?_;rintro e w9 ⟨rfl,⟨T9,hp9,hw9⟩,hk9⟩;have HW9:=zz hw9;have HP9:=zz (hp9);have HK9:=zz (HK0.out.trans (HK1.out.trans hk9));clear hw9 hk9 hp9;go_wp2;go_end0
 exact⟨rfl,⟨T9,HP9.out,HW9.out⟩,HK9.out⟩
theorem zLH(w:World)(B p:Nat)(L:List UInt8)(hB:B<=w.heap.size)(hB2:21<B)(hG:GQ w)(hW:Wq B p L w)(mb:Option Addr)(mc:Nat)(b:Nat)(hb0:b<18446744073709551616)(kb:Option Addr)(kn kc:Nat):
  zCQ 13 #[.pointer (some ⟨p,0,none⟩),.agg (zAa 4 0 false (.slice mb 0 mc) (b:Int) 0 (zAc []) (.slice kb kn kc))] B p L (zBM b) w:=by
 unfold zCQ;obtain⟨w0,hw0⟩:∃ w0,w0=w.alloc (.cells (zAa 4 0 false (.slice mb 0 mc) (b:Int) 0 (zAc []) (.slice kb kn kc)) 31):=⟨_,rfl⟩;have hb:Below w.heap.size w w0:=by rw[hw0];exact (zK _ _).alloc (zQ _) _
 have hX:Blk w0 w.heap.size (zAa 4 0 false (.slice mb 0 mc) (b:Int) 0 (zAc []) (.slice kb kn kc)) 31:=by rw[hw0];exact Blk.new _ _ _
 have hB0:B<=w0.heap.size:=zJ hB hb.size;have hW0:Wq B p L w0:=hW.below hb;have HWW:=zz hW0;have hpX:w.heap.size≠p:=by have:=hW.lt;omega
 have hG0:GQ w0:=hG.step hb;have HK0:Hid (Wk B p w w0):=zz (Wk.of_below hb hB);have HN:=zz (zKe w0 hG0.y.v b hb0);clear hb0;have c0:=hX.cell 0;have c4:=hX.cell 4;simp only[zAa,zv,zk,zx] at c0 c4;have HX:=zz hX;have HB0:=zz hB0;have HW0:=zz hw0;clear hW hb hX hW0 hw0 hG hG0;simp only[zAa] at HW0 ⊢;go_enter Tryz.func13,Tryz.ntmps13
 go_upto_region 1 with fail
 change Code.wp _ _ _ _ (w.alloc (.cells (zAa 4 0 false (.slice mb 0 mc) (b:Int) 0 (zAc []) (.slice kb kn kc)) 31));simp only[zAa];rw[<-HW0.out];go_wp2_with fail
 refine HN.out.mono ?_;rintro e w1 ⟨⟨rfl,hl1⟩,hb1⟩;have HP:=zz (zJz B p L (zBM b) w1 (HWW.out.below hb1) (by omega) (zJ HB0.out hb1.size));have HK1:Hid (Wk B p w0 w1):=zz (Wk.of_below hb1 HB0.out);clear hb1 hl1;go_wp2_with fail
 refine HP.out.mono ?_;rintro e w9 ⟨rfl,⟨T9,hp9,hw9⟩,hk9⟩;have HW9:=zz hw9;have HP9:=zz (hp9);have HK9:=zz (HK0.out.trans (HK1.out.trans hk9));clear hw9 hk9 hp9;go_wp2;go_end0
 exact⟨rfl,⟨T9,HP9.out,HW9.out⟩,HK9.out⟩
theorem zNF(w:World)(B p:Nat)(L:List UInt8)(hB:B<=w.heap.size)(hB2:21<B)(hG:GQ w)(hW:Wq B p L w)(mb:Option Addr)(mc:Nat)(s:List UInt8)(hs:s.length<=2147483648)(hbd:zFL s s.length 0=s.length)(kb:Option Addr)(kn kc:Nat):
  zCQ 13 #[.pointer (some ⟨p,0,none⟩),.agg (zAa 5 0 false (.slice mb 0 mc) 0 0 (zAc s) (.slice kb kn kc))] B p L (zBC s) w:=by
 unfold zCQ;obtain⟨w0,hw0⟩:∃ w0,w0=w.alloc (.cells (zAa 5 0 false (.slice mb 0 mc) 0 0 (zAc s) (.slice kb kn kc)) 31):=⟨_,rfl⟩;have hb:Below w.heap.size w w0:=by rw[hw0];exact (zK _ _).alloc (zQ _) _
 have hX:Blk w0 w.heap.size (zAa 5 0 false (.slice mb 0 mc) 0 0 (zAc s) (.slice kb kn kc)) 31:=by rw[hw0];exact Blk.new _ _ _
 have hB0:B<=w0.heap.size:=zJ hB hb.size;have hW0:Wq B p L w0:=hW.below hb;have HWW:=zz hW0;have hpX:w.heap.size≠p:=by have:=hW.lt;omega
 have hG0:GQ w0:=hG.step hb;have HK0:Hid (Wk B p w w0):=zz (Wk.of_below hb hB);have HN:=zz (zKX w0 hG0 s hs hbd);have HLN:=zz (zJh s);have HS:=zz hs;clear hs hbd;have c0:=hX.cell 0;have c6:=hX.cell 6;simp only[zAa,zv,zk,zx] at c0 c6;have HX:=zz hX;have HB0:=zz hB0;have HW0:=zz hw0;clear hW hb hX hW0 hw0 hG hG0;simp only[zAa] at HW0 ⊢;go_enter Tryz.func13,Tryz.ntmps13
 go_upto_region 1 with fail
 change Code.wp _ _ _ _ (w.alloc (.cells (zAa 5 0 false (.slice mb 0 mc) 0 0 (zAc s) (.slice kb kn kc)) 31));simp only[zAa];rw[<-HW0.out];go_wp2_with fail
 refine HN.out.mono ?_;rintro e w1 ⟨rfl,hb1⟩;have HP:=zz (zJz B p L (zBC s) w1 (HWW.out.below hb1) (by have:=HLN.out;have:=HS.out;omega) (zJ HB0.out hb1.size));have HK1:Hid (Wk B p w0 w1):=zz (Wk.of_below hb1 HB0.out);clear hb1;go_wp2_with fail
 refine HP.out.mono ?_;rintro e w9 ⟨rfl,⟨T9,hp9,hw9⟩,hk9⟩;have HW9:=zz hw9;have HP9:=zz (hp9);have HK9:=zz (HK0.out.trans (HK1.out.trans hk9));clear hw9 hk9 hp9;go_wp2;go_end0
 exact⟨rfl,⟨T9,HP9.out,HW9.out⟩,HK9.out⟩
theorem zMO(w:World)(B p:Nat)(L:List UInt8)(hB:B<=w.heap.size)(hB2:21<B)(hG:GQ w)(hW:Wq B p L w)(mb:Option Addr)(mc:Nat)(s:List UInt8)(hs:s.length<=2147483648)(kb:Option Addr)(kn kc:Nat):
  zCQ 13 #[.pointer (some ⟨p,0,none⟩),.agg (zAa 6 0 false (.slice mb 0 mc) 0 0 (zAc s) (.slice kb kn kc))] B p L ([104,39] ++ zBJ s ++ [39]) w:=by
 unfold zCQ;obtain⟨w0,hw0⟩:∃ w0,w0=w.alloc (.cells (zAa 6 0 false (.slice mb 0 mc) 0 0 (zAc s) (.slice kb kn kc)) 31):=⟨_,rfl⟩;have hb:Below w.heap.size w w0:=by rw[hw0];exact (zK _ _).alloc (zQ _) _
 have hX:Blk w0 w.heap.size (zAa 6 0 false (.slice mb 0 mc) 0 0 (zAc s) (.slice kb kn kc)) 31:=by rw[hw0];exact Blk.new _ _ _
 have hB0:B<=w0.heap.size:=zJ hB hb.size;have hW0:Wq B p L w0:=hW.below hb;have HWW:=zz hW0;have hpX:w.heap.size≠p:=by have:=hW.lt;omega
 have hG0:GQ w0:=hG.step hb;have HK0:Hid (Wk B p w w0):=zz (Wk.of_below hb hB);have hcv:=Lib.run_convert_string_bytes (P:=Tryz.prog) w0 9 47 5 (zAc s) Tryz.underlying9 Tryz.underlying47 Tryz.underlying5;have hbb:=zAX w0 (zAc s);have HH:=zz (zFA (Lib.bytesWorld w0 5 (zAc s)) w0.heap.size s.length (grownCap w0 (zAc s).size 0 5) s rfl (by omega) (by rw[Lib.bytesWorld_size];omega) (fun i hi=>Lib.bytesWorld_cell w0 _ (zAc s) i hi));have hsz:(zAc s).size=s.length:=rfl;rw[hsz] at hcv HH;have HBB:=zz hbb;have HWB:=zz (hW0.below hbb);have HKB:Hid (Wk B p w0 (Lib.bytesWorld w0 5 (zAc s))):=zz (Wk.of_below hbb hB0);have HBZ:Hid (B<=(Lib.bytesWorld w0 5 (zAc s)).heap.size):=zz (zJ hB0 hbb.size);generalize Lib.bytesWorld w0 5 (zAc s)=wB at hcv HH HBB HWB HKB HBZ;generalize grownCap w0 s.length 0 5=cp at hcv HH;clear hbb hsz;have HS:=zz hs;clear hs;have c0:=hX.cell 0;have c6:=hX.cell 6;simp only[zAa,zv,zk,zx] at c0 c6;have HX:=zz hX;have HB0:=zz hB0;have HW0:=zz hw0;clear hW hb hX hW0 hw0 hG hG0;simp only[zAa] at HW0 ⊢;go_enter Tryz.func13,Tryz.ntmps13
 go_upto_region 1 with fail
 change Code.wp _ _ _ _ (w.alloc (.cells (zAa 6 0 false (.slice mb 0 mc) 0 0 (zAc s) (.slice kb kn kc)) 31));simp only[zAa];rw[<-HW0.out];go_wp2_with fail
 refine HH.out.mono ?_;rintro e w1 ⟨rfl,hb1⟩;have HP:=zz (zP9 B p L [104,39] (zBJ s) [39] w1 (HWB.out.below hb1) (by decide) (by rw[zA8];have:=HS.out;omega) (by decide) (zJ HBZ.out hb1.size));have HK1:=zz (HKB.out.trans (Wk.of_below hb1 HBZ.out:Wk B p wB w1));clear hb1;go_wp2_with fail
 refine HP.out.mono ?_;rintro e w9 ⟨rfl,⟨T9,hp9,hw9⟩,hk9⟩;have HW9:=zz hw9;have HP9:=zz hp9;have hk9:=HK1.out.trans hk9;have hX9:w9.heap[w.heap.size]?=w0.heap[w.heap.size]?:=hk9.2.2 _ HX.out.lt hpX (fun c' fr' he=>by have hx:=HX.out;unfold Blk at hx;rw[hx] at he;simp at he)
 have c0:w9.cell? ⟨w.heap.size,0,none⟩=some (.int .i8 6):=by
  have hx:=HX.out;unfold Blk at hx;rw[hx] at hX9;rw[Lib.cell_of_heap hX9];rfl
 have HK9:=zz (HK0.out.trans hk9);clear hw9 hk9 hp9 hX9;go_wp2;go_end0
 exact⟨rfl,⟨T9,HP9.out,HW9.out⟩,HK9.out⟩
theorem zOB(w:World)(B p:Nat)(L:List UInt8)(hB:B<=w.heap.size)(hB2:21<B)(hG:GQ w)(hW:Wq B p L w)(mb:Option Addr)(mc:Nat)(kb:Option Addr)(N m cap d:Nat)(fs:Nat->VT)(hNB:N<=B)(hm:m<=1048576)(hk:m=0 \/ ∃ (b o:Nat) (xs:Nat->Array Value),kb=some ⟨b,o,none⟩/\b<N/\zBO w b o m xs/\∀ i,i<m->zAl w N (fs i) (.agg (xs i)))(hsm:∀ i,i<m->(fs i).small d/\(fs i).All VA.fine)(hIH:∀ i,i<m->WVQ (fs i)):
  zCQ 13 #[.pointer (some ⟨p,0,none⟩),.agg (zAa 7 0 false (.slice mb 0 mc) 0 0 (zAc []) (.slice kb m cap))] B p L ([91] ++ zBc [44,32] [44,32] m (fun i=>(fs i).txt zBM) m ++ [93]) w:=by
 unfold zCQ;obtain⟨w0,hw0⟩:∃ w0,w0=w.alloc (.cells (zAa 7 0 false (.slice mb 0 mc) 0 0 (zAc []) (.slice kb m cap)) 31):=⟨_,rfl⟩;have hb:Below w.heap.size w w0:=by rw[hw0];exact (zK _ _).alloc (zQ _) _
 have hX:Blk w0 w.heap.size (zAa 7 0 false (.slice mb 0 mc) 0 0 (zAc []) (.slice kb m cap)) 31:=by rw[hw0];exact Blk.new _ _ _
 have hB0:B<=w0.heap.size:=zJ hB hb.size;have hW0:Wq B p L w0:=hW.below hb;have HWW:=zz hW0;have hpX:w.heap.size≠p:=by have:=hW.lt;omega
 have hG0:GQ w0:=hG.step hb;have HK0:Hid (Wk B p w w0):=zz (Wk.of_below hb hB);have hNX:N<=w.heap.size:=zJ hNB hB
 have HKD:Hid (∀ w1,Below w.heap.size w w1->(m=0 \/ ∃ (b o:Nat) (xs:Nat->Array Value),kb=some ⟨b,o,none⟩/\b<N/\zBO w1 b o m xs/\∀ i,i<m->zAl w1 N (fs i) (.agg (xs i)))):=zz (fun w1 hb1=>by
  rcases hk with h|⟨b,o,xs,h1,h2,h3,h4⟩
  ·exact .inl h
  ·exact .inr ⟨b,o,xs,h1,h2,h3.below (hb1.mono hNX) h2,fun i hi=>zAl.below (hb1.mono hNX) _ _ (h4 i hi)⟩)
 have HP:=zz (zFi N B p m d kb cap fs [44,32] [44,32] [91] [93] L w0 hNB hB0 hB2 hG0 hW0 (HKD.out w0 hb) hm hsm hIH (by decide) (by decide) (by decide) (by decide));unfold zCQ at HP;clear hk hsm hIH HKD;have c0:=hX.cell 0;have c7:=hX.cell 7;simp only[zAa,zv,zk,zx] at c0 c7;have HX:=zz hX;have HB0:=zz hB0;have HW0:=zz hw0;clear hW hb hX hW0 hw0 hG hG0;simp only[zAa] at HW0 ⊢;go_enter Tryz.func13,Tryz.ntmps13
 go_upto_region 1 with fail
 change Code.wp _ _ _ _ (w.alloc (.cells (zAa 7 0 false (.slice mb 0 mc) 0 0 (zAc []) (.slice kb m cap)) 31));simp only[zAa];rw[<-HW0.out];go_wp2_with fail
 refine HP.out.mono ?_;rintro e w9 ⟨rfl,⟨T9,hp9,hw9⟩,hk9⟩;have HW9:=zz hw9;have HP9:=zz (hp9);have HK9:=zz (HK0.out.trans hk9);clear hw9 hk9 hp9;go_wp2;go_end0
 exact⟨rfl,⟨T9,HP9.out,HW9.out⟩,HK9.out⟩
theorem zO6(w:World)(B p:Nat)(L:List UInt8)(hB:B<=w.heap.size)(hB2:21<B)(hG:GQ w)(hW:Wq B p L w)(mb:Option Addr)(mc:Nat)(kb:Option Addr)(N m cap d:Nat)(fs:Nat->VT)(hNB:N<=B)(hm:m<=1048576)(hk:m=0 \/ ∃ (b o:Nat) (xs:Nat->Array Value),kb=some ⟨b,o,none⟩/\b<N/\zBO w b o m xs/\∀ i,i<m->zAl w N (fs i) (.agg (xs i)))(hsm:∀ i,i<m->(fs i).small d/\(fs i).All VA.fine)(hIH:∀ i,i<m->WVQ (fs i)):
  zCQ 13 #[.pointer (some ⟨p,0,none⟩),.agg (zAa 8 0 false (.slice mb 0 mc) 0 0 (zAc []) (.slice kb m cap))] B p L ([123] ++ zBc [58,32] [44,32] m (fun i=>(fs i).txt zBM) m ++ [125]) w:=by
 unfold zCQ;obtain⟨w0,hw0⟩:∃ w0,w0=w.alloc (.cells (zAa 8 0 false (.slice mb 0 mc) 0 0 (zAc []) (.slice kb m cap)) 31):=⟨_,rfl⟩;have hb:Below w.heap.size w w0:=by rw[hw0];exact (zK _ _).alloc (zQ _) _
 have hX:Blk w0 w.heap.size (zAa 8 0 false (.slice mb 0 mc) 0 0 (zAc []) (.slice kb m cap)) 31:=by rw[hw0];exact Blk.new _ _ _
 have hB0:B<=w0.heap.size:=zJ hB hb.size;have hW0:Wq B p L w0:=hW.below hb;have HWW:=zz hW0;have hpX:w.heap.size≠p:=by have:=hW.lt;omega
 have hG0:GQ w0:=hG.step hb;have HK0:Hid (Wk B p w w0):=zz (Wk.of_below hb hB);have hNX:N<=w.heap.size:=zJ hNB hB
 have HKD:Hid (∀ w1,Below w.heap.size w w1->(m=0 \/ ∃ (b o:Nat) (xs:Nat->Array Value),kb=some ⟨b,o,none⟩/\b<N/\zBO w1 b o m xs/\∀ i,i<m->zAl w1 N (fs i) (.agg (xs i)))):=zz (fun w1 hb1=>by
  rcases hk with h|⟨b,o,xs,h1,h2,h3,h4⟩
  ·exact .inl h
  ·exact .inr ⟨b,o,xs,h1,h2,h3.below (hb1.mono hNX) h2,fun i hi=>zAl.below (hb1.mono hNX) _ _ (h4 i hi)⟩)
 have HP:=zz (zFi N B p m d kb cap fs [58,32] [44,32] [123] [125] L w0 hNB hB0 hB2 hG0 hW0 (HKD.out w0 hb) hm hsm hIH (by decide) (by decide) (by decide) (by decide));unfold zCQ at HP;clear hk hsm hIH HKD;have c0:=hX.cell 0;have c7:=hX.cell 7;simp only[zAa,zv,zk,zx] at c0 c7;have HX:=zz hX;have HB0:=zz hB0;have HW0:=zz hw0;clear hW hb hX hW0 hw0 hG hG0;simp only[zAa] at HW0 ⊢;go_enter Tryz.func13,Tryz.ntmps13
 go_upto_region 1 with fail
 change Code.wp _ _ _ _ (w.alloc (.cells (zAa 8 0 false (.slice mb 0 mc) 0 0 (zAc []) (.slice kb m cap)) 31));simp only[zAa];rw[<-HW0.out];go_wp2_with fail
 refine HP.out.mono ?_;rintro e w9 ⟨rfl,⟨T9,hp9,hw9⟩,hk9⟩;have HW9:=zz hw9;have HP9:=zz (hp9);have HK9:=zz (HK0.out.trans hk9);clear hw9 hk9 hp9;go_wp2;go_end0
 exact⟨rfl,⟨T9,HP9.out,HW9.out⟩,HK9.out⟩
theorem zOX(w:World)(B p:Nat)(L:List UInt8)(hB:B<=w.heap.size)(hB2:21<B)(hG:GQ w)(hW:Wq B p L w)(mb:Option Addr)(mc:Nat)(u:Nat)(hu:u<18446744073709551616)(kb:Option Addr)(N m cap d:Nat)(fs:Nat->VT)(hNB:N<=B)(hm:m<=1048576)(hk:m=0 \/ ∃ (b o:Nat) (xs:Nat->Array Value),kb=some ⟨b,o,none⟩/\b<N/\zBO w b o m xs/\∀ i,i<m->zAl w N (fs i) (.agg (xs i)))(hsm:∀ i,i<m->(fs i).small d/\(fs i).All VA.fine)(hIH:∀ i,i<m->WVQ (fs i)):
  zCQ 13 #[.pointer (some ⟨p,0,none⟩),.agg (zAa 9 (u:Int) false (.slice mb 0 mc) 0 0 (zAc []) (.slice kb m cap))] B p L (zAZ u ++ [40] ++ zBc [] [] m (fun i=>(fs i).txt zBM) m ++ [41]) w:=by
 unfold zCQ;obtain⟨w0,hw0⟩:∃ w0,w0=w.alloc (.cells (zAa 9 (u:Int) false (.slice mb 0 mc) 0 0 (zAc []) (.slice kb m cap)) 31):=⟨_,rfl⟩;have hb:Below w.heap.size w w0:=by rw[hw0];exact (zK _ _).alloc (zQ _) _
 have hX:Blk w0 w.heap.size (zAa 9 (u:Int) false (.slice mb 0 mc) 0 0 (zAc []) (.slice kb m cap)) 31:=by rw[hw0];exact Blk.new _ _ _
 have hB0:B<=w0.heap.size:=zJ hB hb.size;have hW0:Wq B p L w0:=hW.below hb;have HWW:=zz hW0;have hpX:w.heap.size≠p:=by have:=hW.lt;omega
 have hG0:GQ w0:=hG.step hb;have HK0:Hid (Wk B p w w0):=zz (Wk.of_below hb hB);have hNX:N<=w.heap.size:=zJ hNB hB
 have HKD:Hid (∀ w1,Below w.heap.size w w1->(m=0 \/ ∃ (b o:Nat) (xs:Nat->Array Value),kb=some ⟨b,o,none⟩/\b<N/\zBO w1 b o m xs/\∀ i,i<m->zAl w1 N (fs i) (.agg (xs i)))):=zz (fun w1 hb1=>by
  rcases hk with h|⟨b,o,xs,h1,h2,h3,h4⟩
  ·exact .inl h
  ·exact .inr ⟨b,o,xs,h1,h2,h3.below (hb1.mono hNX) h2,fun i hi=>zAl.below (hb1.mono hNX) _ _ (h4 i hi)⟩)
 have HF:=zz (fun w1 (h:GQ w1)=>zJ4 w1 h.y u hu);have HDL:=zz (zB6 hu);have HQ:=zz (fun w1 (h1:Below w0.heap.size w0 w1)=>zFi N B p m d kb cap fs [] [] (zAZ u ++ [40]) [41] L w1 hNB (zJ hB0 h1.size) hB2 (hG0.step h1) (hW0.below h1) (HKD.out w1 (hb.trans (h1.mono hb.size))) hm hsm hIH (by have:=HDL.out;simp;omega) (by decide) (by decide) (by decide));unfold zCQ at HQ;have HG0:=zz hG0;clear hk hsm hIH HKD hu;have c0:=hX.cell 0;have c1:=hX.cell 1;have c7:=hX.cell 7;simp only[zAa,zv,zk,zx] at c0 c1 c7;have HX:=zz hX;have HB0:=zz hB0;have HW0:=zz hw0;clear hW hb hX hW0 hw0 hG hG0;simp only[zAa] at HW0 ⊢;go_enter Tryz.func13,Tryz.ntmps13
 go_upto_region 1 with fail
 change Code.wp _ _ _ _ (w.alloc (.cells (zAa 9 (u:Int) false (.slice mb 0 mc) 0 0 (zAc []) (.slice kb m cap)) 31));simp only[zAa];rw[<-HW0.out];have HF2:=zz (HF.out w0.drew (HG0.out.step ((zK _ _).drew)))
 have HC7:Hid (∀ w',Below w0.heap.size w0.drew w'->w'.cell? ⟨w.heap.size,7,none⟩=some (.slice kb m cap)):=zz (fun w' hb'=>by
  have h8:=((HX.out.drewN 1).below hb' HX.out.lt).cell 7
  simpa[zAa] using h8)
 have hz:(zAc (zAZ u)).size+(zAc [40]).size<=9223372036854775807:=by have:=HDL.out;rw[zAg,zAg];simp;omega
 have hz1:(zAc (zAZ u)).size+1<=9223372036854775807:=by have:=HDL.out;rw[zAg];omega
 go_upto_region 21 with fail
 go_region_with (first
  | (go_at_call 44;go_must (refine HF2.out.mono ?_;rintro e w8 ⟨rfl,hb8⟩;have hc8:=HC7.out _ hb8;have HB8:=zz hb8;clear hb8))
  | (go_at_call 43;go_must (refine (HQ.out w8 ((zK w0.heap.size w0).drew.trans HB8.out)).mono ?_;rintro e w9 ⟨rfl,⟨T9,hp9,hw9⟩,hk9⟩;have HW9:=zz hw9;have HP9:=zz hp9;have HK9:=zz (HK0.out.trans ((Wk.of_below ((zK w0.heap.size w0).drew.trans HB8.out) HB0.out).trans hk9));clear hw9 hk9 hp9)))
 all_goals (
  go_wp2;go_end0
  exact⟨rfl,⟨T9,HP9.out,HW9.out⟩,HK9.out⟩)
theorem zMv(w:World)(B p:Nat)(L:List UInt8)(hB:B<=w.heap.size)(hB2:21<B)(hG:GQ w)(hW:Wq B p L w)(mb:Option Addr)(mc:Nat)(kb:Option Addr)(kn kc:Nat):
  zCQ 13 #[.pointer (some ⟨p,0,none⟩),.agg (zAa 10 23 false (.slice mb 0 mc) 0 0 (zAc []) (.slice kb kn kc))] B p L ([117,110,100,101,102,105,110,101,100]) w:=by
 unfold zCQ;obtain⟨w0,hw0⟩:∃ w0,w0=w.alloc (.cells (zAa 10 23 false (.slice mb 0 mc) 0 0 (zAc []) (.slice kb kn kc)) 31):=⟨_,rfl⟩;have hb:Below w.heap.size w w0:=by rw[hw0];exact (zK _ _).alloc (zQ _) _
 have hX:Blk w0 w.heap.size (zAa 10 23 false (.slice mb 0 mc) 0 0 (zAc []) (.slice kb kn kc)) 31:=by rw[hw0];exact Blk.new _ _ _
 have hB0:B<=w0.heap.size:=zJ hB hb.size;have hW0:Wq B p L w0:=hW.below hb;have HWW:=zz hW0;have hpX:w.heap.size≠p:=by have:=hW.lt;omega
 have hG0:GQ w0:=hG.step hb;have HK0:Hid (Wk B p w w0):=zz (Wk.of_below hb hB);have HP:=zz (zJz B p L [117,110,100,101,102,105,110,101,100] w0 hW0 (by decide) hB0);have c0:=hX.cell 0;have c1:=hX.cell 1;simp only[zAa,zv,zk,zx] at c0 c1;have HX:=zz hX;have HB0:=zz hB0;have HW0:=zz hw0;clear hW hb hX hW0 hw0 hG hG0;simp only[zAa] at HW0 ⊢;go_enter Tryz.func13,Tryz.ntmps13
 go_upto_region 1 with fail
 change Code.wp _ _ _ _ (w.alloc (.cells (zAa 10 23 false (.slice mb 0 mc) 0 0 (zAc []) (.slice kb kn kc)) 31));simp only[zAa];rw[<-HW0.out];go_wp2_with fail
 refine HP.out.mono ?_;rintro e w9 ⟨rfl,⟨T9,hp9,hw9⟩,hk9⟩;have HW9:=zz hw9;have HP9:=zz (hp9);have HK9:=zz (HK0.out.trans hk9);clear hw9 hk9 hp9;go_wp2;go_end0
 exact⟨rfl,⟨T9,HP9.out,HW9.out⟩,HK9.out⟩
theorem zKL(w:World)(B p:Nat)(L:List UInt8)(hB:B<=w.heap.size)(hB2:21<B)(hG:GQ w)(hW:Wq B p L w)(mb:Option Addr)(mc:Nat)(u:Nat)(hu:u<18446744073709551616)(hn:u≠23)(kb:Option Addr)(kn kc:Nat):
  zCQ 13 #[.pointer (some ⟨p,0,none⟩),.agg (zAa 10 (u:Int) false (.slice mb 0 mc) 0 0 (zAc []) (.slice kb kn kc))] B p L ([115,105,109,112,108,101,40] ++ zAZ u ++ [41]) w:=by
 unfold zCQ;obtain⟨w0,hw0⟩:∃ w0,w0=w.alloc (.cells (zAa 10 (u:Int) false (.slice mb 0 mc) 0 0 (zAc []) (.slice kb kn kc)) 31):=⟨_,rfl⟩;have hb:Below w.heap.size w w0:=by rw[hw0];exact (zK _ _).alloc (zQ _) _
 have hX:Blk w0 w.heap.size (zAa 10 (u:Int) false (.slice mb 0 mc) 0 0 (zAc []) (.slice kb kn kc)) 31:=by rw[hw0];exact Blk.new _ _ _
 have hB0:B<=w0.heap.size:=zJ hB hb.size;have hW0:Wq B p L w0:=hW.below hb;have HWW:=zz hW0;have hpX:w.heap.size≠p:=by have:=hW.lt;omega
 have hG0:GQ w0:=hG.step hb;have HK0:Hid (Wk B p w w0):=zz (Wk.of_below hb hB);have HF:=zz (zJ4 w0 hG0.y u hu);have HDL:=zz (zB6 hu);have g23:((u:Int) == 23)=false:=beq_eq_false_iff_ne.2 (by omega);clear hu hn;have c0:=hX.cell 0;have c1:=hX.cell 1;simp only[zAa,zv,zk,zx] at c0 c1;have HX:=zz hX;have HB0:=zz hB0;have HW0:=zz hw0;clear hW hb hX hW0 hw0 hG hG0;simp only[zAa] at HW0 ⊢;go_enter Tryz.func13,Tryz.ntmps13
 go_upto_region 1 with fail
 change Code.wp _ _ _ _ (w.alloc (.cells (zAa 10 (u:Int) false (.slice mb 0 mc) 0 0 (zAc []) (.slice kb kn kc)) 31));simp only[zAa];rw[<-HW0.out];go_wp2_with fail
 refine HF.out.mono ?_;rintro e w1 ⟨rfl,hb1⟩;have HP:=zz (zP9 B p L [115,105,109,112,108,101,40] (zAZ u) [41] w1 (HWW.out.below hb1) (by decide) (by have:=HDL.out;omega) (by decide) (zJ HB0.out hb1.size));have HK1:Hid (Wk B p w0 w1):=zz (Wk.of_below hb1 HB0.out);clear hb1;go_wp2_with fail
 refine HP.out.mono ?_;rintro e w9 ⟨rfl,⟨T9,hp9,hw9⟩,hk9⟩;have HW9:=zz hw9;have HP9:=zz (hp9);have HK9:=zz (HK0.out.trans (HK1.out.trans hk9));clear hw9 hk9 hp9;go_wp2;go_end0
 exact⟨rfl,⟨T9,HP9.out,HW9.out⟩,HK9.out⟩
theorem zPr(w:World)(B p:Nat)(L:List UInt8)(hB:B<=w.heap.size)(hB2:21<B)(hG:GQ w)(hW:Wq B p L w)(mb:Option Addr)(mc:Nat)(z:Int)(hz1:-128<=z)(hz2:z<128)(s:List UInt8)(hs:s.length<=2147483648)(kb:Option Addr)(kn kc:Nat):
  zCQ 13 #[.pointer (some ⟨p,0,none⟩),.agg (zAa 11 0 false (.slice mb 0 mc) 0 z (zAc s) (.slice kb kn kc))] B p L ([101,120,116,40] ++ zEF z ++ [44,32,104,39] ++ zBJ s ++ [39,41]) w:=by
 unfold zCQ;obtain⟨w0,hw0⟩:∃ w0,w0=w.alloc (.cells (zAa 11 0 false (.slice mb 0 mc) 0 z (zAc s) (.slice kb kn kc)) 31):=⟨_,rfl⟩;have hb:Below w.heap.size w w0:=by rw[hw0];exact (zK _ _).alloc (zQ _) _
 have hX:Blk w0 w.heap.size (zAa 11 0 false (.slice mb 0 mc) 0 z (zAc s) (.slice kb kn kc)) 31:=by rw[hw0];exact Blk.new _ _ _
 have hB0:B<=w0.heap.size:=zJ hB hb.size;have hW0:Wq B p L w0:=hW.below hb;have HWW:=zz hW0;have hpX:w.heap.size≠p:=by have:=hW.lt;omega
 have hG0:GQ w0:=hG.step hb;have HK0:Hid (Wk B p w w0):=zz (Wk.of_below hb hB);have HF:=zz (zHE w0 hG0.y z (by omega) (by omega))
 have HDL:Hid ((zEF z).length<=21):=zz (by
  unfold zEF;rw[List.length_append];have h1:=zB6 (x:=z.natAbs) (by omega);have h2:(zBa (decide (z<0))).length<=1:=by cases decide (z<0) <;> simp[zBa]
  omega)
 have gz:IntKind.i64.wrap z=z:=zY _ (by omega);have HS:=zz hs;clear hz1 hz2 hs;have c0:=hX.cell 0;have c5:=hX.cell 5;have c6:=hX.cell 6;simp only[zAa,zv,zk,zx] at c0 c5 c6;have HX:=zz hX;have HB0:=zz hB0;have HW0:=zz hw0;clear hW hb hX hW0 hw0 hG hG0;simp only[zAa] at HW0 ⊢;go_enter Tryz.func13,Tryz.ntmps13
 go_upto_region 1 with fail
 change Code.wp _ _ _ _ (w.alloc (.cells (zAa 11 0 false (.slice mb 0 mc) 0 z (zAc s) (.slice kb kn kc)) 31));simp only[zAa];rw[<-HW0.out];go_wp2_with fail
 refine HF.out.mono ?_;rintro e w1 ⟨rfl,hb1⟩;have HP1:=zz (zP9 B p L [101,120,116,40] (zEF z) [44,32] w1 (HWW.out.below hb1) (by decide) (by have:=HDL.out;omega) (by decide) (zJ HB0.out hb1.size));have HK1:Hid (Wk B p w0 w1):=zz (Wk.of_below hb1 HB0.out);clear hb1;go_wp2_with fail
 refine HP1.out.mono ?_;rintro e w2 ⟨rfl,⟨T2,hp2,hw2⟩,hk2⟩;have hk2:=HK1.out.trans hk2;have HB2:Hid (B<=w2.heap.size):=zz (zJ HB0.out hk2.2.1);have HW2:=zz hw2;have HP2:=zz hp2;have HK2:=zz hk2;have hX2:w2.heap[w.heap.size]?=w0.heap[w.heap.size]?:=hk2.2.2 _ HX.out.lt hpX (fun c' fr' he=>by have hx:=HX.out;unfold Blk at hx;rw[hx] at he;simp at he);have HX2:Hid (Blk w2 w.heap.size (zAa 11 0 false (.slice mb 0 mc) 0 z (zAc s) (.slice kb kn kc)) 31):=zz (by unfold Blk;rw[hX2];exact HX.out);clear hk2 hw2 hp2 hX2 c0 c5 c6 HP1 HK1;have c0:=HX2.out.cell 0;have c6:=HX2.out.cell 6;simp only[zAa,zv,zk,zx] at c0 c6;have hcv:=Lib.run_convert_string_bytes (P:=Tryz.prog) w2 9 47 5 (zAc s) Tryz.underlying9 Tryz.underlying47 Tryz.underlying5;have hbb:=zAX w2 (zAc s);have HH:=zz (zFA (Lib.bytesWorld w2 5 (zAc s)) w2.heap.size s.length (grownCap w2 (zAc s).size 0 5) s rfl (by have:=HS.out;omega) (by rw[Lib.bytesWorld_size];omega) (fun i hi=>Lib.bytesWorld_cell w2 _ (zAc s) i hi));have hsz:(zAc s).size=s.length:=rfl;rw[hsz] at hcv HH;have HBB:=zz hbb;have HWB:=zz (HW2.out.below hbb);have HKB:Hid (Wk B p w2 (Lib.bytesWorld w2 5 (zAc s))):=zz (Wk.of_below hbb HB2.out);have HBZ:Hid (B<=(Lib.bytesWorld w2 5 (zAc s)).heap.size):=zz (zJ HB2.out hbb.size);generalize Lib.bytesWorld w2 5 (zAc s)=wB at hcv HH HBB HWB HKB HBZ;generalize grownCap w2 s.length 0 5=cp at hcv HH;clear hbb hsz;go_wp2_with fail
 refine HH.out.mono ?_;rintro e w1 ⟨rfl,hb1⟩;have HP:=zz (zP9 B p T2 [104,39] (zBJ s) [39] w1 (HWB.out.below hb1) (by decide) (by rw[zA8];have:=HS.out;omega) (by decide) (zJ HBZ.out hb1.size));have HK1:=zz (HKB.out.trans (Wk.of_below hb1 HBZ.out:Wk B p wB w1));clear hb1;go_wp2_with fail
 refine HP.out.mono ?_;rintro e w9 ⟨rfl,⟨T9,hp9,hw9⟩,hk9⟩;have HW9:=zz hw9;have HP9:=zz hp9;have hk9:=HK1.out.trans hk9;have hX9:w9.heap[w.heap.size]?=w2.heap[w.heap.size]?:=hk9.2.2 _ HX2.out.lt hpX (fun c' fr' he=>by have hx:=HX2.out;unfold Blk at hx;rw[hx] at he;simp at he)
 have d0:w9.cell? ⟨w.heap.size,0,none⟩=some (.int .i8 11):=by
  have hx:=HX2.out;unfold Blk at hx;rw[hx] at hX9;rw[Lib.cell_of_heap hX9];rfl
 have HB9:Hid (B<=w9.heap.size):=zz (zJ HB2.out hk9.2.1);have HK9:=zz (HK0.out.trans (HK2.out.trans hk9));have HPE:=zz (zJz B p T9 [41] w9 HW9.out (by decide) HB9.out);clear hw9 hk9 hp9 hX9 c0 c6;go_wp2_with fail
 refine HPE.out.mono ?_;rintro e w7 ⟨rfl,⟨T7,hp7,hw7⟩,hk7⟩;have HW7:=zz hw7
 have HP7:Hid (Put L ([101,120,116,40] ++ zEF z ++ [44,32,104,39] ++ zBJ s ++ [39,41]) T7):=zz (by
  have e:=(HP2.out.trans HP9.out).trans hp7
  simpa only[List.append_assoc,List.cons_append,List.nil_append] using e)
 have HK7:=zz (HK9.out.trans hk7);clear hw7 hk7 hp7;go_wp2;go_end0
 exact⟨rfl,⟨T7,HP7.out,HW7.out⟩,HK7.out⟩
end Go.Proofs.YtcanfakaigpkgaaGreatDoor.D
