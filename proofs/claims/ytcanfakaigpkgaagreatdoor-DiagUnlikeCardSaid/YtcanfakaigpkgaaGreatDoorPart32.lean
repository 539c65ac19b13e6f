/-
  Of the proof that the law DiagUnlike answers true at every two values: a part, without conditions of its own.
-/
import Derived.Lib.ConvBytes
import Derived.Test.YtcanfakaigpkgaaGreatDoorPart30
import Derived.Test.YtcanfakaigpkgaaGreatDoorPart27
import Derived.Test.YtcanfakaigpkgaaGreatDoorPart28
set_option linter.unusedVariables false
set_option linter.unusedSimpArgs false
set_option maxRecDepth 100000
set_option maxHeartbeats 8000000
namespace Go.Proofs.YtcanfakaigpkgaaGreatDoor.D
open Go Go.RowKit Limb
theorem zAX(w:World)(s:ByteArray):Below w.heap.size w (Lib.bytesWorld w 5 s):=
 ⟨by unfold Lib.bytesWorld World.freeze;split <;> rfl,by unfold Lib.bytesWorld World.freeze;split <;> rfl,by unfold Lib.bytesWorld World.freeze;split <;> rfl,by rw[Lib.bytesWorld_size];omega,fun k hk=>Lib.bytesWorld_at_old w _ s k hk⟩
theorem zNV(most:Int)(w:World)(B p:Nat)(L:List UInt8)(hB:B<=w.heap.size)(hB2:21<B)(hG:GW w)(hW:Wr B p most L w)(mb:Option Addr)(mn mc:Nat)(bits ext:Int)(text:List UInt8)(kb:Option Addr)(kn kc:Nat)(hm:(((L ++ [110,117,108,108]).length:Nat):Int)<=most)(hl:(L ++ [110,117,108,108]).length<=140737488355328):
  Calls Tryz.prog 13 #[.pointer (some ⟨p,0,none⟩),.agg (zAa 1 0 false (.slice mb mn mc) bits ext (zAc text) (.slice kb kn kc))] w fun e w'=>e=.returned (.tuple #[])/\Wr B p most (L ++ [110,117,108,108]) w'/\Wk B p w w':=by
 obtain⟨w0,hw0⟩:∃ w0,w0=w.alloc (.cells (zAa 1 0 false (.slice mb mn mc) bits ext (zAc text) (.slice kb kn kc)) 31):=⟨_,rfl⟩;have hb:Below w.heap.size w w0:=by rw[hw0];exact (zK _ _).alloc (zQ _) _
 have hX:Blk w0 w.heap.size (zAa 1 0 false (.slice mb mn mc) bits ext (zAc text) (.slice kb kn kc)) 31:=by rw[hw0];exact Blk.new _ _ _
 have hB0:B<=w0.heap.size:=zJ hB hb.size;have hW0:Wr B p most L w0:=BIs.below hW hb;have hpX:w.heap.size≠p:=by have:=hW.lt;omega
 have hG0:GW w0:=hG.step hb;have HK0:Hid (Wk B p w w0):=zz (Wk.of_below hb hB);have HP:=zz (zC3 B p most L [110,117,108,108] w0 hW0 hm hl hB0);have c0:=hX.cell 0;simp only[zAa,zv,zk,zx] at c0;have HX:=zz hX;have HW0:=zz hw0;clear hW hb hX hW0 hw0 hG hG0;simp only[zAa] at HW0 ⊢;go_enter Tryz.func13,Tryz.ntmps13
 go_upto_region 1 with fail
 change Code.wp _ _ _ _ (w.alloc (.cells (zAa 1 0 false (.slice mb mn mc) bits ext (zAc text) (.slice kb kn kc)) 31));simp only[zAa];rw[<-HW0.out];go_wp2_with fail
 refine HP.out.mono ?_;rintro e w9 ⟨rfl,hw9,hk9⟩;have HW9:=zz hw9;have HK9:=zz (HK0.out.trans hk9);clear hw9 hk9;go_wp2;go_end0
 exact⟨rfl,HW9.out,HK9.out⟩
theorem zPe(most:Int)(w:World)(B p:Nat)(L:List UInt8)(hB:B<=w.heap.size)(hB2:21<B)(hG:GW w)(hW:Wr B p most L w)(mb:Option Addr)(mn mc:Nat)(bits ext:Int)(text:List UInt8)(kb:Option Addr)(kn kc:Nat)(x:Nat)(h:zAf w (.slice mb mn mc) (zAb x))(h1:1<=x)(h9:x<10)(hm:(((L ++ [dig x]).length:Nat):Int)<=most)(hl:(L ++ [dig x]).length<=140737488355328):
  Calls Tryz.prog 13 #[.pointer (some ⟨p,0,none⟩),.agg (zAa 3 0 false (.slice mb mn mc) bits ext (zAc text) (.slice kb kn kc))] w fun e w'=>e=.returned (.tuple #[])/\Wr B p most (L ++ [dig x]) w'/\Wk B p w w':=by
 obtain⟨w0,hw0⟩:∃ w0,w0=w.alloc (.cells (zAa 3 0 false (.slice mb mn mc) bits ext (zAc text) (.slice kb kn kc)) 31):=⟨_,rfl⟩;have hb:Below w.heap.size w w0:=by rw[hw0];exact (zK _ _).alloc (zQ _) _
 have hX:Blk w0 w.heap.size (zAa 3 0 false (.slice mb mn mc) bits ext (zAc text) (.slice kb kn kc)) 31:=by rw[hw0];exact Blk.new _ _ _
 have hB0:B<=w0.heap.size:=zJ hB hb.size;have hW0:Wr B p most L w0:=BIs.below hW hb;have hpX:w.heap.size≠p:=by have:=hW.lt;omega
 have hG0:GW w0:=hG.step hb;have HK0:Hid (Wk B p w w0):=zz (Wk.of_below hb hB);have HN:=zz (zHi w0 _ x (h.below hb) h1 h9);have HWW:=zz hW0;clear h;have c0:=hX.cell 0;have c2:=hX.cell 2;have c3:=hX.cell 3;simp only[zAa,zv,zk,zx] at c0 c2 c3;have HX:=zz hX;have HW0:=zz hw0;clear hW hb hX hW0 hw0 hG hG0;simp only[zAa] at HW0 ⊢;go_enter Tryz.func13,Tryz.ntmps13
 go_upto_region 1 with fail
 change Code.wp _ _ _ _ (w.alloc (.cells (zAa 3 0 false (.slice mb mn mc) bits ext (zAc text) (.slice kb kn kc)) 31));simp only[zAa];rw[<-HW0.out];go_wp2_with fail
 refine HN.out.mono ?_;rintro e w1 ⟨rfl,hb1⟩;have HP:=zz (zC3 B p most L [dig x] w1 (BIs.below HWW.out hb1) hm hl (zJ hB0 hb1.size));have HK1:=zz ((Wk.of_below hb1 hB0:Wk B p w0 w1));clear hb1;go_wp2_with fail
 refine HP.out.mono ?_;rintro e w9 ⟨rfl,hw9,hk9⟩;have hk9:=HK1.out.trans hk9;have HW9:=zz hw9;have HK9:=zz (HK0.out.trans hk9);clear hw9 hk9;go_wp2;go_end0
 exact⟨rfl,HW9.out,HK9.out⟩
theorem zOF(most:Int)(w:World)(B p:Nat)(L:List UInt8)(hB:B<=w.heap.size)(hB2:21<B)(hG:GW w)(hW:Wr B p most L w)(mb:Option Addr)(mn mc:Nat)(ext:Int)(text:List UInt8)(kb:Option Addr)(kn kc:Nat)(hm:(((L ++ [49,46,53]).length:Nat):Int)<=most)(hl:(L ++ [49,46,53]).length<=140737488355328):
  Calls Tryz.prog 13 #[.pointer (some ⟨p,0,none⟩),.agg (zAa 4 0 false (.slice mb mn mc) zBz ext (zAc text) (.slice kb kn kc))] w fun e w'=>e=.returned (.tuple #[])/\Wr B p most (L ++ [49,46,53]) w'/\Wk B p w w':=by
 obtain⟨w0,hw0⟩:∃ w0,w0=w.alloc (.cells (zAa 4 0 false (.slice mb mn mc) zBz ext (zAc text) (.slice kb kn kc)) 31):=⟨_,rfl⟩;have hb:Below w.heap.size w w0:=by rw[hw0];exact (zK _ _).alloc (zQ _) _
 have hX:Blk w0 w.heap.size (zAa 4 0 false (.slice mb mn mc) zBz ext (zAc text) (.slice kb kn kc)) 31:=by rw[hw0];exact Blk.new _ _ _
 have hB0:B<=w0.heap.size:=zJ hB hb.size;have hW0:Wr B p most L w0:=BIs.below hW hb;have hpX:w.heap.size≠p:=by have:=hW.lt;omega
 have hG0:GW w0:=hG.step hb;have HK0:Hid (Wk B p w w0):=zz (Wk.of_below hb hB);have HN:=zz (zIn w0 hG0);have HWW:=zz hW0;have c0:=hX.cell 0;have c4:=hX.cell 4;simp only[zAa,zv,zk,zx] at c0 c4;have HX:=zz hX;have HW0:=zz hw0;clear hW hb hX hW0 hw0 hG hG0;simp only[zAa] at HW0 ⊢;go_enter Tryz.func13,Tryz.ntmps13
 go_upto_region 1 with fail
 change Code.wp _ _ _ _ (w.alloc (.cells (zAa 4 0 false (.slice mb mn mc) zBz ext (zAc text) (.slice kb kn kc)) 31));simp only[zAa];rw[<-HW0.out];go_wp2_with fail
 refine HN.out.mono ?_;rintro e w1 ⟨rfl,hb1⟩;have HP:=zz (zC3 B p most L [49,46,53] w1 (BIs.below HWW.out hb1) hm hl (zJ hB0 hb1.size));have HK1:Hid (Wk B p w0 w1):=zz (Wk.of_below hb1 hB0);clear hb1;go_wp2_with fail
 refine HP.out.mono ?_;rintro e w9 ⟨rfl,hw9,hk9⟩;have hk9:=HK1.out.trans hk9;have HW9:=zz hw9;have HK9:=zz (HK0.out.trans hk9);clear hw9 hk9;go_wp2;go_end0
 exact⟨rfl,HW9.out,HK9.out⟩
theorem zMA(most:Int)(w:World)(B p:Nat)(L:List UInt8)(hB:B<=w.heap.size)(hB2:21<B)(hG:GW w)(hW:Wr B p most L w)(mb:Option Addr)(mn mc:Nat)(bits ext:Int)(text:List UInt8)(kb:Option Addr)(kn kc:Nat)(h0:text≠[])(ht:text.length<=1048576)(hm:(((L ++ ([104,39] ++ zBJ text ++ [39])).length:Nat):Int)<=most)(hl:(L ++ ([104,39] ++ zBJ text ++ [39])).length<=140737488355328):
  Calls Tryz.prog 13 #[.pointer (some ⟨p,0,none⟩),.agg (zAa 6 0 false (.slice mb mn mc) bits ext (zAc text) (.slice kb kn kc))] w fun e w'=>e=.returned (.tuple #[])/\Wr B p most (L ++ ([104,39] ++ zBJ text ++ [39])) w'/\Wk B p w w':=by
 obtain⟨w0,hw0⟩:∃ w0,w0=w.alloc (.cells (zAa 6 0 false (.slice mb mn mc) bits ext (zAc text) (.slice kb kn kc)) 31):=⟨_,rfl⟩;have hb:Below w.heap.size w w0:=by rw[hw0];exact (zK _ _).alloc (zQ _) _
 have hX:Blk w0 w.heap.size (zAa 6 0 false (.slice mb mn mc) bits ext (zAc text) (.slice kb kn kc)) 31:=by rw[hw0];exact Blk.new _ _ _
 have hB0:B<=w0.heap.size:=zJ hB hb.size;have hW0:Wr B p most L w0:=BIs.below hW hb;have hpX:w.heap.size≠p:=by have:=hW.lt;omega
 have hG0:GW w0:=hG.step hb;have HK0:Hid (Wk B p w w0):=zz (Wk.of_below hb hB);have hcv:=Lib.run_convert_string_bytes (P:=Tryz.prog) w0 9 47 5 (zAc text) Tryz.underlying9 Tryz.underlying47 Tryz.underlying5;have hbb:=zAX w0 (zAc text);have HH:=zz (zOt (Lib.bytesWorld w0 5 (zAc text)) w0.heap.size text.length (grownCap w0 (zAc text).size 0 5) text rfl h0 ht (by rw[Lib.bytesWorld_size];omega) (fun i hi=>Lib.bytesWorld_cell w0 _ (zAc text) i hi));have hsz:(zAc text).size=text.length:=rfl;rw[hsz] at hcv HH;have HBB:=zz hbb;have HWB:=zz (BIs.below hW0 hbb:Wr B p most L _);have HKB:Hid (Wk B p w0 (Lib.bytesWorld w0 5 (zAc text))):=zz (Wk.of_below hbb hB0);generalize Lib.bytesWorld w0 5 (zAc text)=w1 at hcv HH HBB HWB HKB;generalize grownCap w0 text.length 0 5=cp at hcv HH;clear hbb hsz;have c0:=hX.cell 0;have c5:=hX.cell 5;have c6:=hX.cell 6;simp only[zAa,zv,zk,zx] at c0 c5 c6;have HX:=zz hX;have HW0:=zz hw0;clear hW hb hX hW0 hw0 hG hG0;simp only[zAa] at HW0 ⊢;go_enter Tryz.func13,Tryz.ntmps13
 go_upto_region 1 with fail
 change Code.wp _ _ _ _ (w.alloc (.cells (zAa 6 0 false (.slice mb mn mc) bits ext (zAc text) (.slice kb kn kc)) 31));simp only[zAa];rw[<-HW0.out];go_wp2_with fail
 clear hcv;refine HH.out.mono ?_;rintro e w2 ⟨rfl,hb2⟩;have hB1:B<=w1.heap.size:=zJ hB0 HBB.out.size;have HP:=zz (zKY B p most L [104,39] (zBJ text) [39] w2 (BIs.below HWB.out hb2) hm hl (zJ hB1 hb2.size));have HK1:Hid (Wk B p w0 w2):=zz (HKB.out.trans (Wk.of_below hb2 hB1));clear hb2;go_wp2_with fail
 refine HP.out.mono ?_;rintro e w9 ⟨rfl,hw9,hk9⟩;have hk9:=HK1.out.trans hk9;have hX9:w9.heap[w.heap.size]?=w0.heap[w.heap.size]?:=hk9.2.2 _ HX.out.lt hpX (fun c' fr' he=>by have hx:=HX.out;unfold Blk at hx;rw[hx] at he;simp at he)
 have c0:w9.cell? ⟨w.heap.size,0,none⟩=some (.int .i8 6):=by
  have hx:=HX.out;unfold Blk at hx;rw[hx] at hX9;rw[Lib.cell_of_heap hX9];rfl
 have HW9:=zz hw9;have HK9:=zz (HK0.out.trans hk9);clear hw9 hk9;go_wp2;go_end0
 exact⟨rfl,HW9.out,HK9.out⟩
theorem zNL(w:World)(hG:GW w):Calls Tryz.prog 166 #[.int .u64 4609434218613702656] w fun e w'=>e=.returned (.tuple #[.int .u64 4609434218613702656,.bool true])/\Below w.heap.size w w':=by
 have HG:=zz hG;have HP:=zz (zDw w hG.s hG.c zBz _ _ _ _ _ zCl);clear hG;change Calls _ _ #[.int .u64 4609434218613702656] _ _;go_enter Tryz.func166,Tryz.ntmps166
 go_wp2_with fail
 refine HP.out.mono ?_;rintro r w1 ⟨rfl,hb1⟩;have HB1:=zz hb1;clear hb1;go_wp2_with fail
 refine (zAH w1 3 (by decide)).mono ?_;rintro r w2 ⟨hb2,v2,rfl,hl2⟩;rw[zAu 3 (by decide) (by decide)] at hl2;have HB2:=zz (HB1.out.trans (hb2.mono HB1.out.size));have HR:=zz (zGU w2 (HG.out.step HB2.out) v2 hl2);clear hb2 hl2;go_wp2_with fail
 refine HR.out.mono ?_;rintro r w3 ⟨rfl,hb3⟩;have HB3:=zz (HB2.out.trans (hb3.mono HB2.out.size));have HG3:=zz (HG.out.step HB3.out);clear hb3;go_wp2_with fail
 refine (zDw w3 HG3.out.s HG3.out.c zBz _ _ _ _ _ zCl).mono ?_;rintro r w4 ⟨rfl,hb4⟩;have HB4:=zz (HB3.out.trans (hb4.mono HB3.out.size));clear hb4;go_wp2;exact bodyPost_ret (v:=.tuple #[.int .u64 4609434218613702656,.bool true]) (by simp[results,Tryz.results166,go_sem]) rfl ⟨rfl,HB4.out⟩
theorem zL9(w:World)(hG:GW w):Calls Tryz.prog 124 #[.int .u64 4607182418800017408] w fun e w'=>Below w.heap.size w w'/\∃ v,e=.returned (.tuple #[.agg #[.bool false,v],.bool true])/\zAf w' v [1]/\New w.heap.size v:=by
 obtain⟨w0,hw0⟩:∃ w0,w0=w.alloc (.cells #[.bool false,.slice none 0 0] 28):=⟨_,rfl⟩;have hb0:Below w.heap.size w w0:=by rw[hw0];exact (zK _ _).alloc (zQ _) _
 have hB0:Blk w0 w.heap.size #[.bool false,.slice none 0 0] 28:=by rw[hw0];exact Blk.new _ _ _
 have hG0:=hG.step hb0;have HP:=zz (zDw w0 hG0.s hG0.c zQw _ _ _ _ _ zIU);have HB0:=zz hb0;have HD0:=zz hB0;have HW0:=zz hw0;clear hG hb0 hB0 hG0 hw0;go_enter Tryz.func124,Tryz.ntmps124
 go_upto_region 1 with fail
 change Code.wp _ _ _ _ (w.alloc (.cells #[.bool false,.slice none 0 0] 28));rw[<-HW0.out];go_wp2_with fail
 refine HP.out.mono ?_;rintro r w1 ⟨rfl,hb1⟩;have HB1:=zz (HB0.out.trans (hb1.mono HB0.out.size));have HD1:=zz (HD0.out.below hb1 HD0.out.lt);clear hb1;go_wp2_with fail
 refine (zAH w1 1 (by decide)).mono ?_;rintro r w2 ⟨hb2,v2,rfl,hl2⟩;rw[zAu 1 (by decide) (by decide)] at hl2;have HB2:=zz (HB1.out.trans (hb2.mono HB1.out.size));have HD2:=zz (HD1.out.below hb2 HD1.out.lt);have HSH:=zz (zKw w2 v2 hl2);clear hb2 hl2;go_wp2_with fail
 refine HSH.out.mono ?_;rintro r w3 ⟨hb3,v3,rfl,hl3⟩;have HB3:=zz (HB2.out.trans (hb3.mono HB2.out.size));have HD3:=zz (HD2.out.below hb3 HD2.out.lt);obtain⟨b3,c3,rfl⟩:=hl3.slice;have HNM:=zz (zD9 w3 (.slice b3 1 c3) [1] hl3 (by decide));rw[show zAb (val [1])=[1] from zAu 1 (by decide) (by decide)] at HNM;clear hb3 hl3;go_wp2_with fail
 refine HNM.out.mono ?_;rintro r w4 ⟨hb4,v4,rfl,hl4,hn4⟩;obtain⟨b4,o4,c4,rfl,hlt4,_,_,_⟩:=hl4.one;have hD4:=HD3.out.below hb4 HD3.out.lt;have HB4:=zz (HB3.out.trans (hb4.mono HB3.out.size));have d0:w4.cell? ⟨w.heap.size,0,none⟩=some (.bool false):=hD4.cell 0;have d1:w4.cell? ⟨w.heap.size,1,none⟩=some (.slice none 0 0):=hD4.cell 1;have f0:=hD4.free 0;have f1:=hD4.free 1;have hD5:=(hD4.set 0 (.bool false)).set 1 (.slice (some ⟨b4,o4,none⟩) 1 c4);have c0:((w4.setCell ⟨w.heap.size,0,none⟩ (.bool false)).setCell ⟨w.heap.size,1,none⟩ (.slice (some ⟨b4,o4,none⟩) 1 c4)).cell? ⟨w.heap.size,0,none⟩=some (.bool false):=hD5.cell 0;have c1:((w4.setCell ⟨w.heap.size,0,none⟩ (.bool false)).setCell ⟨w.heap.size,1,none⟩ (.slice (some ⟨b4,o4,none⟩) 1 c4)).cell? ⟨w.heap.size,1,none⟩=some (.slice (some ⟨b4,o4,none⟩) 1 c4):=hD5.cell 1;have hb5:Below w.heap.size w ((w4.setCell ⟨w.heap.size,0,none⟩ (.bool false)).setCell ⟨w.heap.size,1,none⟩ (.slice (some ⟨b4,o4,none⟩) 1 c4)):=(HB4.out.setCell (zQ _) _).setCell (zQ _) _
 have hne:b4≠w.heap.size:=by
  have h1:=HB3.out.size;have h2:=HD3.out.lt;have:=hn4 b4 o4 1 c4 rfl;omega
 have hl5:zAf ((w4.setCell ⟨w.heap.size,0,none⟩ (.bool false)).setCell ⟨w.heap.size,1,none⟩ (.slice (some ⟨b4,o4,none⟩) 1 c4)) (.slice (some ⟨b4,o4,none⟩) 1 c4) [1]:=by
  obtain⟨hf,⟨h,_⟩|⟨blk,off,cap,hv,g1,g2,g3,g4⟩⟩:=hl4
  ·simp at h
  ·simp only[Value.slice.injEq,Option.some.injEq,Addr.mk.injEq] at hv;obtain⟨⟨rfl,rfl,_⟩,_,rfl⟩:=hv;refine⟨hf,.inr ⟨b4,o4,c4,rfl,g1,g2,by simp[World.setCell];exact g3,fun i hi=>?_⟩⟩;rw[World.cell?_of_block (w:=w4) ((Below.heap_setCell _ _ _ _ hne).trans (Below.heap_setCell _ _ _ _ hne))];exact g4 i hi
 have hn5:New w.heap.size (.slice (some ⟨b4,o4,none⟩) 1 c4):=by
  intro b o k c e;have:=hn4 b o k c e;have:=HB3.out.size;omega
 have HB5:=zz hb5;have HL5:=zz hl5;have HN5:=zz hn5;clear hD4 hD5 hb5 hl5 hn5 hn4 hl4 hb4;go_wp2;refine bodyPost_ret (v:=.tuple #[.agg #[.bool false,.slice (some ⟨b4,o4,none⟩) 1 c4],.bool true]) (by simp[results,Tryz.results124,go_sem,c0,c1]) rfl ⟨HB5.out,_,rfl,HL5.out,HN5.out⟩
abbrev zDP:Array Value:=zAa 4 0 false (.slice none 0 0) 4609434218613702656 0 (zAc []) (.slice none 0 0)
theorem zOe(w:World)(hG:GW w):Calls Tryz.prog 110 #[.int .u64 4609434218613702656] w fun e w'=>e=.returned (.agg zDP)/\Below w.heap.size w w':=by
 obtain⟨w0,hw0⟩:∃ w0,w0=w.alloc (.cells zAr 31):=⟨_,rfl⟩;have hb0:Below w.heap.size w w0:=by rw[hw0];exact (zK _ _).alloc (zQ _) _
 have hB0:Blk w0 w.heap.size zAr 31:=by rw[hw0];exact Blk.new _ _ _
 have hG0:=hG.step hb0;have HI:=zz (zNq w0 hG0.s hG0.c zBz _ _ _ _ _ zCl (by decide));have HB0:=zz hb0;have HD0:=zz hB0;have HW0:=zz hw0;have HG:=zz hG;clear hG hb0 hB0 hG0 hw0;go_enter Tryz.func110,Tryz.ntmps110
 go_upto_region 1 with fail
 change Code.wp _ _ _ _ (w.alloc (.cells zAr 31));rw[<-HW0.out];go_wp2_with fail
 refine HI.out.mono ?_;rintro r w1 ⟨rfl,hb1⟩;have hb2:=hb1.trans ((zK w1.heap.size w1).alloc (zQ _) (.cells #[.bool false,.slice none 0 0] 28) |>.mono hb1.size);have HB2:=zz (HB0.out.trans (hb2.mono HB0.out.size));have HD2:=zz (HD0.out.below hb2 HD0.out.lt);clear hb1 hb2;go_upto_region 4 with fail
 change Code.wp _ _ _ _ (w1.alloc (.cells #[.bool false,.slice none 0 0] 28));generalize w1.alloc (.cells #[.bool false,.slice none 0 0] 28)=w2 at HB2 HD2 ⊢;go_wp2_with fail
 refine (zNL w2 (HG.out.step HB2.out)).mono ?_;rintro r w3 ⟨rfl,hb3⟩;have HB3:=zz (HB2.out.trans (hb3.mono HB2.out.size));have HD3:=zz (HD2.out.below hb3 HD2.out.lt);clear hb3;go_upto_region 5 with fail
 refine wp_region_lit ?_;iterate 6 go_step
 refine wpList_store_row rfl 31 _ _ rfl w.heap.size zDP rfl rfl 31 _ HD3.out (by kernel_rfl) rfl (zAo _ _ _ _ _ _ _ _ rfl rfl) ?_;have hfin:Blk (w3.setRow w.heap.size zDP) w.heap.size zDP 31:=setRow_heap _ _ _ _ _ _ HD3.out;have HFIN:=zz hfin;have HBF:=zz (zAO HB3.out (zQ _) zDP);clear hfin;go_wp2;exact bodyPost_ret (v:=.agg zDP) (results_cell_row rfl _ _ w.heap.size 31 _ (0,0) _ rfl HFIN.out Tryz.underlying31 rfl (by kernel_rfl)) rfl ⟨rfl,HBF.out⟩
theorem zPT(w:World)(hG:GW w):Calls Tryz.prog 110 #[.int .u64 4607182418800017408] w fun e w'=>Below w.heap.size w w'/\∃ b o c,e=.returned (.agg (zAa 3 0 false (.slice (some ⟨b,o,none⟩) 1 c) 0 0 (zAc []) (.slice none 0 0)))/\zAf w' (.slice (some ⟨b,o,none⟩) 1 c) [1]/\w.heap.size<=b:=by
 obtain⟨w0,hw0⟩:∃ w0,w0=w.alloc (.cells zAr 31):=⟨_,rfl⟩;have hb0:Below w.heap.size w w0:=by rw[hw0];exact (zK _ _).alloc (zQ _) _
 have hB0:Blk w0 w.heap.size zAr 31:=by rw[hw0];exact Blk.new _ _ _
 have hG0:=hG.step hb0;have HI:=zz (zL9 w0 hG0);have HB0:=zz hb0;have HD0:=zz hB0;have HW0:=zz hw0;clear hG hb0 hB0 hG0 hw0;go_enter Tryz.func110,Tryz.ntmps110
 go_upto_region 1 with fail
 change Code.wp _ _ _ _ (w.alloc (.cells zAr 31));rw[<-HW0.out];go_wp2_with fail
 refine HI.out.mono ?_;rintro r w1 ⟨hb1,v1,rfl,hl1,hn1⟩;obtain⟨b,o,c,rfl,hlt,_,_,_⟩:=hl1.one;obtain⟨w2,hw2⟩:∃ w2,w2=w1.alloc (.cells #[.bool false,.slice (some ⟨b,o,none⟩) 1 c] 28):=⟨_,rfl⟩;have hb12:Below w1.heap.size w1 w2:=by rw[hw2];exact (zK _ _).alloc (zQ _) _
 have hD:Blk w2 w1.heap.size #[.bool false,.slice (some ⟨b,o,none⟩) 1 c] 28:=by rw[hw2];exact Blk.new _ _ _
 have hb2:=hb1.trans (hb12.mono hb1.size);have HB2:=zz (HB0.out.trans (hb2.mono HB0.out.size));have HD2:=zz (HD0.out.below hb2 HD0.out.lt);have HL2:=zz (hl1.below hb12);have hbo:w0.heap.size<=b:=hn1 b o 1 c rfl;have HBO:=zz hbo;have c0:w2.cell? ⟨w1.heap.size,0,none⟩=some (.bool false):=hD.cell 0;have c1:w2.cell? ⟨w1.heap.size,1,none⟩=some (.slice (some ⟨b,o,none⟩) 1 c):=hD.cell 1;have HW2:=zz hw2;clear hb1 hb2 hb12 hD hl1 hn1 hw2 hbo;go_upto_region 3 with fail
 change Code.wp _ _ _ _ (w1.alloc (.cells #[.bool false,.slice (some ⟨b,o,none⟩) 1 c] 28));rw[<-HW2.out];refine wp_region_lit ?_;iterate 6 go_step
 obtain⟨cs,hcs⟩:∃ cs,cs=zAa 3 0 false (.slice (some ⟨b,o,none⟩) 1 c) 0 0 (zAc []) (.slice none 0 0):=⟨_,rfl⟩;refine wpList_store_row rfl 31 _ _ rfl w.heap.size (zAa 3 0 false (.slice (some ⟨b,o,none⟩) 1 c) 0 0 (zAc []) (.slice none 0 0)) rfl rfl 31 _ HD2.out (by kernel_rfl) rfl (zAo _ _ _ _ _ _ _ _ rfl rfl) ?_;rw[<-hcs];have hfin:Blk (w2.setRow w.heap.size cs) w.heap.size cs 31:=setRow_heap _ _ _ _ _ _ HD2.out;have hs0:w.heap.size<w0.heap.size:=HD0.out.lt
 have hlf:zAf (w2.setRow w.heap.size cs) (.slice (some ⟨b,o,none⟩) 1 c) [1]:=by
  obtain⟨hf,⟨h,_⟩|⟨blk,off,cap,hv,g1,g2,g3,g4⟩⟩:=HL2.out
  ·simp at h
  ·simp only[Value.slice.injEq,Option.some.injEq,Addr.mk.injEq] at hv;obtain⟨⟨rfl,rfl,_⟩,_,rfl⟩:=hv;refine⟨hf,.inr ⟨b,o,c,rfl,g1,g2,by simp;exact g3,fun i hi=>?_⟩⟩;rw[World.cell?_of_block (w:=w2) (setRow_other _ _ _ _ (by have:=HBO.out;simp;omega))];exact g4 i hi
 have HFIN:=zz hfin;have HLF:=zz hlf;have HBF:=zz (zAO HB2.out (zQ _) cs);have HCS:=zz hcs;have HS:=zz hs0;clear hfin hlf hcs hs0 c0 c1;go_wp2;have ecs:=HCS.out;subst ecs;exact bodyPost_ret (v:=.agg (zAa 3 0 false (.slice (some ⟨b,o,none⟩) 1 c) 0 0 (zAc []) (.slice none 0 0))) (results_cell_row rfl _ _ w.heap.size 31 _ (0,0) _ rfl HFIN.out Tryz.underlying31 rfl (by kernel_rfl)) rfl ⟨HBF.out,b,o,c,rfl,HLF.out,by have:=HBO.out;have:=HS.out;omega⟩
def VT.All(P:VA->Nat->Prop):VT->Prop
 | .stop=>False
 | .node a m fs=>P a m/\∀ i,i<m->(fs i).All P
def iV(z:Nat):Value:=.int .i64 (z:Int)
def zHz(w:World)(N n:Nat):Prop:=∃ (v:Value) (zs:List Nat),zs.length=n/\(∀ z ∈ zs,z<1048576)/\w.cell? ⟨N+2,0,none⟩=some v/\w.frozen? ⟨N+2,0,none⟩=false/\w.ownsRow (N+4) 3 1 v n (zs.map iV)
structure WN (w:World) (N:Nat) (fw:FuncId) (n:Nat):Prop where
 size:N+4<=w.heap.size
 wrong:w.cell? ⟨N+1,0,none⟩=some (.func (.func fw) #[] #[])
 visit:w.cell? ⟨N+3,0,none⟩=some (.func (.func 71) #[] #[.pointer (some ⟨N+1,0,none⟩),.pointer (some ⟨N+2,0,none⟩),.pointer (some ⟨N+3,0,none⟩)])
 steps:zHz w N n
theorem zHz.below{w w':World}{N n:Nat}(h:zHz w N n)(hb:Below w.heap.size w w')(hs:N+2<w.heap.size):zHz w' N n:=by
 obtain⟨v,zs,h0,h00,h1,h2,h3⟩:=h;refine⟨v,zs,h0,h00,?_,?_,?_⟩
 ·rw[hb.cell (p:=⟨N+2,0,none⟩) hs];exact h1
 ·rw[hb.frozen (p:=⟨N+2,0,none⟩) hs];exact h2
 ·obtain⟨hl,h|⟨g,cap,cur,hv,hg,hc,r⟩⟩:=h3
  ·exact⟨hl,.inl h⟩
  ·exact⟨hl,.inr ⟨g,cap,cur,hv,hg,by rw[hb.block g (Array.getElem?_eq_some_iff.1 hc).1];exact hc,r⟩⟩
theorem WN.below{w w':World}{N n:Nat}{fw:FuncId}(h:WN w N fw n)(hb:Below w.heap.size w w'):WN w' N fw n:=
 ⟨zJ h.size hb.size,by rw[hb.cell (p:=⟨N+1,0,none⟩) (by have:=h.size;simp;omega)];exact h.wrong,by rw[hb.cell (p:=⟨N+3,0,none⟩) (by have:=h.size;simp;omega)];exact h.visit,h.steps.below hb (by have:=h.size;omega)⟩
theorem zJ6{w:World}{base n:Nat}{e:TypeId}{b:Option Addr}{c:Nat}{xs:List Value}(h:w.ownsRow base e 1 (.slice b (n+1) c) (n+1) xs):n<=c/\c<=maxLen/\(∃ g,b=some ⟨g,0,none⟩)/\w.ownsRow base e 1 (.slice b n c) n (xs.take n):=by
 obtain⟨hl,⟨h,_⟩|⟨g,cap,cur,hv,hg,hc,h1,h2,h3,h4⟩⟩:=h
 ·simp only[Value.slice.injEq] at h;omega
 ·simp only[Value.slice.injEq] at hv;obtain⟨rfl,-,rfl⟩:=hv;refine⟨by omega,h2,⟨g,rfl⟩,by rw[List.length_take];omega,.inr ⟨g,c,cur,rfl,hg,hc,by omega,h2,h3,?_⟩⟩;rw[<-h4,List.take_take];congr 1;omega
theorem zDz(w:World)(kind n:Int)(neg:Bool)(mag:Value)(bits ext:Int)(text:ByteArray)(kids:Value):
  Calls Tryz.prog 38 #[.agg (zAa kind n neg mag bits ext text kids)] w fun e w'=>e=.returned (.bool (decide (kind=7 \/ kind=8 \/ kind=9)))/\Below w.heap.size w w':=by
 by_cases h:kind=7 \/ kind=8 \/ kind=9
 ·rw[decide_eq_true h];exact zBh w kind n neg mag bits ext text kids h
 ·rw[decide_eq_false h];exact zBB w kind n neg mag bits ext text kids (fun e=>h (.inl e)) (fun e=>h (.inr (.inl e))) (fun e=>h (.inr (.inr e)))
def zQM(P:VA->Nat->Prop)(f:VT)(N:Nat)(fw:FuncId)(n:Nat)(w w':World)(e:Ending):Prop:=
 ((e=.returned (.bool false)/\f.All P/\WN w' N fw n) \/ (e=.returned (.bool true)/\∃ n',n'<=4000000/\WN w' N fw n'))/\Ex (fun k=>k=N+2) (N+4) w w'
theorem zLi(N:Nat)(fw:FuncId)(hfw:∀ (args:Array Value) (w:World),(callFunc fw args).run Tryz.prog w=.ok (.enter fw args) w)(P:VA->Nat->Prop)(w0:World)(hw:∀ (a:VA) (m:Nat) (fs:Nat->VT) (d:Nat) (v:Value) (ar:Nat) (w:World),Below N w0 w->N<=w.heap.size->zAl w N (.node a m fs) v->(VT.node a m fs).small d->ar<=4000000->Calls Tryz.prog fw #[v,.int .i64 (ar:Int)] w fun e w'=>IsB (fun B=>B=false->P a m) e/\Below w.heap.size w w'):
  ∀ (f:VT) (d:Nat) (v:Value) (ar:Nat) (w:World) (n:Nat),Below N w0 w->zAl w N f v->f.small d->ar+d<=4000000->n+d<=3999999->WN w N fw n ->
   Calls Tryz.prog 71 #[v,.int .i64 (ar:Int),.pointer (some ⟨N+1,0,none⟩),.pointer (some ⟨N+2,0,none⟩),.pointer (some ⟨N+3,0,none⟩)] w fun e w'=>zQM P f N fw n w w' e:=by
 intro f
 induction f with
 | stop=>intro d v ar w n _ h;exact h.elim
 | node a m fs ih=>
  intro d v ar w n h00 hT hsm hd hn hM;have H00:=zz h00;clear h00;have HIH:=zz ih;have HW:=zz (hw a m fs d v ar);have HT:=zz hT;have HSM:Hid (m<=1048576/\∀ i,i<m->0<d/\(fs i).small (d - 1)):=zz ⟨hsm.2.2.1,hsm.2.2.2⟩;have HSM0:=zz hsm;clear ih hw hsm;obtain⟨kind,mag,kb,cap,rfl,hfit,hmag,hc1,hc2,hk⟩:=hT;obtain⟨mb,mc,rfl⟩:=hmag.1.slice;have HK:=zz hk;have HM:=zz hM;clear hk hM hfit hmag;obtain⟨ML,hML⟩:∃ ML,ML=a.mag.length:=⟨_,rfl⟩;rw[<-hML] at HW HT ⊢;clear hML;obtain⟨X,hX⟩:∃ X,X=w.heap.size:=⟨_,rfl⟩;have hXs:N+4<=X:=by rw[hX];exact HM.out.size
  have hbx:Below w.heap.size w (w.alloc (.cells (zAh a kind (.slice mb ML mc) (.slice kb m cap)) 31)):=(zK _ _).alloc (zQ _) _;have hbl:=Blk.new w (zAh a kind (.slice mb ML mc) (.slice kb m cap)) 31;have hsz:(w.alloc (.cells (zAh a kind (.slice mb ML mc) (.slice kb m cap)) 31)).heap.size=X+1:=by rw[hX];simp
  rw[<-hX] at hbl;have HX:=zz hX;have hM1:=HM.out.below hbx;have HBX:=zz hbx;have HT1:=zz (zAl.below (hbx.mono (by have:=HM.out.size;omega)) _ _ HT.out);clear hX hbx HM HT;go_enter Tryz.func71,Tryz.ntmps71
  go_upto_region 1 with fail
  change Code.wp _ _ _ _ (w.alloc (.cells (zAh a kind (.slice mb ML mc) (.slice kb m cap)) 31));rw[<-HX.out];generalize w.alloc (.cells (zAh a kind (.slice mb ML mc) (.slice kb m cap)) 31)=w1 at hbl hsz hM1 HBX HT1 ⊢;have c1:=hM1.wrong;have HM1:=zz hM1;have HSZ:=zz hsz;have HBL:=zz hbl;clear hM1 hsz hbl;refine wp_region_lit ?_;iterate 3 go_step
  refine wpList_load_row rfl 31 _ rfl X rfl 31 _ (0,0) _ HBL.out Tryz.underlying31 rfl (by kernel_rfl) ?_;go_wp2_with fail
  refine (HW.out _ (H00.out.trans (HBX.out.mono (by rw[<-HX.out];omega))) (by rw[HSZ.out];omega) HT1.out HSM0.out (by omega)).mono ?_;rintro e w2 ⟨⟨B,rfl,hB⟩,hb2⟩;have HPB:=zz hB;have HM2:=zz (HM1.out.below hb2);have HBL2:=zz (HBL.out.below hb2 HBL.out.lt);have HT2:=zz (zAl.below (hb2.mono (by rw[HSZ.out];omega)) _ _ HT1.out);have HB2:=zz (HBX.out.trans (hb2.mono HBX.out.size));have HK2:Hid (Ex (fun k=>k=N+2) (N+4) w w2):=zz ((Ex.of_below HB2.out).mono (by rw[<-HX.out];exact hXs) (fun _ h=>h));clear hb2 HM1 HBL HT1 HSZ HBX c1 HW hB HSM0
  cases B with
  | true=>
   clear HIH HPB HK;go_wp2;go_ret
   exact⟨.inr ⟨rfl,n,by omega,HM2.out⟩,HK2.out⟩
  | false=>
  have HP:Hid (P a m):=zz (HPB.out rfl);clear HPB;go_upto_region 3 with fail
  refine wp_region_lit ?_;refine wpList_load_row rfl 31 _ rfl X rfl 31 _ (0,0) _ HBL2.out Tryz.underlying31 rfl (by kernel_rfl) ?_;have HCN:=zz (zDz w2 kind (a.n:Int) a.neg (.slice mb ML mc) (a.bits:Int) a.ext (zAc a.text) (.slice kb m cap));generalize decide (kind=7 \/ kind=8 \/ kind=9)=cb at HCN;go_wp2_with fail
  refine HCN.out.mono ?_;rintro e w3 ⟨rfl,hb3⟩;have hBL3:=HBL2.out.below hb3 HBL2.out.lt;have HM3:=zz (HM2.out.below hb3);have hs2:=HM2.out.size;have HK3:Hid (Ex (fun k=>k=N+2) (N+4) w w3):=zz (HK2.out.trans ((Ex.of_below hb3).mono (by omega) (fun _ h=>h)))
  have HKID3:Hid (m=0 \/ ∃ (b o:Nat) (xs:Nat->Array Value),kb=some ⟨b,o,none⟩/\b<N/\zBO w3 b o m xs/\∀ i,i<m->zAl w3 N (fs i) (.agg (xs i))):=zz (by
   have hbb:Below N w w3:=(HB2.out.mono (by rw[<-HX.out];omega)).trans (hb3.mono (by omega));rcases HK.out with h|⟨b,o,xs,h1,h2,h3,h4⟩
   ·exact .inl h
   ·exact .inr ⟨b,o,xs,h1,h2,h3.below hbb h2,fun i hi=>zAl.below hbb _ _ (h4 i hi)⟩)
  have c7:=hBL3.cell 7;simp only[zAh,zAa,zv,zk,zx] at c7;clear hb3 hBL3 HM2 HBL2 HT2 HB2 HK2 HK HCN;have gar:IntKind.i64.wrap ((ar:Int)+1)=((ar+1:Nat):Int):=by rw[zY _ (by omega)];omega
  go_upto_if 15 with fail
  go_cut [1] from 16 to 17 (fun av wx=>∃ ar':Nat,av=.int .i64 (ar':Int)/\ar'<=ar+1/\wx=w3)
  case first=>
   cases cb with
   | true=>
    go_wp2;go_meet
    exact⟨ar+1,rfl,zQ _,rfl⟩
   | false=>
    go_wp2;go_meet
    exact⟨ar,rfl,Nat.le_succ _,rfl⟩
  case rest=>
  obtain⟨ar',rfl,har',rfl⟩:=hcut;clear gar;go_wp2;go_loopw [8,9,21] (fun _ _ i wr=>∃ k:Nat,k<=m/\i=.int .i64 k/\Hid (∀ i,i<k->(fs i).All P)/\Hid (WN wr N fw n)/\Hid (Ex (fun k=>k=N+2) (N+4) wc wr)) (fun _ _ i _=>m - (intOf i).toNat)
  case atStart=>exact⟨0,by omega,rfl,zz (fun i hi=>by omega),HM3,zz (Ex.refl _ _ _)⟩
  case round=>
   clear c7;obtain⟨k,hkm,rfl,HALL,HMr,HEr⟩:=hrel;by_cases h1:k<m
   ·obtain⟨b,o,xs,hkb,hbN,hrow,hkid⟩:∃ (b o:Nat) (xs:Nat->Array Value),kb=some ⟨b,o,none⟩/\b<N/\zBO wc b o m xs/\∀ i,i<m->zAl wc N (fs i) (.agg (xs i)):=by
     rcases HKID3.out with h|h
     ·omega
     ·exact h
    subst hkb;have hbb:Below N wc wr:=HEr.out.below (by omega) (fun j (hj:j=N+2)=>by omega);have hTk:=zAl.below hbb _ _ (hkid k h1);have HSK:=zz (HSM.out.2 k h1);obtain⟨hx8,hxc⟩:=(hrow.below hbb hbN) k h1;have HTK:=zz hTk;obtain⟨a',kind',mb',mn',mc',kb',kn',kc',hxk⟩:=hTk.cells;simp only[Value.agg.injEq] at hxk;rw[hxk] at hxc HTK;have d0:=hxc 0 (by omega);have d1:=hxc 1 (by omega);have d2:=hxc 2 (by omega);have d3:=hxc 3 (by omega);have d4:=hxc 4 (by omega);have d5:=hxc 5 (by omega);have d6:=hxc 6 (by omega);have d7:=hxc 7 (by omega);simp only[zAh,zAa,zv,zk,zx,Nat.add_zero] at d0 d1 d2 d3 d4 d5 d6 d7;have hm20:=HSM.out.1;clear hx8 hxc hxk hbb hTk hrow hkid;have g1:(k:Int)<(m:Int):=by omega
    go_upto_region 8 with fail
    obtain⟨Y,hY⟩:∃ Y,Y=wr.heap.size:=⟨_,rfl⟩;have hby:Below wr.heap.size wr (wr.alloc (.cells (zAh a' kind' (.slice mb' mn' mc') (.slice kb' kn' kc')) 31)):=(zK _ _).alloc (zQ _) _;have hbl:=Blk.new wr (zAh a' kind' (.slice mb' mn' mc') (.slice kb' kn' kc')) 31;have hsr:=HMr.out.size;have HM4:=zz (HMr.out.below hby);have HE4:Hid (Ex (fun k=>k=N+2) (N+4) wc (wr.alloc (.cells (zAh a' kind' (.slice mb' mn' mc') (.slice kb' kn' kc')) 31))):=zz (HEr.out.trans ((Ex.of_below hby).mono (by omega) (fun _ h=>h)));have HT4:=zz (zAl.below (hby.mono (by omega)) _ _ HTK.out);rw[<-hY] at hbl hsr;have HBl4:=zz hbl;have hs4:(wr.alloc (.cells (zAh a' kind' (.slice mb' mn' mc') (.slice kb' kn' kc')) 31)).heap.size=Y+1:=by rw[hY];simp
    have HS4:=zz hs4;have HY:=zz hY;clear hby hbl hY hs4 HMr HEr HTK d0 d1 d2 d3 d4 d5 d6 d7;change Code.wp _ _ _ _ (wr.alloc (.cells (zAh a' kind' (.slice mb' mn' mc') (.slice kb' kn' kc')) 31));rw[<-HY.out];generalize wr.alloc (.cells (zAh a' kind' (.slice mb' mn' mc') (.slice kb' kn' kc')) 31)=w4 at HM4 HE4 HT4 HBl4 HS4 ⊢;obtain⟨v,zs,hz1,hz2,hv1,hv2,hv3⟩:=HM4.out.steps;have HOWN:=zz hv3;have HZS:=zz (And.intro hz1 hz2);obtain⟨i0,hi0,hz0,hs0,hb0⟩:=zNl;have HI0:=zz hi0;have HZ0:=zz hz0;have HS0:=zz hs0;have HB0:=zz hb0;clear hv3 hi0 hz0 hs0 hb0 hz1 hz2;refine wp_region_lit ?_;iterate 9 go_step
    refine wpList_append_own _ rfl (.tmp 26) (.tmp 28) 95 rfl (N+4) 3 i0 (.int .i64 0) 1 8 Tryz.underlying95 HI0.out HZ0.out HS0.out HB0.out rfl (by decide) v n (zs.map iV) rfl (HOWN.out.alloc _) ⟨w4.heap.size,0,none⟩ 1 1 [.int .i64 (k:Int)] rfl rfl ?c1 ?c2 ?c3 ?c4 ?c5 ?_
    case c1=>
     intro j u hj
     cases j with
     | zero=>
      have e:u=.int .i64 (k:Int):=by simpa using hj.symm
      subst e;have:=(Blk.new w4 #[.int .i64 (k:Int)] 3).cell 0
      simp[Addr.add,this]
     | succ j=>simp at hj
    case c2=>intro u hu;simp only[List.mem_cons,List.not_mem_nil,or_false] at hu;subst hu;rfl
    case c3=>unfold maxLen;omega
    case c4=>omega
    case c5=>have:=HM4.out.size;simp;omega
    intro v' w5 hown' hgrow _;obtain⟨b',c',rfl⟩:=zCc hown'
    have hneY:v.ownBlock≠some Y:=by
     intro e;obtain⟨_,⟨rfl,_⟩|⟨g,cap',cur,rfl,_,hc,_⟩⟩:=HOWN.out
     ·simp[Value.ownBlock] at e
     ·simp only[Value.ownBlock,Option.some.injEq] at e;subst e;have:=HBl4.out;unfold Blk at this;rw[hc] at this;simp at this
    have hrowN:∀ j,v.ownBlock=some j->N+4<=j:=fun j hj=>(HOWN.out.lt j hj).1
    have hE45:Ex (fun k=>k=N+2) (N+4) w4 w5:=
     ((Ex.refl _ _ _).alloc (by have:=HM4.out.size;omega) _).trans (zHA hgrow (by have:=HM4.out.size;simp;omega) hrowN)
    have hk2:some (N+2)≠v.ownBlock:=fun e=>by have:=hrowN _ e.symm;omega
    have hlt4:=HM4.out.size;have e2:w5.heap[N+2]?=w4.heap[N+2]?:=by rw[hgrow.block (N+2) (by simp;omega) hk2];exact Below.heap_alloc w4 _ _ (by omega)
    have c2:w5.cell? ⟨N+2,0,none⟩=some v:=by rw[World.cell?_of_block (w:=w4) e2];exact hv1
    have f2:w5.frozen? ⟨N+2,0,none⟩=false:=by rw[World.frozen?_of_block (w:=w4) e2];exact hv2
    have hBl5:Blk w5 Y (zAh a' kind' (.slice mb' mn' mc') (.slice kb' kn' kc')) 31:=by
     unfold Blk;rw[hgrow.block Y (by simp;have:=HS4.out;omega) (fun e=>hneY e.symm),Below.heap_alloc w4 _ _ HBl4.out.lt];exact HBl4.out
    have hT5:=zAl.below (hE45.below (B':=N) (by omega) (fun j (hj:j=N+2)=>by omega)) _ _ HT4.out
    have hM5:WN (w5.setCell ⟨N+2,0,none⟩ (.slice b' (n+1) c')) N fw (n+1):=by
     refine⟨?_,?_,?_,.slice b' (n+1) c',zs ++ [k],by rw[List.length_append,HZS.out.1];rfl,?_,?_,?_,?_⟩
     ·have:=hE45.size;simp;omega
     ·rw[World.cell?_of_block (w:=w5) (Below.heap_setCell _ _ _ _ (by simp)),hE45.cell (a:=⟨N+1,0,none⟩) (by simp) (by simp)];exact HM4.out.wrong
     ·rw[World.cell?_of_block (w:=w5) (Below.heap_setCell _ _ _ _ (by simp)),hE45.cell (a:=⟨N+3,0,none⟩) (by simp) (by simp)];exact HM4.out.visit
     ·intro z hz;rcases List.mem_append.1 hz with hz|hz
      ·exact HZS.out.2 z hz
      ·rw[List.mem_singleton.1 hz];omega
     ·exact World.cell?_setCell_same _ _ _ c2
     ·simpa using f2
     ·rw[List.map_append];exact zD2 hown' _ _ (by omega) _
    have hE5:Ex (fun k=>k=N+2) (N+4) wc (w5.setCell ⟨N+2,0,none⟩ (.slice b' (n+1) c')):=(HE4.out.trans hE45).setCell (N+2) 0 (.inl rfl) _;have hBl6:=hBl5.set_other ⟨N+2,0,none⟩ (.slice b' (n+1) c') (by simp;omega);have hT6:=zAl.below (((zK N w5)).setCell (p:=⟨N+2,0,none⟩) (by simp) (.slice b' (n+1) c')) _ _ hT5;have HM5:=zz hM5;have HE5:=zz hE5;have HB6:=zz hBl6;have HT6:=zz hT6;clear hM5 hE5 hBl6 hT6 hT5 hBl5 hE45 hgrow hown' HOWN HM4 HE4 HT4 HBl4 hneY hrowN hk2 e2 hv1 hv2;go_upto_region 9 with fail
    clear c2 f2;generalize w5.setCell ⟨N+2,0,none⟩ (.slice b' (n+1) c')=w6 at HM5 HE5 HB6 HT6 ⊢;have c3:=HM5.out.visit;refine wp_region_lit ?_;iterate 3 go_step
    refine wpList_load_row rfl 31 _ rfl Y rfl 31 _ (0,0) _ HB6.out Tryz.underlying31 rfl (by kernel_rfl) ?_;go_wp2_with fail
    have hd0:=HSK.out.1;refine (HIH.out k (d - 1) _ ar' w6 (n+1) (H00.out.trans ((HK3.out.trans HE5.out).below (by omega) (fun j (hj:j=N+2)=>by omega))) HT6.out HSK.out.2 (by omega) (by omega) HM5.out).mono ?_;clear c3;rintro e w7 ⟨⟨rfl,hall7,hM7⟩|⟨rfl,n',hn',hM7⟩,hE7⟩
    ·have hlt7:=hM7.size;obtain⟨v7,ys7,p1,p2,q1,q2,q3⟩:=hM7.steps;obtain⟨b7,c7,rfl⟩:=zCc q3;obtain⟨r1,r2,⟨g7,rfl⟩,r3⟩:=zJ6 q3;unfold maxLen at r2
     have hM8:WN (w7.setCell ⟨N+2,0,none⟩ (.slice (some ⟨g7,0,none⟩) n c7)) N fw n:=by
      refine⟨?_,?_,?_,.slice (some ⟨g7,0,none⟩) n c7,ys7.take n,by rw[List.length_take];omega,fun z hz=>p2 z (List.mem_of_mem_take hz),?_,?_,?_⟩
      ·simpa using hlt7
      ·rw[World.cell?_of_block (w:=w7) (Below.heap_setCell _ _ _ _ (by simp))];exact hM7.wrong
      ·rw[World.cell?_of_block (w:=w7) (Below.heap_setCell _ _ _ _ (by simp))];exact hM7.visit
      ·exact World.cell?_setCell_same _ _ _ q1
      ·simpa using q2
      ·rw[List.map_take];exact zD2 r3 _ _ (by omega) _
     have HM8:=zz hM8;have HE8:Hid (Ex (fun k=>k=N+2) (N+4) wc (w7.setCell ⟨N+2,0,none⟩ (.slice (some ⟨g7,0,none⟩) n c7))):=zz ((HE5.out.trans hE7).setCell (N+2) 0 (.inl rfl) _)
     have HA8:Hid (∀ i,i<k+1->(fs i).All P):=zz (fun i hi=>by
      rcases Nat.lt_or_ge i k with h|h
      ·exact HALL.out i h
      ·rw[show i=k by omega];exact hall7)
     clear hM8 hM7 hE7 q3 r3 HM5 HE5 HB6 HT6 hall7 p1 p2;have g7:IntKind.i64.wrap ((n:Int)+1 - 1)=(n:Int):=by rw[zY _ (by omega)];omega
     have g8:(n:Int)+1 - 1=(n:Int):=by omega
     go_wp2;go_roundw
     case rel=>exact⟨k+1,by omega,by simp,HA8,HM8,HE8⟩
     case measure=>simp[intOf];omega
    ·have HM8:=zz hM7;have HE8:=zz (HK3.out.trans (HE5.out.trans hE7));clear hM7 hE7 HM5 HE5 HB6 HT6;go_wp2;go_ret;exact⟨.inr ⟨rfl,n',hn',HM8.out⟩,HE8.out⟩
   ·have g1:¬ (k:Int)<(m:Int):=by omega
    have HAA:Hid ((VT.node a m fs).All P):=zz ⟨HP.out,fun i hi=>HALL.out i (by omega)⟩;go_wp2;go_ret;exact⟨.inl ⟨rfl,HAA.out,HMr.out⟩,HK3.out.trans HEr.out⟩
end Go.Proofs.YtcanfakaigpkgaaGreatDoor.D
