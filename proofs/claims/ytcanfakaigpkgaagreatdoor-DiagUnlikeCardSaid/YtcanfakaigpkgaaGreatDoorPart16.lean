/-
  Of the proof that the law DiagUnlike answers true at every two values: a part, without conditions of its own.
-/
import Derived.Test.YtcanfakaigpkgaaGreatDoorPart13
import Derived.Test.YtcanfakaigpkgaaGreatDoorPart14
import Derived.Test.YtcanfakaigpkgaaGreatDoorPart12
import Derived.Sort.Walk0
set_option linter.unusedVariables false
set_option linter.unusedSimpArgs false
set_option maxRecDepth 100000
set_option maxHeartbeats 8000000
namespace Go.Proofs.YtcanfakaigpkgaaGreatDoor.D
open Go Go.RowKit Limb
theorem zCG:BTy 49 []:=⟨by decide,by kernel_rfl⟩
theorem zFP(l:List UInt8)(t:Nat)(h:t<l.length):zBJ (l.take (t+1))=zBJ (l.take t) ++ [zCk ((l.getD t 0).toNat / 16)] ++ [zCk ((l.getD t 0).toNat % 16)]:=by
 rw[List.take_succ_eq_append_getElem h];unfold zBJ;rw[List.flatMap_append,zw,zZ h];simp
theorem zA8(l:List UInt8):(zBJ l).length=2*l.length:=by
 unfold zBJ
 induction l with
 | nil=>rfl
 | cons x t ih=>rw[List.flatMap_cons,List.length_append,ih];simp;omega
theorem zOH(c:UInt8):bits .and .u8 (c.toNat:Int) 15=((c.toNat % 16:Nat):Int):=by
 have:∀ q:Fin 256,bits .and .u8 (q.val:Int) 15=((q.val % 16:Nat):Int):=by decide +kernel
 exact this ⟨c.toNat,c.toNat_lt⟩
def zH4(q:Nat):Int:=((zCk q).toNat:Int)
theorem zCP(w:World)(q:Nat)(h:q<16):(Instr.index 9 (.string { data:=#[48,49,50,51,52,53,54,55,56,57,97,98,99,100,101,102] }) (.int .u8 (q:Int))).run Tryz.prog w=.ok (.int .u8 (zH4 q)) w:=by
 rw[run_index_string w 9 _ .u8 (q:Int) Tryz.underlying9];have hs:(({ data:=#[48,49,50,51,52,53,54,55,56,57,97,98,99,100,101,102] }:ByteArray)).size=16:=rfl;rw[dif_pos ⟨by omega,by rw[hs];omega⟩];congr 2;have:∀ q:Fin 16,((({ data:=#[48,49,50,51,52,53,54,55,56,57,97,98,99,100,101,102] }:ByteArray)[q.val]'q.isLt).toNat:Int)=zH4 q.val:=by decide +kernel
 exact this ⟨q,h⟩
theorem zOt(w:World)(k n cap:Nat)(l:List UInt8)(hn:n=l.length)(h0:l≠[])(hl:l.length<=1048576)(hk:k<w.heap.size)(hc:∀ i,i<n->w.cell? ⟨k,i,none⟩=some (.int .u8 ((l.getD i 0).toNat:Int))):
  Calls Tryz.prog 46 #[.slice (some ⟨k,0,none⟩) n cap] w fun e w'=>e=.returned (.string (zAc (zBJ l)))/\Below w.heap.size w w':=by
 have HC:=zz hc;have HN:=zz hn;have hn2:n<=1048576:=by omega
 have hb:Below w.heap.size w (w.alloc (.cells #[.pointer none,.slice none 0 0] 49)):=(zK _ _).alloc (zQ _) _;have hB:=Blk.new w #[.pointer none,.slice none 0 0] 49;have hI:BIs 49 [] w.heap.size w.heap.size [] (w.alloc (.cells #[.pointer none,.slice none 0 0] 49)):=.inl ⟨zQ _,_,hB,World.ownsRow_nil _ _ _ _,by simp[Value.ownBlock]⟩;have HB:=zz hb;have HI:=zz hI;clear hc hn hb hB hI;go_enter Tryz.func46,Tryz.ntmps46
 go_upto_region 2 with fail
 change Code.wp _ _ _ _ (w.alloc (.cells #[.pointer none,.slice none 0 0] 49));generalize w.alloc (.cells #[.pointer none,.slice none 0 0] 49)=w1 at HB HI ⊢;go_wp2;go_loopw [5,8] (fun _ i wr=>∃ t:Nat,t<=n/\i=.int .i64 t/\Hid (BIs 49 [] w.heap.size w.heap.size (zBJ (l.take t)) wr)/\Hid (Below w.heap.size w wr)) (fun _ i _=>n - (intOf i).toNat)
 case atStart=>exact⟨0,by omega,rfl,HI,HB⟩
 case round=>
  clear HB HI;obtain⟨t,ht,rfl,HI,HB⟩:=hrel;by_cases h1:t<n
  ·have g1:(t:Int)<(n:Int):=by omega
   have hcell:wr.cell? ⟨k,t,none⟩=some (.int .u8 ((l.getD t 0).toNat:Int)):=by rw[HB.out.cell (p:=⟨k,t,none⟩) hk];exact HC.out t h1
   have HS:=zz (zFP l t (by rw[<-HN.out];exact h1));have HLE:Hid ((zBJ (l.take t)).length+2<=140737488355328):=zz (by rw[zA8,List.length_take];omega);generalize l.getD t 0=c at hcell HS;generalize zBJ (l.take t)=pre at HI HS HLE;have hcl:=c.toNat_lt;have ha:=zOH c;obtain⟨q,hq⟩:∃ q,q=c.toNat / 16:=⟨_,rfl⟩;obtain⟨r,hr⟩:∃ r,r=c.toNat % 16:=⟨_,rfl⟩;rw[<-hr] at ha;have q3:IntKind.u8.wrap ((c.toNat:Int) / 16)=(q:Int):=by rw[hq,IntKind.wrap_u8];omega
   have q5:(c.toNat:Int) / 16=(q:Int):=by rw[hq];omega
   have q6:IntKind.u8.wrap (q:Int)=(q:Int):=by rw[IntKind.wrap_u8];omega
   have hxq:=fun w=>zCP w q (by omega)
   have hxr:=fun w=>zCP w r (by omega)
   rw[<-hq,<-hr] at HS;clear hq hr;generalize (c.toNat:Int)=C at *;go_wp2_with fail
   refine (zCC zCG w.heap.size w.heap.size pre (zCk q) wr HI.out (by have:=HLE.out;omega) HB.out.size).mono ?_;rintro e w2 ⟨rfl,hb2,hw2⟩;have HI2:=zz hb2;have HB2:=zz (HB.out.trans hw2.1);clear hb2 hw2 HI HB hcell;go_wp2_with fail
   refine (zCC zCG w.heap.size w.heap.size (pre ++ [zCk q]) (zCk r) w2 (.inr HI2.out) (by have:=HLE.out;simp;omega) HB2.out.size).mono ?_;rintro e w3 ⟨rfl,hb3,hw3⟩;have HI3:Hid (BIs 49 [] w.heap.size w.heap.size (zBJ (l.take (t+1))) w3):=zz (by rw[HS.out];exact .inr hb3);have HB3:=zz (HB2.out.trans hw3.1);clear hb3 hw3 HI2 HB2;go_wp2;go_roundw
   case rel=>exact⟨t+1,by omega,by simp,HI3,HB3⟩
   case measure=>simp[intOf];omega
  ·obtain rfl:t=n:=by omega
   have g1:¬ (t:Int)<(t:Int):=by omega
   have HH:Hid (zMc w.heap.size w.heap.size (zBJ l) wr):=zz (by
    have:=HI.out;rw[List.take_of_length_le (by rw[<-HN.out];exact zQ _)] at this;exact this.has (by intro e;have:=congrArg List.length e;rw[zA8] at this;cases l with|nil=>exact h0 rfl|cons a b=>simp at this))
   clear HI;go_wp2_with fail
   refine (zBg w.heap.size w.heap.size (zBJ l) wr HH.out).mono ?_;rintro e w2 ⟨rfl,_,hb2⟩;have HB2:=zz (HB.out.trans hb2);clear hb2;go_wp2;go_ret;exact⟨rfl,HB2.out⟩
theorem zNH(w:World):
  Calls Tryz.prog 44 #[.int .u64 1,.int .i64 10] w fun e w'=>e=.returned (.string (zAc [49]))/\w'=w:=by
 go_enter Tryz.func44,Tryz.ntmps44
 go_wp2;go_ret;exact⟨rfl,rfl⟩
theorem zN6(w:World):
  Calls Tryz.prog 44 #[.int .u64 10,.int .i64 10] w fun e w'=>e=.returned (.string (zAc [49,48]))/\w'=w:=by
 go_enter Tryz.func44,Tryz.ntmps44
 go_wp2;go_ret;exact⟨rfl,rfl⟩
theorem zKo:zAb (val [0,0,960] / 10)=[0,0,96]:=by
 rw[show val [0,0,960] / 10=val [0,0,96] by decide,<-zAv (by unfold Fit;decide)];decide
theorem zNC(w:World)(v v2:Value)(h:zAf w v [0,0,960])(h2:zAf w v2 [10]):
  Calls Tryz.prog 212 #[v,v2] w fun e w'=>Below w.heap.size w w'/\∃ v' c k,e=.returned (.tuple #[v',.slice c 0 k,.bool true])/\zAf w' v' [0,0,96]:=by
 have H2:=zz h2;have HN1:=zz (zBi w v _ h (by decide));clear h h2;go_enter Tryz.func212,Tryz.ntmps212
 go_wp2_with fail
 refine HN1.out.mono ?_;rintro r w1 ⟨hb1,u1,rfl,hu1,-⟩;rw[show zDY [0,0,960]=[0,0,960] by decide] at hu1;have HN2:=zz (zBi w1 v2 _ (H2.out.below hb1) (by decide));have HU1:=zz hu1;have HB1:=zz hb1;clear hu1 hb1;go_wp2_with fail
 refine HN2.out.mono ?_;rintro r w2 ⟨hb2,u2,rfl,hu2,-⟩;rw[show zDY [10]=[10] by decide] at hu2;have HS:=zz (zDu w2 u1 _ 10 (HU1.out.below hb2) (by decide) (by decide) (by decide));rw[zKo] at HS;obtain⟨b2,o2,k2,rfl,hlt2,hk2,_,hc2⟩:=hu2.one;have HB2:=zz (HB1.out.trans (hb2.mono HB1.out.size));clear hu2 hb2;go_wp2_with fail
 refine HS.out.mono ?_;rintro r w3 ⟨hb3,u3,rfl,hu3⟩;have HU3:=zz hu3;have HB3:=zz (HB2.out.trans (hb3.mono HB2.out.size));have hm:((val [0,0,960] % 10:Nat):Int)=0:=by decide
 rw[hm];clear hu3 hb3;go_wp2_with fail
 refine (zAH w3 0 (by decide)).mono ?_;rintro r w4 ⟨hb4,u4,rfl,hu4⟩;have hz:zAb 0=[]:=zAn;rw[hz] at hu4;obtain⟨c4,k4,rfl⟩:=hu4.slice;have HU4:=zz (HU3.out.below hb4);have HB4:=zz (HB3.out.trans (hb4.mono HB3.out.size));clear hu4 hb4;go_wp2;exact bodyPost_ret (v:=.tuple #[u3,.slice c4 0 k4,.bool true]) (by simp[results,Tryz.results212,go_sem]) rfl ⟨HB4.out,_,_,_,rfl,HU4.out⟩
theorem zEq(w:World)(x:Int):Calls Tryz.prog 214 #[.bool false,.int .u64 x] w fun e w'=>e=.returned (.int .u64 x)/\w'=w:=by
 go_enter Tryz.func214,Tryz.ntmps214
 go_wp2;go_ret;exact⟨rfl,rfl⟩
theorem zK3(w:World)(hG:GW w)(v:Value)(h:zAf w v [1]):
  Calls Tryz.prog 210 #[.bool false,v,.int .i64 (0),.bool false] w fun e w'=>e=.returned (.int .u64 4607182418800017408)/\Below w.heap.size w w':=by
 have H:=zz h;have HOF:=zz (zCy w hG.s);clear h hG;go_enter Tryz.func210,Tryz.ntmps210
 go_wp2_with fail
 refine HOF.out.mono ?_;rintro r w1 ⟨rfl,hb1⟩;obtain⟨w2,hw2⟩:∃ w2,w2=w1.alloc (.cells #[.int .i64 52,.int .i64 (-1074),.int .i64 11] 144):=⟨_,rfl⟩;have hb2:Below w1.heap.size w1 w2:=by rw[hw2];exact (zK _ _).alloc (zQ _) _
 have hB2:Blk w2 w1.heap.size #[.int .i64 52,.int .i64 (-1074),.int .i64 11] 144:=by rw[hw2];exact Blk.new _ _ _
 have hb12:=hb1.trans (hb2.mono hb1.size);have hl2:=H.out.below hb12;have hlen:=zBs w2 v _ hl2 (by decide);rw[show val [1]=1 by decide,zA0 (n:=1) (k:=1) (by decide) (by decide) (by decide)] at hlen;have hlen:Calls Tryz.prog 78 #[v] w2 fun e w'=>w'=w2/\e=.returned (.int .i64 1):=hlen
 have HLEN:=zz hlen;have HB2:=zz hb12;have HBL2:=zz hB2;have HL2:=zz hl2;have HW2:=zz hw2;clear hb1 hb2 hB2 hb12 hl2 hlen hw2 HOF;go_upto_region 2 with fail
 change Code.wp _ _ _ _ (w1.alloc (.cells #[.int .i64 52,.int .i64 (-1074),.int .i64 11] 144));rw[<-HW2.out];have c0:w2.cell? ⟨w1.heap.size,0,none⟩=some (.int .i64 52):=HBL2.out.cell 0;have c1:w2.cell? ⟨w1.heap.size,1,none⟩=some (.int .i64 (-1074)):=HBL2.out.cell 1;have c2:w2.cell? ⟨w1.heap.size,2,none⟩=some (.int .i64 11):=HBL2.out.cell 2;go_wp2_with fail
 refine HLEN.out.mono ?_;rintro r w3 ⟨rfl,rfl⟩;go_upto_region 13 with fail
 go_quiet (fail)
 have HBLq:=zz (HBL2.out.drewN nq);have HBq:=zz (zAd HB2.out nq);have HLq:Hid (zAf (w3.drewN nq) v [1]):=zz HL2.out;clear c0 c1 c2 HLEN HBL2 HB2 HL2 HW2 hlen;generalize w3.drewN nq=w4 at HBLq HBq HLq ⊢;have c0:w4.cell? ⟨w1.heap.size,0,none⟩=some (.int .i64 52):=HBLq.out.cell 0;have c1:w4.cell? ⟨w1.heap.size,1,none⟩=some (.int .i64 (-1074)):=HBLq.out.cell 1;have c2:w4.cell? ⟨w1.heap.size,2,none⟩=some (.int .i64 11):=HBLq.out.cell 2;have hu:=zDn w4 v _ HLq.out (by decide);have hu:Calls Tryz.prog 161 #[v] w4 fun e w'=>w'=w4/\e=.returned (.tuple #[.int .u64 1,.bool true]):=hu
 have HU:=zz hu;clear hu;go_wp2_with fail
 refine HU.out.mono ?_;rintro r w5 ⟨rfl,rfl⟩;go_wp2_with fail
 refine (zEq w5 _).mono ?_;rintro r w7 ⟨rfl,rfl⟩;go_wp2;go_ret;exact⟨rfl,HBq.out⟩
theorem zIW(w:World)(hG:GW w)(v:Value)(h:zAf w v [0,0,96]):
  Calls Tryz.prog 210 #[.bool false,v,.int .i64 (-70),.bool false] w fun e w'=>e=.returned (.int .u64 4609434218613702656)/\Below w.heap.size w w':=by
 have H:=zz h;have HOF:=zz (zCy w hG.s);clear h hG;go_enter Tryz.func210,Tryz.ntmps210
 go_wp2_with fail
 refine HOF.out.mono ?_;rintro r w1 ⟨rfl,hb1⟩;obtain⟨w2,hw2⟩:∃ w2,w2=w1.alloc (.cells #[.int .i64 52,.int .i64 (-1074),.int .i64 11] 144):=⟨_,rfl⟩;have hb2:Below w1.heap.size w1 w2:=by rw[hw2];exact (zK _ _).alloc (zQ _) _
 have hB2:Blk w2 w1.heap.size #[.int .i64 52,.int .i64 (-1074),.int .i64 11] 144:=by rw[hw2];exact Blk.new _ _ _
 have hb12:=hb1.trans (hb2.mono hb1.size);have hl2:=H.out.below hb12;have hlen:=zBs w2 v _ hl2 (by decide);rw[show val [0,0,96]=1770887431076116955136 by decide,zA0 (n:=1770887431076116955136) (k:=71) (by decide) (by decide) (by decide)] at hlen;have hlen:Calls Tryz.prog 78 #[v] w2 fun e w'=>w'=w2/\e=.returned (.int .i64 71):=hlen
 have HLEN:=zz hlen;have HB2:=zz hb12;have HBL2:=zz hB2;have HL2:=zz hl2;have HW2:=zz hw2;clear hb1 hb2 hB2 hb12 hl2 hlen hw2 HOF;go_upto_region 2 with fail
 change Code.wp _ _ _ _ (w1.alloc (.cells #[.int .i64 52,.int .i64 (-1074),.int .i64 11] 144));rw[<-HW2.out];have c0:w2.cell? ⟨w1.heap.size,0,none⟩=some (.int .i64 52):=HBL2.out.cell 0;have c1:w2.cell? ⟨w1.heap.size,1,none⟩=some (.int .i64 (-1074)):=HBL2.out.cell 1;have c2:w2.cell? ⟨w1.heap.size,2,none⟩=some (.int .i64 11):=HBL2.out.cell 2;go_wp2_with fail
 refine HLEN.out.mono ?_;rintro r w3 ⟨rfl,rfl⟩;go_upto_region 13 with fail
 go_quiet (fail)
 have HBLq:=zz (HBL2.out.drewN nq);have HBq:=zz (zAd HB2.out nq);have HLq:Hid (zAf (w3.drewN nq) v [0,0,96]):=zz HL2.out;clear c0 c1 c2 HLEN HBL2 HB2 HL2 HW2 hlen;generalize w3.drewN nq=w4 at HBLq HBq HLq ⊢;have c0:w4.cell? ⟨w1.heap.size,0,none⟩=some (.int .i64 52):=HBLq.out.cell 0;have c1:w4.cell? ⟨w1.heap.size,1,none⟩=some (.int .i64 (-1074)):=HBLq.out.cell 1;have c2:w4.cell? ⟨w1.heap.size,2,none⟩=some (.int .i64 11):=HBLq.out.cell 2;have HSH:=zz (zJ2 w4 v HLq.out);go_wp2_with fail
 refine HSH.out.mono ?_;rintro r w5 ⟨hb5,u5,rfl,hu5⟩;have hB5:=HBLq.out.below hb5 HBLq.out.lt;have HB5:=zz (HBq.out.trans (hb5.mono HBq.out.size));have c0:w5.cell? ⟨w1.heap.size,0,none⟩=some (.int .i64 52):=hB5.cell 0;have c1:w5.cell? ⟨w1.heap.size,1,none⟩=some (.int .i64 (-1074)):=hB5.cell 1;have hu:=zDn w5 u5 _ hu5 (by decide);have hu:Calls Tryz.prog 161 #[u5] w5 fun e w'=>w'=w5/\e=.returned (.tuple #[.int .u64 13510798882111488,.bool true]):=hu
 have HU:=zz hu;have hq1:bits .and .u64 13510798882111488 1=0:=by decide
 clear hb5 hu5 hB5 hu HBq;have HBq:=HB5;go_wp2_with fail
 refine HU.out.mono ?_;rintro r w6 ⟨rfl,rfl⟩;go_wp2_with fail
 refine (zEq w6 _).mono ?_;rintro r w7 ⟨rfl,rfl⟩;go_wp2;go_ret;exact⟨rfl,HBq.out⟩
theorem zGU(w:World)(hG:GW w)(v:Value)(h:zAf w v [3]):
  Calls Tryz.prog 210 #[.bool false,v,.int .i64 (-1),.bool false] w fun e w'=>e=.returned (.int .u64 4609434218613702656)/\Below w.heap.size w w':=by
 have H:=zz h;have HOF:=zz (zCy w hG.s);clear h hG;go_enter Tryz.func210,Tryz.ntmps210
 go_wp2_with fail
 refine HOF.out.mono ?_;rintro r w1 ⟨rfl,hb1⟩;obtain⟨w2,hw2⟩:∃ w2,w2=w1.alloc (.cells #[.int .i64 52,.int .i64 (-1074),.int .i64 11] 144):=⟨_,rfl⟩;have hb2:Below w1.heap.size w1 w2:=by rw[hw2];exact (zK _ _).alloc (zQ _) _
 have hB2:Blk w2 w1.heap.size #[.int .i64 52,.int .i64 (-1074),.int .i64 11] 144:=by rw[hw2];exact Blk.new _ _ _
 have hb12:=hb1.trans (hb2.mono hb1.size);have hl2:=H.out.below hb12;have hlen:=zBs w2 v _ hl2 (by decide);rw[show val [3]=3 by decide,zA0 (n:=3) (k:=2) (by decide) (by decide) (by decide)] at hlen;have hlen:Calls Tryz.prog 78 #[v] w2 fun e w'=>w'=w2/\e=.returned (.int .i64 2):=hlen
 have HLEN:=zz hlen;have HB2:=zz hb12;have HBL2:=zz hB2;have HL2:=zz hl2;have HW2:=zz hw2;clear hb1 hb2 hB2 hb12 hl2 hlen hw2 HOF;go_upto_region 2 with fail
 change Code.wp _ _ _ _ (w1.alloc (.cells #[.int .i64 52,.int .i64 (-1074),.int .i64 11] 144));rw[<-HW2.out];have c0:w2.cell? ⟨w1.heap.size,0,none⟩=some (.int .i64 52):=HBL2.out.cell 0;have c1:w2.cell? ⟨w1.heap.size,1,none⟩=some (.int .i64 (-1074)):=HBL2.out.cell 1;have c2:w2.cell? ⟨w1.heap.size,2,none⟩=some (.int .i64 11):=HBL2.out.cell 2;go_wp2_with fail
 refine HLEN.out.mono ?_;rintro r w3 ⟨rfl,rfl⟩;go_upto_region 13 with fail
 go_quiet (fail)
 have HBLq:=zz (HBL2.out.drewN nq);have HBq:=zz (zAd HB2.out nq);have HLq:Hid (zAf (w3.drewN nq) v [3]):=zz HL2.out;clear c0 c1 c2 HLEN HBL2 HB2 HL2 HW2 hlen;generalize w3.drewN nq=w4 at HBLq HBq HLq ⊢;have c0:w4.cell? ⟨w1.heap.size,0,none⟩=some (.int .i64 52):=HBLq.out.cell 0;have c1:w4.cell? ⟨w1.heap.size,1,none⟩=some (.int .i64 (-1074)):=HBLq.out.cell 1;have c2:w4.cell? ⟨w1.heap.size,2,none⟩=some (.int .i64 11):=HBLq.out.cell 2;have hu:=zDn w4 v _ HLq.out (by decide);have hu:Calls Tryz.prog 161 #[v] w4 fun e w'=>w'=w4/\e=.returned (.tuple #[.int .u64 3,.bool true]):=hu
 have HU:=zz hu;clear hu;go_wp2_with fail
 refine HU.out.mono ?_;rintro r w5 ⟨rfl,rfl⟩;go_wp2_with fail
 refine (zEq w5 _).mono ?_;rintro r w7 ⟨rfl,rfl⟩;go_wp2;go_ret;exact⟨rfl,HBq.out⟩
theorem zCM(w:World)(x:Int):Calls Tryz.prog 48 #[.int .i8 x] w fun e w'=>w'=w/\e=.returned (.bool false):=by
 go_enter Tryz.func48,Tryz.ntmps48
 go_wp2;go_ret;exact⟨rfl,rfl⟩
theorem zMQ(w:World)(X Y:Int):Calls Tryz.prog 19 #[.int .i8 X,.int .i8 Y] w fun e w'=>w'=w/\e=.returned (.int .i64 (sgI X Y)):=by
 rcases Int.lt_trichotomy X Y with h|h|h
 ·rw[show sgI X Y=-1 by simp[sgI,h]];go_enter Tryz.func19,Tryz.ntmps19
  go_wp2_with fail
  refine (zCM w X).mono ?_;rintro e w1 ⟨rfl,rfl⟩;go_wp2_with fail
  refine (zCM w1 Y).mono ?_;rintro e w2 ⟨rfl,rfl⟩;go_wp2;go_ret;exact⟨rfl,rfl⟩
 ·subst h;rw[show sgI X X=0 by simp[sgI]];have g:¬ X<X:=by omega
  go_enter Tryz.func19,Tryz.ntmps19
  go_wp2_with fail
  refine (zCM w X).mono ?_;rintro e w1 ⟨rfl,rfl⟩;go_wp2_with fail
  refine (zCM w1 X).mono ?_;rintro e w2 ⟨rfl,rfl⟩;go_wp2;go_ret;exact⟨rfl,rfl⟩
 ·have g:¬ X<Y:=by omega
  rw[show sgI X Y=1 by simp[sgI,h];omega];go_enter Tryz.func19,Tryz.ntmps19
  go_wp2_with fail
  refine (zCM w X).mono ?_;rintro e w1 ⟨rfl,rfl⟩;go_wp2_with fail
  refine (zCM w1 Y).mono ?_;rintro e w2 ⟨rfl,rfl⟩;go_wp2;go_ret;exact⟨rfl,rfl⟩
theorem zDD(w:World)(x:Int):Calls Tryz.prog 49 #[.int .u64 x] w fun e w'=>w'=w/\e=.returned (.bool false):=by
 go_enter Tryz.func49,Tryz.ntmps49
 go_wp2;go_ret;exact⟨rfl,rfl⟩
theorem zGK(w:World)(X Y:Int):Calls Tryz.prog 20 #[.int .u64 X,.int .u64 Y] w fun e w'=>w'=w/\e=.returned (.int .i64 (sgI X Y)):=by
 rcases Int.lt_trichotomy X Y with h|h|h
 ·rw[show sgI X Y=-1 by simp[sgI,h]];go_enter Tryz.func20,Tryz.ntmps20
  go_wp2_with fail
  refine (zDD w X).mono ?_;rintro e w1 ⟨rfl,rfl⟩;go_wp2_with fail
  refine (zDD w1 Y).mono ?_;rintro e w2 ⟨rfl,rfl⟩;go_wp2;go_ret;exact⟨rfl,rfl⟩
 ·subst h;rw[show sgI X X=0 by simp[sgI]];have g:¬ X<X:=by omega
  go_enter Tryz.func20,Tryz.ntmps20
  go_wp2_with fail
  refine (zDD w X).mono ?_;rintro e w1 ⟨rfl,rfl⟩;go_wp2_with fail
  refine (zDD w1 X).mono ?_;rintro e w2 ⟨rfl,rfl⟩;go_wp2;go_ret;exact⟨rfl,rfl⟩
 ·have g:¬ X<Y:=by omega
  rw[show sgI X Y=1 by simp[sgI,h];omega];go_enter Tryz.func20,Tryz.ntmps20
  go_wp2_with fail
  refine (zDD w X).mono ?_;rintro e w1 ⟨rfl,rfl⟩;go_wp2_with fail
  refine (zDD w1 Y).mono ?_;rintro e w2 ⟨rfl,rfl⟩;go_wp2;go_ret;exact⟨rfl,rfl⟩
theorem zFb(w:World)(x:Int):Calls Tryz.prog 50 #[.int .i8 x] w fun e w'=>w'=w/\e=.returned (.bool false):=by
 go_enter Tryz.func50,Tryz.ntmps50
 go_wp2;go_ret;exact⟨rfl,rfl⟩
theorem zPl(w:World)(X Y:Int):Calls Tryz.prog 21 #[.int .i8 X,.int .i8 Y] w fun e w'=>w'=w/\e=.returned (.int .i64 (sgI X Y)):=by
 rcases Int.lt_trichotomy X Y with h|h|h
 ·rw[show sgI X Y=-1 by simp[sgI,h]];go_enter Tryz.func21,Tryz.ntmps21
  go_wp2_with fail
  refine (zFb w X).mono ?_;rintro e w1 ⟨rfl,rfl⟩;go_wp2_with fail
  refine (zFb w1 Y).mono ?_;rintro e w2 ⟨rfl,rfl⟩;go_wp2;go_ret;exact⟨rfl,rfl⟩
 ·subst h;rw[show sgI X X=0 by simp[sgI]];have g:¬ X<X:=by omega
  go_enter Tryz.func21,Tryz.ntmps21
  go_wp2_with fail
  refine (zFb w X).mono ?_;rintro e w1 ⟨rfl,rfl⟩;go_wp2_with fail
  refine (zFb w1 X).mono ?_;rintro e w2 ⟨rfl,rfl⟩;go_wp2;go_ret;exact⟨rfl,rfl⟩
 ·have g:¬ X<Y:=by omega
  rw[show sgI X Y=1 by simp[sgI,h];omega];go_enter Tryz.func21,Tryz.ntmps21
  go_wp2_with fail
  refine (zFb w X).mono ?_;rintro e w1 ⟨rfl,rfl⟩;go_wp2_with fail
  refine (zFb w1 Y).mono ?_;rintro e w2 ⟨rfl,rfl⟩;go_wp2;go_ret;exact⟨rfl,rfl⟩
theorem zDG(w:World)(x:ByteArray):Calls Tryz.prog 54 #[.string x] w fun e w'=>w'=w/\e=.returned (.bool false):=by
 go_enter Tryz.func54,Tryz.ntmps54
 go_wp2;go_ret;exact⟨rfl,rfl⟩
theorem zPh(s t:List UInt8):Op.bytesLess (zAc s).toList (zAc t).toList=decide (s<t):=by
 rw[ByteArray.toList_eq,ByteArray.toList_eq];exact bytesLess_eq s t
theorem zNy(s t:List UInt8):((zAc s).toList == (zAc t).toList)=decide (s=t):=by
 rw[ByteArray.toList_eq,ByteArray.toList_eq];show (s == t)=_;by_cases h:s=t
 ·subst h;simp
 ·simp[h]
theorem zNB(w:World)(s t:List UInt8):Calls Tryz.prog 24 #[.string (zAc s),.string (zAc t)] w fun e w'=>w'=w/\e=.returned (.int .i64 (zJb s t)):=by
 have hl:=zPh s t;have he:=zNy s t;obtain⟨c,hc⟩:∃ c,c=zJb s t:=⟨_,rfl⟩;rw[<-hc];by_cases h1:s=t
 ·have h2:¬ s<t:=by rw[h1];exact List.lt_irrefl t
  have hc':c=0:=by rw[hc];unfold zJb;rw[if_pos h1]
  rw[decide_eq_false h2] at hl;rw[decide_eq_true h1] at he;subst hc';clear hc h1 h2;generalize zAc s=S at *;generalize zAc t=T at *;go_enter Tryz.func24,Tryz.ntmps24
  go_wp2_with fail
  refine (zDG w _).mono ?_;rintro e w1 ⟨rfl,rfl⟩;go_wp2_with fail
  refine (zDG w1 _).mono ?_;rintro e w2 ⟨rfl,rfl⟩;go_wp2;go_ret;exact⟨rfl,rfl⟩
 ·rw[decide_eq_false h1] at he;by_cases h2:s<t
  ·have hc':c=-1:=by rw[hc];unfold zJb;rw[if_neg h1,if_pos h2]
   rw[decide_eq_true h2] at hl;subst hc';clear hc h1 h2;generalize zAc s=S at *;generalize zAc t=T at *;go_enter Tryz.func24,Tryz.ntmps24
   go_wp2_with fail
   refine (zDG w _).mono ?_;rintro e w1 ⟨rfl,rfl⟩;go_wp2_with fail
   refine (zDG w1 _).mono ?_;rintro e w2 ⟨rfl,rfl⟩;go_wp2;go_ret;exact⟨rfl,rfl⟩
  ·have hc':c=1:=by rw[hc];unfold zJb;rw[if_neg h1,if_neg h2]
   rw[decide_eq_false h2] at hl;subst hc';clear hc h1 h2;generalize zAc s=S at *;generalize zAc t=T at *;go_enter Tryz.func24,Tryz.ntmps24
   go_wp2_with fail
   refine (zDG w _).mono ?_;rintro e w1 ⟨rfl,rfl⟩;go_wp2_with fail
   refine (zDG w1 _).mono ?_;rintro e w2 ⟨rfl,rfl⟩;go_wp2;go_ret;exact⟨rfl,rfl⟩
theorem zJD(w:World)(hG:zAK w)(x y:Nat)(hx:x<18446744073709551616)(hy:y<18446744073709551616):Calls Tryz.prog 23 #[.int .u64 (x:Int),.int .u64 (y:Int)] w fun e w'=>e=.returned (.int .i64 (zJv x y))/\Below w.heap.size w w':=by
 have HS1:=zz (fun w hG=>zCz w hG x hx);have HS2:=zz (fun w hG=>zCz w hG y hy);have HG:=zz hG;have HT:Hid (zJv x y=if 9223372036854775808<=x then (if 9223372036854775808<=y then sgI y x else -1) else (if 9223372036854775808<=y then 1 else sgI x y)):=zz rfl;obtain⟨c,hc⟩:∃ c,c=zJv x y:=⟨_,rfl⟩;rw[<-hc] at HT ⊢;clear hG hc hx hy;generalize ((x % 9223372036854775808:Nat):Int)=SX at HS1;generalize ((y % 9223372036854775808:Nat):Int)=SY at HS2;by_cases h1:9223372036854775808<=x <;> by_cases h2:9223372036854775808<=y
 ·have HC:Hid (c=sgI y x):=zz (by rw[HT.out,if_pos h1,if_pos h2]);rw[decide_eq_true h1] at HS1;rw[decide_eq_true h2] at HS2;clear HT h1 h2;go_enter Tryz.func23,Tryz.ntmps23
  go_wp2_with fail
  refine (HS1.out w HG.out).mono ?_;rintro e w1 ⟨rfl,hb1⟩;have HB1:=zz hb1;have HS2':=zz (HS2.out w1 (HG.out.below hb1 HG.out.size));clear hb1;go_wp2_with fail
  refine HS2'.out.mono ?_;rintro e w2 ⟨rfl,hb2⟩;have HB2:=zz (HB1.out.trans (hb2.mono HB1.out.size));clear hb2 HS2';go_wp2_with fail
  refine (zGK w2 (y:Int) (x:Int)).mono ?_;rintro e w3 ⟨rfl,rfl⟩;go_wp2;go_ret;exact⟨by rw[HC.out];rfl,HB2.out⟩
 ·have HC:Hid (c=-1):=zz (by rw[HT.out,if_pos h1,if_neg h2]);rw[decide_eq_true h1] at HS1;rw[decide_eq_false h2] at HS2;clear HT h1 h2;go_enter Tryz.func23,Tryz.ntmps23
  go_wp2_with fail
  refine (HS1.out w HG.out).mono ?_;rintro e w1 ⟨rfl,hb1⟩;have HB1:=zz hb1;have HS2':=zz (HS2.out w1 (HG.out.below hb1 HG.out.size));clear hb1;go_wp2_with fail
  refine HS2'.out.mono ?_;rintro e w2 ⟨rfl,hb2⟩;have HB2:=zz (HB1.out.trans (hb2.mono HB1.out.size));clear hb2 HS2';go_wp2;go_ret;exact⟨by rw[HC.out];rfl,HB2.out⟩
 ·have HC:Hid (c=1):=zz (by rw[HT.out,if_neg h1,if_pos h2]);rw[decide_eq_false h1] at HS1;rw[decide_eq_true h2] at HS2;clear HT h1 h2;go_enter Tryz.func23,Tryz.ntmps23
  go_wp2_with fail
  refine (HS1.out w HG.out).mono ?_;rintro e w1 ⟨rfl,hb1⟩;have HB1:=zz hb1;have HS2':=zz (HS2.out w1 (HG.out.below hb1 HG.out.size));clear hb1;go_wp2_with fail
  refine HS2'.out.mono ?_;rintro e w2 ⟨rfl,hb2⟩;have HB2:=zz (HB1.out.trans (hb2.mono HB1.out.size));clear hb2 HS2';go_wp2;go_ret;exact⟨by rw[HC.out];rfl,HB2.out⟩
 ·have HC:Hid (c=sgI x y):=zz (by rw[HT.out,if_neg h1,if_neg h2]);rw[decide_eq_false h1] at HS1;rw[decide_eq_false h2] at HS2;clear HT h1 h2;go_enter Tryz.func23,Tryz.ntmps23
  go_wp2_with fail
  refine (HS1.out w HG.out).mono ?_;rintro e w1 ⟨rfl,hb1⟩;have HB1:=zz hb1;have HS2':=zz (HS2.out w1 (HG.out.below hb1 HG.out.size));clear hb1;go_wp2_with fail
  refine HS2'.out.mono ?_;rintro e w2 ⟨rfl,hb2⟩;have HB2:=zz (HB1.out.trans (hb2.mono HB1.out.size));clear hb2 HS2';go_wp2_with fail
  refine (zGK w2 (x:Int) (y:Int)).mono ?_;rintro e w3 ⟨rfl,rfl⟩;go_wp2;go_ret;exact⟨by rw[HC.out];rfl,HB2.out⟩
theorem zOZ(w:World)(b o cap:Nat)(cs:List Int)(h0:cs.length<=1000)(hc:∀ i,i<cs.length->w.cell? ⟨b,o+i,none⟩=some (.int .i64 (cs.getD i 0))):Calls Tryz.prog 18 #[.slice (some ⟨b,o,none⟩) cs.length cap] w fun e w'=>w'=w/\e=.returned (.int .i64 (orC cs)):=by
 have HC:=zz hc;obtain⟨c,hcc⟩:∃ c,c=orC cs:=⟨_,rfl⟩;rw[<-hcc];have HCC:=zz hcc;obtain⟨n,hn⟩:∃ n,n=cs.length:=⟨_,rfl⟩;rw[<-hn] at h0 ⊢;have HN:=zz hn;clear hc hcc hn;go_enter Tryz.func18,Tryz.ntmps18
 go_wp2;go_loopw [8] (fun iv wr=>∃ i:Nat,i<=n/\iv=.int .i64 (i:Int)/\Hid (orC (cs.drop i)=c)/\wr=w) (fun iv _=>n - (intOf iv).toNat)
 case atStart=>exact⟨0,by omega,rfl,zz HCC.out.symm,(by first|rfl|trivial)⟩
 case round=>
  obtain⟨i,hi,rfl,HO,rfl⟩:=hrel;by_cases h1:i<n
  ·have hI:(i:Int)<(n:Int):=by omega
   have hci:=HC.out i (by rw[<-HN.out];exact h1)
   have HD:Hid (cs.drop i=cs.getD i 0 :: cs.drop (i+1)):=zz (by
    rw[List.drop_eq_getElem_cons (by rw[<-HN.out];exact h1),zw,zZ (by rw[<-HN.out];exact h1)];rfl)
   have gi:IntKind.i64.wrap ((i:Int)+1)=(i:Int)+1:=zY _ (by omega);by_cases hz:cs.getD i 0=0
   ·have HO2:Hid (orC (cs.drop (i+1))=c):=zz (by
     have:=HO.out;rw[HD.out,orC,if_pos hz] at this;exact this)
    have hq:(cs.getD i 0 != 0)=false:=by rw[hz];rfl
    clear HD HO hz;generalize cs.getD i 0=z at hci hq;go_wp2;go_roundw
    case rel=>exact⟨i+1,by omega,by simp,HO2,(by first|rfl|trivial)⟩
    case measure=>simp[intOf];omega
   ·have HO2:Hid (cs.getD i 0=c):=zz (by
     have:=HO.out;rw[HD.out,orC,if_neg hz] at this;exact this)
    have hq:(cs.getD i 0 != 0)=true:=bne_iff_ne.2 hz;rw[HO2.out] at hci hq;clear HD HO hz HO2;go_wp2;go_ret;exact⟨rfl,rfl⟩
  ·obtain rfl:n=i:=by omega
   have hI:¬ (n:Int)<(n:Int):=by omega
   have HO2:Hid (c=0):=zz (by
    have:=HO.out;rw[List.drop_of_length_le (by rw[<-HN.out];exact zQ _),orC] at this;exact this.symm)
   clear HO;go_wp2;go_ret;exact⟨rfl,by rw[HO2.out];rfl⟩
theorem zEc(k:Nat)(h:k<9223372036854775808):bits .and .i64 (k:Int) 1=((k % 2:Nat):Int):=by
 have:bits .and .i64 (k:Int) 1=IntKind.i64.wrap (((BitVec.ofInt 64 (k:Int)) &&& (BitVec.ofInt 64 ((1:Nat):Int)):BitVec 64).toNat:Int):=by rfl
 rw[this,zNX,zNX,BitVec.toNat_and,BitVec.toNat_ofNat,BitVec.toNat_ofNat,Nat.mod_eq_of_lt (by omega),Nat.mod_eq_of_lt (by decide),Nat.and_one_is_mod];exact zY _ (by omega)
theorem zH3{n x:Nat}(h:x<=5 ^ n):(zAb x).length<=n+1:=by
 apply zAq;have h1:5 ^ n<=4294967296 ^ n:=Nat.pow_le_pow_left (by omega) n;have h2:4294967296 ^ n<4294967296 ^ (n+1):=Nat.pow_lt_pow_right (by omega) (by omega);omega
theorem zKE(n:Nat):zA7 (5 ^ n)<=3*n+1:=by
 apply zCF;have h1:5 ^ n<=8 ^ n:=Nat.pow_le_pow_left (by omega) n;rw[show (8:Nat)=2 ^ 3 from rfl,<-Nat.pow_mul] at h1;have h2:2 ^ (3*n)<2 ^ (3*n+1):=Nat.pow_lt_pow_right (by omega) (by omega);omega
theorem zMR(a b k:Nat):a*(if k % 2=1 then b else 1)*(b*b) ^ (k / 2)=a*b ^ k:=by
 have h:b ^ k=b ^ (k % 2)*(b*b) ^ (k / 2):=by
  rw[<-Nat.pow_two,<-Nat.pow_mul,<-Nat.pow_add];congr 1;omega
 rw[h,<-Nat.mul_assoc];congr 2;rcases Nat.mod_two_eq_zero_or_one k with h1|h1 <;> rw[h1] <;> simp
theorem zN9(w:World)(hG:GW w)(n:Nat)(hn:n<=400):
  Calls Tryz.prog 211 #[.int .u32 10,.int .i64 (n:Int)] w fun e w'=>Below w.heap.size w w'/\∃ v',e=.returned (.tuple #[v',.bool true])/\zAf w' v' (zAb (10 ^ n)):=by
 have HL32:Hid (Calls Tryz.prog 126 #[.int .u32 10] w fun e w'=>e=.returned (.int .i64 4)/\w'=w):=zz (by
  have h:=Tryz.bits_Len32 10 w (by decide) (by decide);rw[show ((Lib.bitLen (Int.toNat 10):Nat):Int)=4 by decide +kernel] at h;exact h)
 have HCTZ:=zz (zOE w hG);have HF1:Hid (∀ w,Calls Tryz.prog 137 #[.int .u64 1] w fun e w'=>Below w.heap.size w w'/\∃ v,e=.returned v/\zAf w' v [1]):=zz (fun w=>(zAH w 1 (by decide)).mono fun e w' ⟨a,v,b,c⟩=>⟨a,v,b,by rw[zAu 1 (by decide) (by decide)] at c;exact c⟩);have HF5:Hid (∀ w,Calls Tryz.prog 137 #[.int .u64 5] w fun e w'=>Below w.heap.size w w'/\∃ v,e=.returned v/\zAf w' v [5]):=zz (fun w=>(zAH w 5 (by decide)).mono fun e w' ⟨a,v,b,c⟩=>⟨a,v,b,by rw[zAu 5 (by decide) (by decide)] at c;exact c⟩);clear hG;have hn1:¬ (n:Int)<0:=by omega
 have hn2:¬ (16384:Int)<(n:Int):=by omega
 have hup:IntKind.i64.wrap (1*(n:Int))=(n:Int):=by rw[Int.one_mul];exact zY _ (by omega)
 go_enter Tryz.func211,Tryz.ntmps211
 go_wp2_with fail
 refine HL32.out.mono ?_;rintro r w1 ⟨rfl,rfl⟩;go_wp2_with fail
 refine HCTZ.out.mono ?_;rintro r w2 ⟨rfl,rfl⟩;go_upto_region 7 with fail
 have h5:IntKind.u32.wrap 5=5:=by decide
 have HFI:Hid (∀ w (x:Int) (L:List (Value × Int)),zJx w2 w L->(x=1 \/ x=5)->Calls Tryz.prog 137 #[.int .u64 x] w fun e w'=>∃ v,e=.returned v/\zJx w2 w' ((v,x) :: L)):=zz (by
  intro w x L hL hx;rcases hx with rfl|rfl
  ·exact (HF1.out w).mono fun e w' ⟨a,v,b,c⟩=>⟨v,b,hL.step a c⟩
  ·exact (HF5.out w).mono fun e w' ⟨a,v,b,c⟩=>⟨v,b,hL.step a c⟩)
 have ha0:zJx w2 w2.drew []:=⟨Below.drew (zK _ _),fun p hp=>by cases hp⟩;clear HF1 HF5 HL32 HCTZ;go_region_with (go_at_call 137;go_must (refine (HFI.out _ _ _ (by assumption) (by decide)).mono ?_;rintro e w9 ⟨v9,rfl,ha9⟩))
 rw[show IntKind.u64.wrap 5=5 by decide] at ha9;have HL5:=zz (ha9.2 _ (List.Mem.head _));have HL1:=zz (ha9.2 _ (List.Mem.tail _ (List.Mem.head _)));have HBB:=zz ha9.1;clear ha9 ha0 HFI;go_wp2;go_loopw [1,8,9] (fun sn so sq wr=>∃ k a b:Nat,sn=.int .i64 k/\k<=n/\0<a/\0<b/\a*b ^ k=5 ^ n/\Hid (zAf wr so (zAb a))/\Hid (zAf wr sq (zAb b))/\Hid (Below w2.heap.size w2 wr)) (fun sn _ _ _=>(intOf sn).toNat)
 case atStart=>exact⟨n,1,5,rfl,zQ _,by omega,by omega,Nat.one_mul _,by rw[zAu 1 (by decide) (by decide)];exact HL1,by rw[zAu 5 (by decide) (by decide)];exact HL5,HBB⟩
 case round=>
  clear HL1 HL5 HBB;obtain⟨k,a,b,rfl,hkn,ha,hb,hab,HA,HB,HW⟩:=hrel;have hp5:∀ x y:Nat,0<y->x*y=5 ^ n->x<=5 ^ n:=fun x y hy e=>by rw[<-e];exact Nat.le_mul_of_pos_right x hy
  have hbk:0<b ^ k:=Nat.pow_pos hb;have hla:=zH3 (hp5 a _ hbk hab);by_cases h0:0<k
  ·have hlb:(zAb b).length<=n+1:=by
    apply zH3;obtain⟨j,rfl⟩:∃ j,k=j+1:=⟨k - 1,by omega⟩;exact hp5 b (a*b ^ j) (Nat.mul_pos ha (Nat.pow_pos hb)) (by rw[<-hab,Nat.pow_succ];grind)
   have hst:=zMR a b k;rw[hab] at hst;have HST:=zz hst;have HLA:=zz hla;have HLB:=zz hlb;clear hst hla hlb hp5 hbk hab;have g1:(0:Int)<(k:Int):=by omega
   have ha1:=zEc k (by omega)
   have hh:(k:Int).fdiv (2 ^ min (Int.toNat 1) IntKind.i64.bits)=((k / 2:Nat):Int):=by
    rw[show (2:Int) ^ min (Int.toNat 1) IntKind.i64.bits=2 by decide,Int.fdiv_eq_ediv_of_nonneg _ (by decide)];omega
   have hw2:IntKind.i64.wrap ((k / 2:Nat):Int)=((k / 2:Nat):Int):=zY _ (by omega);by_cases ho:k % 2=1
   ·rw[ho] at ha1;have HMO:=zz (zCp wr u8 u9 _ _ HA.out HB.out (zJ HLA.out (by omega)) (zJ HLB.out (by omega)));go_wp2_with fail
    refine HMO.out.mono ?_;rintro r w4 ⟨hb4,v4,rfl,hv4⟩;rw[zAe,zAe] at hv4;have HA':=zz hv4;have HB':=zz (HB.out.below hb4);have HW':=zz (HW.out.trans (hb4.mono HW.out.size));clear hb4 hv4 HMO HA HB HW;have HA:=HA';have HB:=HB';have HW:=HW';clear HA' HB' HW';by_cases h2:0<k / 2
    ·have g2:(0:Int)<((k / 2:Nat):Int):=by omega
     have HMQ:=zz (zCp w4 u9 u9 _ _ HB.out HB.out (zJ HLB.out (by omega)) (zJ HLB.out (by omega)));go_wp2_with fail
     refine HMQ.out.mono ?_;rintro r w5 ⟨hb5,v5,rfl,hv5⟩;rw[zAe] at hv5;have HA5:=zz (HA.out.below hb5);have HV5:=zz hv5;have HW5:=zz (HW.out.trans (hb5.mono HW.out.size));clear hb5 hv5 HMQ;go_wp2;go_roundw
     case rel=>exact⟨k / 2,a*b,b*b,rfl,by omega,Nat.mul_pos ha hb,Nat.mul_pos hb hb,by have h3:=HST.out;rw[if_pos ho] at h3;exact h3,HA5,HV5,HW5⟩
     case measure=>simp[intOf];omega
    ·have g2:¬ (0:Int)<((k / 2:Nat):Int):=by omega
     go_wp2;go_roundw
     case rel=>exact⟨k / 2,a*b,b,rfl,by omega,Nat.mul_pos ha hb,hb,by have h3:=HST.out;rw[if_pos ho,show k / 2=0 by omega,Nat.pow_zero,Nat.mul_one] at h3;rw[show k / 2=0 by omega,Nat.pow_zero,Nat.mul_one];exact h3,HA,HB,HW⟩
     case measure=>simp[intOf];omega
   ·have ho':k % 2=0:=by omega
    rw[ho'] at ha1;by_cases h2:0<k / 2
    ·have g2:(0:Int)<((k / 2:Nat):Int):=by omega
     have HMQ:=zz (zCp wr u9 u9 _ _ HB.out HB.out (zJ HLB.out (by omega)) (zJ HLB.out (by omega)));go_wp2_with fail
     refine HMQ.out.mono ?_;rintro r w5 ⟨hb5,v5,rfl,hv5⟩;rw[zAe] at hv5;have HA5:=zz (HA.out.below hb5);have HV5:=zz hv5;have HW5:=zz (HW.out.trans (hb5.mono HW.out.size));clear hb5 hv5 HMQ;go_wp2;go_roundw
     case rel=>exact⟨k / 2,a,b*b,rfl,by omega,ha,Nat.mul_pos hb hb,by have h3:=HST.out;rw[if_neg ho,Nat.mul_one] at h3;exact h3,HA5,HV5,HW5⟩
     case measure=>simp[intOf];omega
    ·exfalso;omega
  ·obtain rfl:k=0:=by omega
   rw[Nat.pow_zero,Nat.mul_one] at hab;subst hab;have hb2:zA7 (5 ^ n)<=8388000:=zJ (zKE n) (by omega);have hsh:=zGG wr u8 _ n HA.out (zJ hla (by omega)) (by rw[zAe];omega);rw[zAe,<-Nat.mul_pow] at hsh;have HSH:=zz hsh;clear hsh hla hp5 hbk HA HB hb2;go_wp2_with fail
   refine HSH.out.mono ?_;rintro r w7 ⟨hb7,v7,rfl,hl7⟩;have HB7:=zz (HW.out.trans (hb7.mono HW.out.size));have HL7:=zz hl7;clear hb7 hl7;go_wp2;exact bodyPost_ret (v:=.tuple #[v7,.bool true]) (by simp[results,Tryz.results211,go_sem]) rfl ⟨HB7.out,_,rfl,HL7.out⟩
end Go.Proofs.YtcanfakaigpkgaaGreatDoor.D
