/-
  Of the proof that the law DiagUnlike answers true at every two values: a part, without conditions of its own.
-/
import Derived.Test.YtcanfakaigpkgaaGreatDoorPart20
import Derived.Great.BuildSlice
set_option linter.unusedVariables false
set_option linter.unusedSimpArgs false
set_option maxRecDepth 100000
set_option maxHeartbeats 8000000
namespace Go.Proofs.YtcanfakaigpkgaaGreatDoor.D
open Go Go.RowKit Limb
def zEt:Array Value:=#[.int .i8 0,.int .u64 0,.bool false,.slice none 0 0,.int .u64 0,.int .i8 0,.string ⟨#[]⟩,.slice none 0 0,.int .i8 0,.int .u64 0,.bool false,.slice none 0 0,.int .u64 0,.int .i8 0,.string ⟨#[]⟩,.slice none 0 0,.int .i64 0]
theorem zQc:(Tryz.prog.info? 222).map (fun i=>(i.zero,i.size,i.bytes))=some (some (.agg zEt),17,216):=by kernel_rfl
theorem zLv:∃ i,Tryz.prog.info? 222=some i/\i.zero=some (.agg zEt)/\i.size=17/\i.bytes=216:=by
 have hinfo:=zQc
 cases hq:Tryz.prog.info? 222 with
 | none=>rw[hq] at hinfo;cases hinfo
 | some i=>
  rw[hq] at hinfo;simp only[Option.map_some,Option.some.injEq,Prod.mk.injEq] at hinfo;exact⟨i,rfl,hinfo⟩
def zDr(w:World)(b o:Nat)(l:List Value):Prop:=∀ j u,l[j]?=some u->w.cell? ⟨b,o+j,none⟩=some u
theorem zDr.below{w w':World}{B b o:Nat}{l:List Value}(h:zDr w b o l)(hb:Below B w w')(hk:b<B):zDr w' b o l:=fun j u hj=>by
 rw[hb.cell (p:=⟨b,o+j,none⟩) hk];exact h j u hj
theorem zG7(w:World)(b o cap:Nat)(l:List Value)(hl:l.length=17)(h3:b<w.heap.size)(h:zDr w b o l)(h1:∀ u ∈ l,u.oneCell'=true):
  Calls Tryz.prog 202 #[.slice (some ⟨b,o,none⟩) 1 cap] w fun e w'=>Below w.heap.size w w'/\∃ g cp,e=.returned (.slice (some ⟨g,0,none⟩) 1 cp)/\w.heap.size<=g/\g<w'.heap.size/\zDr w' g 0 l:=by
 have hnil:=fun (w:World) (a:Option Addr) (n c:Nat)=>Go.run_eql_slice_nil (P:=Tryz.prog) w 217 222 a n c Tryz.underlying217
 obtain⟨i0,hi0,hz0,hs0,hb0⟩:=zLv;have HI0:=zz hi0;have HZ0:=zz hz0;have HS0:=zz hs0;have HB0:=zz hb0;have H:=zz h;have H1:=zz h1;clear hi0 hz0 hs0 hb0 h h1;go_enter Tryz.func202,Tryz.ntmps202
 go_upto_region 3 with fail
 refine wp_region_lit ?_;iterate 6 go_step
 refine wpList_append_own _ rfl (.tmp 5) (.tmp 6) 217 rfl w.heap.size 222 i0 _ 17 216 Tryz.underlying217 HI0.out HZ0.out HS0.out HB0.out rfl (by decide) (.slice (some ⟨w.heap.size,0,none⟩) 0 0) 0 [] rfl (World.ownsRow_made w #[] 0 (zQ _) (by decide) (by rfl)) ⟨b,o,none⟩ 1 cap l rfl (by rw[hl]) ?c1 H1.out ?c3 ?c4 ?c5 ?_
 case c1=>
  intro j u hj;rw[zA1,((zK w.heap.size w).alloc (zQ _) (.cells #[] 222)).cell (p:=⟨b,o+j,none⟩) h3];exact H.out j u hj
 case c3=>unfold maxLen;omega
 case c4=>omega
 case c5=>simp
 intro v' w1 hown hgrow hnn
 have hb:Below w.heap.size w w1:=((zK w.heap.size w).alloc (zQ _) (.cells #[] 222)).trans
  ⟨hgrow.os,hgrow.tape,hgrow.output,hgrow.size,fun k hk=>hgrow.block k (by simp;omega) (fun e=>by simp[Value.ownBlock] at e;omega)⟩
 have hfin:∃ g cp,v'=.slice (some ⟨g,0,none⟩) 1 cp/\w.heap.size<=g/\g<w1.heap.size/\zDr w1 g 0 l:=by
  obtain⟨hlen,⟨rfl,h0⟩|⟨g,cp,cur,rfl,hg,hc,hle,hm,hsz,htk⟩⟩:=hown
  ·have:=(hnn.1 rfl).1;simp at this
  ·rw[Nat.zero_add] at hle htk;refine⟨g,cp,by rw[Nat.zero_add],hg,(Array.getElem?_eq_some_iff.1 hc).1,fun j u hj=>?_⟩
   have hj17:j<17:=by
    rcases Nat.lt_or_ge j 17 with h|h
    ·exact h
    ·rw[List.getElem?_eq_none (by omega)] at hj;cases hj
   have e:w1.cell? ⟨g,0+j,none⟩=cur[j]?:=by rw[Nat.zero_add];simp[World.cell?,hc]
   have h9:(cur.toList.take (1*17))[j]?=l[j]?:=by rw[htk];rfl
   rw[e,<-Array.getElem?_toList,<-hj,<-h9,List.getElem?_take,if_pos (by omega)]
 have HF:=zz hfin;have HB:=zz hb;clear hown hgrow hfin hb hnil hnn;go_wp2;go_ret;obtain⟨g,cp,rfl,h1,h2,h3⟩:=HF.out;exact⟨HB.out,g,cp,rfl,h1,h2,h3⟩
theorem zIY(w:World):(Instr.makeSlice 217 (.int .i64 1) (.int .i64 1)).run Tryz.prog w=.ok (.slice (some ⟨w.heap.size,0,none⟩) 1 1) (w.alloc (.cells zEt 222)):=by
 obtain⟨i,hi,hz,hsz,hby⟩:=zLv;have:=run_make (P:=Tryz.prog) w 217 222 i _ Tryz.underlying217 hi hz .i64 .i64 1 1 (by omega) (by omega) (by rw[hby];omega) (by omega);have hc:madeCells (Value.agg zEt).cells (Int.toNat 1*17)=zEt:=by kernel_rfl
 rw[this,hsz,hc];rfl
theorem zI4(w:World)(b o cp:Nat)(l:List Value)(hl:l.length=17)(h3:b<w.heap.size)(hp:zDr w b o l)(h1:∀ u ∈ l,u.oneCell'=true)(fn:Fn)(fi ca:Array Value):
  Calls Tryz.prog 156 #[.slice (some ⟨b,o,none⟩) 1 cp,.func fn fi ca] w fun e w'=>Below w.heap.size w w'/\∃ g c,e=.returned (.slice (some ⟨g,0,none⟩) 1 c)/\w.heap.size<=g/\g<w'.heap.size/\zDr w' g 0 l:=by
 have HE:=fun (w:World)=>zHX w fn fi ca
 have hb:Below w.heap.size w (w.alloc (.cells #[.func fn fi ca] 223)):=(zK _ _).alloc (zQ _) _;have HC:=zz (zG7 (w.alloc (.cells #[.func fn fi ca] 223)) b o cp l hl (by simp;omega) (hp.below hb h3) h1);clear hp h1;have HB:=zz hb;clear hb;go_enter Tryz.func156,Tryz.ntmps156
 go_wp2_with fail
 refine HC.out.mono ?_;rintro e w1 ⟨hb1,g,c,rfl,hg,hgl,hP⟩;have HB1:=zz (HB.out.trans (hb1.mono (by simp)));have HP:=zz hP;have HG:=zz hg;have HW:w.heap.size<=w1.heap.size:=HB1.out.size;clear HB HC hb1 hP hg;have HM:=zIY;obtain⟨W,hW⟩:∃ W,W=(((w1.alloc (.cells #[.slice (some ⟨g,0,none⟩) 1 c] 217)).alloc (.cells zEt 222)).alloc (.cells #[.slice (some ⟨w1.heap.size+1,0,none⟩) 1 1] 217)).alloc (.cells #[.int .i64 1] 3):=⟨_,rfl⟩;have hb4:Below w1.heap.size w1 W:=by rw[hW];exact (((((zK _ _).alloc (zQ _) _).alloc (by simp) _).alloc (by simp;omega) _).alloc (by simp;omega) _)
 have hk0:=Blk.new w1 #[.slice (some ⟨g,0,none⟩) 1 c] 217;have hk3:=Blk.new ((((w1.alloc (.cells #[.slice (some ⟨g,0,none⟩) 1 c] 217)).alloc (.cells zEt 222)).alloc (.cells #[.slice (some ⟨w1.heap.size+1,0,none⟩) 1 1] 217))) #[.int .i64 1] 3;rw[<-hW] at hk3
 have c3:W.cell? ⟨w1.heap.size+1+1+1,0,none⟩=some (.int .i64 1):=by
  have h:=hk3.cell 0;simp only[World.size_alloc] at h;exact h
 have hk0':Blk W w1.heap.size #[.slice (some ⟨g,0,none⟩) 1 c] 217:=by rw[hW];exact ((hk0.alloc _).alloc _).alloc _
 have c0:W.cell? ⟨w1.heap.size,0,none⟩=some (.slice (some ⟨g,0,none⟩) 1 c):=hk0'.cell 0;have HB4:=zz hb4;clear hb4 hk0 hk3 hk0';go_wp2_with fail
 rw[<-hW];go_loopw [7] (fun p wr=>wr=W/\p=.pointer (some ⟨w1.heap.size+1+1+1,0,none⟩)) (fun _ _=>0)
 case atStart=>exact⟨rfl,rfl⟩
 case round=>
  obtain⟨rfl,rfl⟩:=hrel;clear hW;go_wp2;go_ret;refine⟨HB1.out.trans (HB4.out.mono (by omega)),g,c,rfl,?_,?_,HP.out.below HB4.out hgl⟩
  ·have:=HG.out;simp at this;omega
  ·have:=HB4.out.size;omega
def zAr:Array Value:=#[.int .i8 0,.int .u64 0,.bool false,.slice none 0 0,.int .u64 0,.int .i8 0,.string ⟨#[]⟩,.slice none 0 0]
structure zNa (w':World) (P:Nat->Prop) (g:Nat) (f0 f1:F) (d0 d1:Nat) (z0 z1:Array Value):Prop where
 lt:g<w'.heap.size
 at_:zDr w' g 0 (z0.toList ++ z1.toList ++ [.int .i64 0])
 s0:z0.size=8
 s1:z1.size=8
 o0:z0.all (·.oneCell')=true
 o1:z1.all (·.oneCell')=true
 t0:zAm w' P f0 d0 (.agg z0)
 t1:zAm w' P f1 d1 (.agg z1)
theorem zON(w:World)(hG:zAK w)(hC:zHe w)(N d b o cap:Nat)(t:List UInt8)(X:Nat)(fs:Nat->F)(xs:Nat->Array Value)(ds:Nat->Nat)(hN:N<=w.heap.size)(hb:b<N)(hrow:zBO w b o 2 xs)(hT:∀ i,i<2->zAU w N (fs i) (ds i) (.agg (xs i))/\ds i<d)(hd:d<=128)(he:∃ i,i<2/\ds i+1=d)(htold:zQt 8 0 X [] 2 t fs):
  Calls Tryz.prog 96 #[.slice (some ⟨b,o,none⟩) 2 cap] w fun e w'=>Below w.heap.size w w'/\∃ v',e=.returned (.tuple #[v',.nilIface])/\zAm w' (fun b=>w.heap.size<=b) (.node t X fs) d v':=by
 have HN:=zz hN;have HROW:=zz hrow;have HT:=zz hT;have HG:=zz hG;have HCC:=zz hC;clear hrow hT hG hC hN;go_enter Tryz.func96,Tryz.ntmps96
 go_wp2_with fail
 have hb0:Below w.heap.size w (w.alloc (.cells zAr 31)):=(zK _ _).alloc (zQ _) _;have hk0:=Blk.new w zAr 31;change Code.wp _ _ _ _ (w.alloc (.cells zAr 31));generalize w.alloc (.cells zAr 31)=W0 at hb0 hk0 ⊢;have HB0:=zz hb0;have HK0:=zz hk0;clear hb0 hk0;go_loopw [4,31] (fun deep i wr=>∃ k:Nat,k<=2/\i=.int .i64 k/\deep=.bool false/\Hid (Blk wr w.heap.size zAr 31)/\Hid (Below w.heap.size w wr)) (fun _ i _=>2 - (intOf i).toNat)
 case atStart=>exact⟨0,by omega,rfl,rfl,HK0,HB0⟩
 case round=>
  clear HB0 HK0;obtain⟨k,hkm,rfl,rfl,HKr,HBr⟩:=hrel;by_cases h1:k<2
  ·have hTk:=zAU.below (HBr.out.mono HN.out) _ _ _ (HT.out k h1).1;have hdk:=(HT.out k h1).2;obtain⟨hx8,hxc⟩:=(HROW.out.below (HBr.out.mono HN.out) hb) k h1;obtain⟨kind',nn',mb',mn',mc',bits',ext',text',kb',kn',kc',hxk⟩:=hTk.cells;have HTK:=zz hTk;simp only[Value.agg.injEq] at hxk;rw[hxk] at hxc HTK;have d0:=hxc 0 (by omega);have d1:=hxc 1 (by omega);have d2:=hxc 2 (by omega);have d3:=hxc 3 (by omega);have d4:=hxc 4 (by omega);have d5:=hxc 5 (by omega);have d6:=hxc 6 (by omega);have d7:=hxc 7 (by omega);simp only[zAa,zv,zk,zx,Nat.add_zero] at d0 d1 d2 d3 d4 d5 d6 d7;clear hx8 hxc hxk hTk;have g1:(k:Int)<2:=by omega
   have hby:Below wr.heap.size wr (wr.alloc (.cells (zAa kind' nn' false (.slice mb' mn' mc') bits' ext' (zAc text') (.slice kb' kn' kc')) 31)):=(zK _ _).alloc (zQ _) _;have hbl:=Blk.new wr (zAa kind' nn' false (.slice mb' mn' mc') bits' ext' (zAc text') (.slice kb' kn' kc')) 31;have hNr:N<=wr.heap.size:=zJ HN.out HBr.out.size;have hwr:w.heap.size<=wr.heap.size:=HBr.out.size;have hwl:w.heap.size<wr.heap.size:=HKr.out.lt;have HBY:=zz hby;have HBL:=zz hbl;clear hby hbl;go_upto_region 7 with fail
   change Code.wp _ _ _ _ (wr.alloc (.cells (zAa kind' nn' false (.slice mb' mn' mc') bits' ext' (zAc text') (.slice kb' kn' kc')) 31));clear d0 d1 d2 d3 d4 d5 d6 d7;generalize wr.alloc (.cells (zAa kind' nn' false (.slice mb' mn' mc') bits' ext' (zAc text') (.slice kb' kn' kc')) 31)=wa at HBY HBL ⊢;have hNa:N<=wa.heap.size:=zJ hNr HBY.out.size;have HBa:=zz (HBr.out.trans (HBY.out.mono HBr.out.size));have HTa:=zz (zAU.below (HBY.out.mono hNr) _ _ _ HTK.out);have HKa:=zz (HKr.out.below HBY.out hwl);refine wp_region_lit ?_;refine wpList_load_row rfl 31 _ rfl wr.heap.size rfl 31 _ (0,0) _ HBL.out Tryz.underlying31 rfl (by kernel_rfl) ?_;go_wp2_with fail
   refine (zJ8 wa (HG.out.below HBa.out HG.out.size) (HCC.out.below HBa.out HCC.out.size) N (fs k) (ds k) _ hNa HTa.out (by omega)).mono ?_;rintro e w1 ⟨rfl,hb1⟩;have hwa:w.heap.size<=wa.heap.size:=HBa.out.size;have hNa1:N<=w1.heap.size:=zJ hNa hb1.size;have HB1:=zz (HBa.out.trans (hb1.mono hwa));have HT1:=zz (zAU.below (hb1.mono hNa) _ _ _ HTa.out);have HBL1:=zz (HBL.out.below hb1 HBL.out.lt);have HK1:=zz (HKa.out.below hb1 (Nat.lt_of_lt_of_le hwl HBY.out.size));have hwl1:w.heap.size<w1.heap.size:=HK1.out.lt;clear hb1 HBL HTa HKa HBa;go_upto_region 10 with fail
   refine wp_region_lit ?_;refine wpList_load_row rfl 31 _ rfl wr.heap.size rfl 31 _ (0,0) _ HBL1.out Tryz.underlying31 rfl (by kernel_rfl) ?_;go_wp2_with fail
   refine (zLq w1 N (fs k) (ds k) _ hNa1 HT1.out (by omega)).mono ?_;rintro e w2 ⟨rfl,hb2⟩;have hNa2:N<=w2.heap.size:=zJ hNa1 hb2.size;have HB2:=zz (HB1.out.trans (hb2.mono HB1.out.size));have HT2:=zz (zAU.below (hb2.mono hNa1) _ _ _ HT1.out);have HBL2:=zz (HBL1.out.below hb2 HBL1.out.lt);have HK2:=zz (HK1.out.below hb2 HK1.out.lt);clear hb2 HBL1 HT1 HK1 HB1;have HD:=zz (zLr N (fs k) (ds k) _ w2 hNa2 (by omega) HT2.out);have g2:¬ ((128:Int)<=(ds k:Int)):=by omega
   go_upto_region 13 with fail
   have d0:=HBL2.out.cell 0;have d1:=HBL2.out.cell 1;have d2:=HBL2.out.cell 2;have d3:=HBL2.out.cell 3;have d4:=HBL2.out.cell 4;have d5:=HBL2.out.cell 5;have d6:=HBL2.out.cell 6;have d7:=HBL2.out.cell 7;simp only[zAa,zv,zk,zx] at d0 d1 d2 d3 d4 d5 d6 d7;simp only[zAa] at HD;go_wp2_with fail
   refine HD.out.mono ?_;rintro e w3 ⟨rfl,hb3⟩;have HB3:=zz (HB2.out.trans (hb3.mono HB2.out.size));have HK3:=zz (HK2.out.below hb3 HK2.out.lt);clear hb3 HB2 HK2 d0 d1 d2 d3 d4 d5 d6 d7 HD;go_wp2;go_roundw
   case rel=>exact⟨k+1,by omega,by congr 1,by congr 1;exact decide_eq_false (by omega),HK3,HB3⟩
   case measure=>simp[intOf];omega
  ·obtain rfl:k=2:=by omega
   have h1:¬ ((2:Nat):Int)<2:=by omega
   go_wp2_with fail
   go_loopw [11,12] (fun s i w2=>Hid (Blk w2 w.heap.size zAr 31)/\Hid (Below w.heap.size w w2)/\((i=.int .i64 0/\s=.slice none 0 0) \/ (i=.int .i64 2/\∃ g c z0 z1,s=.slice (some ⟨g,0,none⟩) 1 c/\Hid (zNa w2 (fun b=>w.heap.size<b) g (fs 0) (fs 1) (ds 0) (ds 1) z0 z1)))) (fun _ i _=>2 - (intOf i).toNat)
   case atStart=>exact⟨HKr,HBr,.inl ⟨rfl,rfl⟩⟩
   case round=>
    clear HKr HBr;obtain⟨HKs,HBs,⟨rfl,rfl⟩|⟨rfl,g,c,z0,z1,rfl,HPs⟩⟩:=hrel
    ·skip
     obtain⟨hx80,hxc0⟩:=HROW.out 0 (by omega);obtain⟨kind0,nn0,mb0,mn0,mc0,bits0,ext0,text0,kb0,kn0,kc0,hxk0⟩:=(HT.out 0 (by omega)).1.cells;have HT0:=zz (HT.out 0 (by omega)).1;simp only[Value.agg.injEq] at hxk0;rw[hxk0] at hxc0 HT0
     have HR0:Hid (∀ w',Below w.heap.size w w'->w'.cell? ⟨b,o,none⟩=some (.int .i8 kind0)/\w'.cell? ⟨b,o+1,none⟩=some (.int .u64 nn0)/\w'.cell? ⟨b,o+2,none⟩=some (.bool false)/\w'.cell? ⟨b,o+3,none⟩=some (.slice mb0 mn0 mc0)/\w'.cell? ⟨b,o+4,none⟩=some (.int .u64 bits0)/\w'.cell? ⟨b,o+5,none⟩=some (.int .i8 ext0)/\w'.cell? ⟨b,o+6,none⟩=some (.string (zAc text0))/\w'.cell? ⟨b,o+7,none⟩=some (.slice kb0 kn0 kc0)):=zz (fun w' h=>by
      have hc:=fun j (hj:j<8)=>by
       have:=hxc0 j hj;rw[<-(h.mono HN.out).cell (p:=⟨b,_,none⟩) hb] at this;exact this
      exact⟨hc 0 (by omega),hc 1 (by omega),hc 2 (by omega),hc 3 (by omega),hc 4 (by omega),hc 5 (by omega),hc 6 (by omega),hc 7 (by omega)⟩)
     have HQ0:Hid (∀ w',Below w.heap.size w w'->Calls Tryz.prog 153 #[.agg (zAa kind0 nn0 false (.slice mb0 mn0 mc0) bits0 ext0 (zAc text0) (.slice kb0 kn0 kc0))] w' fun e w9=>∃ a0 a1 a2 a3 a4 a5 a6 a7,e=.returned (.agg #[a0,a1,a2,a3,a4,a5,a6,a7])/\Hid (#[a0,a1,a2,a3,a4,a5,a6,a7].all (·.oneCell')=true)/\Hid (Below w'.heap.size w' w9)/\Hid (zAm w9 (fun b=>w'.heap.size<=b) (fs 0) (ds 0) (.agg #[a0,a1,a2,a3,a4,a5,a6,a7]))):=zz (fun w' h=>by
      refine (zHT N (fs 0) (ds 0) _ w' (zJ HN.out h.size) (zAU.below (h.mono HN.out) _ _ _ HT0.out)).mono ?_;rintro e w9 ⟨hb9,v9,rfl,hT9⟩;obtain⟨q1,q2,q3,q4,q5,q6,q7,q8,q9,q10,q11,hq⟩:=(zAm.toN (N:=w9.heap.size) (fun b _ h=>h) _ _ _ hT9).cells;subst hq;exact⟨_,_,_,_,_,_,_,_,rfl,zz (zAo _ _ _ _ _ _ _ _ rfl rfl),zz hb9,zz hT9⟩)
     clear hxc0 hx80 hxk0;obtain⟨hx81,hxc1⟩:=HROW.out 1 (by omega);obtain⟨kind1,nn1,mb1,mn1,mc1,bits1,ext1,text1,kb1,kn1,kc1,hxk1⟩:=(HT.out 1 (by omega)).1.cells;have HT1:=zz (HT.out 1 (by omega)).1;simp only[Value.agg.injEq] at hxk1;rw[hxk1] at hxc1 HT1
     have HR1:Hid (∀ w',Below w.heap.size w w'->w'.cell? ⟨b,o+8,none⟩=some (.int .i8 kind1)/\w'.cell? ⟨b,o+8+1,none⟩=some (.int .u64 nn1)/\w'.cell? ⟨b,o+8+2,none⟩=some (.bool false)/\w'.cell? ⟨b,o+8+3,none⟩=some (.slice mb1 mn1 mc1)/\w'.cell? ⟨b,o+8+4,none⟩=some (.int .u64 bits1)/\w'.cell? ⟨b,o+8+5,none⟩=some (.int .i8 ext1)/\w'.cell? ⟨b,o+8+6,none⟩=some (.string (zAc text1))/\w'.cell? ⟨b,o+8+7,none⟩=some (.slice kb1 kn1 kc1)):=zz (fun w' h=>by
      have hc:=fun j (hj:j<8)=>by
       have:=hxc1 j hj;rw[<-(h.mono HN.out).cell (p:=⟨b,_,none⟩) hb] at this;exact this
      exact⟨hc 0 (by omega),hc 1 (by omega),hc 2 (by omega),hc 3 (by omega),hc 4 (by omega),hc 5 (by omega),hc 6 (by omega),hc 7 (by omega)⟩)
     have HQ1:Hid (∀ w',Below w.heap.size w w'->Calls Tryz.prog 153 #[.agg (zAa kind1 nn1 false (.slice mb1 mn1 mc1) bits1 ext1 (zAc text1) (.slice kb1 kn1 kc1))] w' fun e w9=>∃ a0 a1 a2 a3 a4 a5 a6 a7,e=.returned (.agg #[a0,a1,a2,a3,a4,a5,a6,a7])/\Hid (#[a0,a1,a2,a3,a4,a5,a6,a7].all (·.oneCell')=true)/\Hid (Below w'.heap.size w' w9)/\Hid (zAm w9 (fun b=>w'.heap.size<=b) (fs 1) (ds 1) (.agg #[a0,a1,a2,a3,a4,a5,a6,a7]))):=zz (fun w' h=>by
      refine (zHT N (fs 1) (ds 1) _ w' (zJ HN.out h.size) (zAU.below (h.mono HN.out) _ _ _ HT1.out)).mono ?_;rintro e w9 ⟨hb9,v9,rfl,hT9⟩;obtain⟨q1,q2,q3,q4,q5,q6,q7,q8,q9,q10,q11,hq⟩:=(zAm.toN (N:=w9.heap.size) (fun b _ h=>h) _ _ _ hT9).cells;subst hq;exact⟨_,_,_,_,_,_,_,_,rfl,zz (zAo _ _ _ _ _ _ _ _ rfl rfl),zz hb9,zz hT9⟩)
     clear hxc1 hx81 hxk1;go_upto_region 19 with fail
     refine wp_region_noPanic ?_;refine wp_region_held_drew (S:=fun w'=>Below w.heap.size w w'/\Blk w' w.heap.size zAr 31) (by kernel_rfl) ⟨zAd HBs.out 1,HKs.out.drewN 1⟩ (fun hH=>?_);refine zAy (d:=some 81) (hd:=by rfl) (i:=0) (oi:=_) (v:=.slice none 0 0) rfl (by kernel_rfl) (by kernel_rfl) (by kernel_rfl) (fun _ _ _ h=>h) (Or.inl ⟨by rfl,fun w' hSw=>?_⟩) hH ?_
     ·clear hH hSw;go_simp
     try simp only[Act.put,zy,zq,zj]
     refine zAy (d:=some 82) (hd:=by rfl) (i:=1) (oi:=_) (v:=.slice (some ⟨b,o,none⟩) 2 cap) rfl (by kernel_rfl) (by kernel_rfl) (by kernel_rfl) (fun _ _ _ h=>h) (Or.inl ⟨by rfl,fun w' hSw=>?_⟩) hH ?_
     ·clear hH hSw;go_simp
     try simp only[Act.put,zy,zq,zj]
     refine zAy (d:=some 83) (hd:=by rfl) (i:=2) (oi:=_) (v:=.int .i64 0) rfl (by kernel_rfl) (by kernel_rfl) (by kernel_rfl) (fun _ _ _ h=>h) (Or.inl ⟨by rfl,fun w' hSw=>?_⟩) hH ?_
     ·clear hH hSw;go_simp
     try simp only[Act.put,zy,zq,zj]
     refine zAy (d:=some 84) (hd:=by rfl) (i:=3) (oi:=_) (v:=.pointer (some ⟨b,o,none⟩)) rfl (by kernel_rfl) (by kernel_rfl) (by kernel_rfl) (fun _ _ _ h=>h) (Or.inl ⟨by rfl,fun w' hSw=>?_⟩) hH ?_
     ·clear hH hSw;go_simp
     try simp only[Act.put,zy,zq,zj]
     refine zAy (d:=some 85) (hd:=by rfl) (i:=4) (oi:=_) (v:=.agg (zAa kind0 nn0 false (.slice mb0 mn0 mc0) bits0 ext0 (zAc text0) (.slice kb0 kn0 kc0))) rfl (by kernel_rfl) (by kernel_rfl) (by kernel_rfl) (fun _ _ _ h=>h) (Or.inl ⟨by rfl,fun w' hSw=>?_⟩) hH ?_
     ·obtain⟨d0,d1,d2,d3,d4,d5,d6,d7⟩:=HR0.out w' hSw.1;clear hH hSw;go_simp;rfl
     try simp only[Act.put,zy,zq,zj]
     refine zAy (d:=some 87) (hd:=by rfl) (i:=6) (oi:=_) (v:=.slice (some ⟨b,o,none⟩) 2 cap) rfl (by kernel_rfl) (by kernel_rfl) (by kernel_rfl) (fun _ _ _ h=>h) (Or.inl ⟨by rfl,fun w' hSw=>?_⟩) hH ?_
     ·clear hH hSw;go_simp
     try simp only[Act.put,zy,zq,zj]
     refine zAy (d:=some 88) (hd:=by rfl) (i:=7) (oi:=_) (v:=.int .i64 0) rfl (by kernel_rfl) (by kernel_rfl) (by kernel_rfl) (fun _ _ _ h=>h) (Or.inl ⟨by rfl,fun w' hSw=>?_⟩) hH ?_
     ·clear hH hSw;go_simp
     try simp only[Act.put,zy,zq,zj]
     refine zAy (d:=some 89) (hd:=by rfl) (i:=8) (oi:=_) (v:=.int .i64 1) rfl (by kernel_rfl) (by kernel_rfl) (by kernel_rfl) (fun _ _ _ h=>h) (Or.inl ⟨by rfl,fun w' hSw=>?_⟩) hH ?_
     ·clear hH hSw;go_simp;rfl
     try simp only[Act.put,zy,zq,zj]
     refine zAy (d:=some 90) (hd:=by rfl) (i:=9) (oi:=_) (v:=.pointer (some ⟨b,o+8,none⟩)) rfl (by kernel_rfl) (by kernel_rfl) (by kernel_rfl) (fun _ _ _ h=>h) (Or.inl ⟨by rfl,fun w' hSw=>?_⟩) hH ?_
     ·clear hH hSw;go_simp
     try simp only[Act.put,zy,zq,zj]
     refine zAy (d:=some 91) (hd:=by rfl) (i:=10) (oi:=_) (v:=.agg (zAa kind1 nn1 false (.slice mb1 mn1 mc1) bits1 ext1 (zAc text1) (.slice kb1 kn1 kc1))) rfl (by kernel_rfl) (by kernel_rfl) (by kernel_rfl) (fun _ _ _ h=>h) (Or.inl ⟨by rfl,fun w' hSw=>?_⟩) hH ?_
     ·obtain⟨d0,d1,d2,d3,d4,d5,d6,d7⟩:=HR1.out w' hSw.1;clear hH hSw;go_simp;rfl
     try simp only[Act.put,zy,zq,zj]
     refine zAy (d:=some 94) (hd:=by rfl) (i:=13) (oi:=_) (v:=.int .i64 0) rfl (by kernel_rfl) (by kernel_rfl) (by kernel_rfl) (fun _ _ _ h=>h) (Or.inl ⟨by rfl,fun w' hSw=>?_⟩) hH ?_
     ·clear hH hSw;go_simp
     try simp only[Act.put,zy,zq,zj]
     refine zAy (d:=some 95) (hd:=by rfl) (i:=14) (oi:=_) (v:=.int .i64 0) rfl (by kernel_rfl) (by kernel_rfl) (by kernel_rfl) (fun _ _ _ h=>h) (Or.inl ⟨by rfl,fun w' hSw=>?_⟩) hH ?_
     ·clear hH hSw;go_simp;rfl
     try simp only[Act.put,zy,zq,zj]
     refine wpAnyH_ready (rs:=[5]) (by kernel_rfl) (by simp) ?_;refine AllReadyH.cons (o:=_) rfl (fun K hK=>?_) AllReadyH.nil;go_simp;refine (HQ0.out _ hH.1).mono ?_;rintro e w5 ⟨y0,y1,y2,y3,y4,y5,y6,y7,rfl,ho0,hb5,ht0⟩;go_wp2_with fail
     refine hK.out _ _ ⟨hH.1.trans (hb5.out.mono hH.1.size),hH.2.below hb5.out hH.2.lt⟩ (fun hH=>?_);clear hK K
     try simp only[Act.put,zy,zq,zj]
     refine wpAnyH_ready (rs:=[11]) (by kernel_rfl) (by simp) ?_;refine AllReadyH.cons (o:=_) rfl (fun K hK=>?_) AllReadyH.nil;go_simp;refine (HQ1.out _ hH.1).mono ?_;rintro e w6 ⟨x0,x1,x2,x3,x4,x5,x6,x7,rfl,ho1,hb6,ht1⟩;go_wp2_with fail
     refine hK.out _ _ ⟨hH.1.trans (hb6.out.mono hH.1.size),hH.2.below hb6.out hH.2.lt⟩ (fun hH=>?_);clear hK K
     try simp only[Act.put,zy,zq,zj]
     refine zAy (d:=some 93) (hd:=by rfl) (i:=12) (oi:=_) (v:=.agg #[y0,y1,y2,y3,y4,y5,y6,y7,x0,x1,x2,x3,x4,x5,x6,x7]) rfl (by kernel_rfl) (by kernel_rfl) (by kernel_rfl) (fun _ _ _ h=>h) (Or.inl ⟨by rfl,fun w' hSw=>?_⟩) hH ?_
     ·clear hH hSw
      kernel_rfl
     try simp only[Act.put,zy,zq,zj]
     refine zAy (d:=some 96) (hd:=by rfl) (i:=15) (oi:=_) (v:=.agg #[y0,y1,y2,y3,y4,y5,y6,y7,x0,x1,x2,x3,x4,x5,x6,x7,.int .i64 0]) rfl (by kernel_rfl) (by kernel_rfl) (by kernel_rfl) (fun _ _ _ h=>h) (Or.inl ⟨by rfl,fun w' hSw=>?_⟩) hH ?_
     ·clear hH hSw
      kernel_rfl
     try simp only[Act.put,zy,zq,zj]
     refine wpAnyH_ready (rs:=[16]) (by kernel_rfl) (by simp) ?_;refine AllReadyH.cons (o:=_) rfl (fun K hK=>?_) AllReadyH.nil;go_simp;have hal:Below w6.heap.size w6 (w6.alloc (.cells #[y0,y1,y2,y3,y4,y5,y6,y7,x0,x1,x2,x3,x4,x5,x6,x7,.int .i64 0] 222)):=(zK _ _).alloc (zQ _) _;have hnw:=Blk.new w6 #[y0,y1,y2,y3,y4,y5,y6,y7,x0,x1,x2,x3,x4,x5,x6,x7,.int .i64 0] 222;have HZZ:=zz hH;refine hK.out _ _ ⟨hH.1.trans (hal.mono hH.1.size),hH.2.below hal hH.2.lt⟩ (fun hH=>?_);clear hK K
     try simp only[Act.put,zy,zq,zj]
     refine wpAnyH_ready (rs:=[17]) (by kernel_rfl) (by simp) ?_;refine AllReadyH.cons (o:=_) rfl (fun K hK=>?_) AllReadyH.nil;rw[if_pos (by rfl)];obtain⟨i0,hi0,hz0,hs0,hb0⟩:=zLv;refine wp_append_own _ (.tmp 81) (.tmp 97) 217 rfl (w.heap.size+1) 222 i0 _ 17 216 Tryz.underlying217 hi0 hz0 hs0 hb0 rfl (by decide) (.slice none 0 0) 0 [] rfl (World.ownsRow_nil _ _ _ _) ⟨w6.heap.size,0,none⟩ 1 1 [y0,y1,y2,y3,y4,y5,y6,y7,x0,x1,x2,x3,x4,x5,x6,x7,.int .i64 0] rfl rfl ?c1 ?c2 ?c3 ?c4 ?c5 ?_
     case c1=>
      intro j u hj;rw[zA1,Nat.zero_add,hnw.cell j]
      simpa using hj
     case c2=>
      intro u hu;have e0:=ho0.out;have e1:=ho1.out;simp only[List.mem_cons,List.not_mem_nil,or_false] at hu;simp at e0 e1;rcases hu with rfl|rfl|rfl|rfl|rfl|rfl|rfl|rfl|rfl|rfl|rfl|rfl|rfl|rfl|rfl|rfl|rfl <;> first|rfl|simp[e0,e1]
     case c3=>decide
     case c4=>decide
     case c5=>have:=hH.2.lt;omega
     intro v' w7 hown hgrow hnn;have hb7:Below w6.heap.size w6 w7:=hal.trans ⟨hgrow.os,hgrow.tape,hgrow.output,hgrow.size,fun k hk=>hgrow.block k (by simp;omega) (fun e=>by simp[Value.ownBlock] at e)⟩;have h56:w5.heap.size<=w6.heap.size:=hb6.out.size;have hw5:w.heap.size<wr.heap.size:=HKs.out.lt;have hw15:wr.heap.size<=w5.heap.size:=hb5.out.size
     have hP7:∃ g c,v'=.slice (some ⟨g,0,none⟩) 1 c/\Hid (zNa w7 (fun b=>w.heap.size<b) g (fs 0) (fs 1) (ds 0) (ds 1) #[y0,y1,y2,y3,y4,y5,y6,y7] #[x0,x1,x2,x3,x4,x5,x6,x7]):=by
      obtain⟨hlen,⟨rfl,h0⟩|⟨g,cp,cur,rfl,hg,hc,hle,hm,hsz,htk⟩⟩:=hown
      ·have:=(hnn.1 rfl).2;simp at this
      ·rw[Nat.zero_add] at hle htk;refine⟨g,cp,by rw[Nat.zero_add],zz ⟨(Array.getElem?_eq_some_iff.1 hc).1,fun j u hj=>?_,rfl,rfl,ho0.out,ho1.out,?_,?_⟩⟩
       ·have hj17:j<17:=by
         rcases Nat.lt_or_ge j 17 with h|h
         ·exact h
         ·rw[List.getElem?_eq_none (by simp;omega)] at hj;cases hj
        have e:w7.cell? ⟨g,0+j,none⟩=cur[j]?:=by rw[Nat.zero_add];simp[World.cell?,hc]
        have h9:(cur.toList.take (1*17))[j]?=([y0,y1,y2,y3,y4,y5,y6,y7,x0,x1,x2,x3,x4,x5,x6,x7,.int .i64 0]:List Value)[j]?:=by rw[htk];rfl
        have h10:([y0,y1,y2,y3,y4,y5,y6,y7,x0,x1,x2,x3,x4,x5,x6,x7,.int .i64 0]:List Value)[j]?=some u:=hj;rw[e,<-Array.getElem?_toList,<-h10,<-h9,List.getElem?_take,if_pos (by omega)]
       ·exact zAm.same (fun b _ h=>(hb7.block b (by omega)).trans (hb6.out.block b h)) (fun b h _=>by have h1:wr.heap.size<=b:=h;omega) _ _ _ ht0.out
       ·exact zAm.same (fun b _ h=>hb7.block b h) (fun b h _=>by have h1:w5.heap.size<=b:=h;omega) _ _ _ ht1.out
     have HB7:Hid (Below w.heap.size w w7):=zz (HZZ.out.1.trans (hb7.mono HZZ.out.1.size));have HK7:Hid (Blk w7 w.heap.size zAr 31):=zz (HZZ.out.2.below hb7 HZZ.out.2.lt);obtain⟨g,c,rfl,HP7⟩:=hP7;clear hown hgrow hnn hb7 hal hnw hi0 hz0 hs0 hb0 hb5 hb6 ht0 ht1 ho0 ho1 HZZ HQ0 HQ1 HR0 HR1 HT0 HT1;refine hK.out _ _ ⟨HB7.out,HK7.out⟩ (fun hH=>?_);clear hK K
     try simp only[Act.put,zy,zq,zj]
     refine wpAnyH_ready (rs:=[18]) (by kernel_rfl) (by simp) ?_;refine AllReadyH.cons (o:=_) rfl (fun K hK=>?_) AllReadyH.nil;go_simp;refine hK.out _ _ ⟨HB7.out,HK7.out⟩ (fun hH=>?_);clear hK K
     try simp only[Act.put,zy,zq,zj]
     refine wpAnyH_done (by kernel_rfl) ?_ _;refine NoPanic.normal ?_;clear hH;go_wp2;go_roundw
     case rel=>exact⟨HK7,HB7,.inr ⟨rfl,g,c,_,_,rfl,HP7⟩⟩
     case measure=>simp[intOf]
    ·go_wp2_with fail
     refine (zGF wr (some ⟨g,0,none⟩) c _ _ _).mono ?_;rintro e w1 ⟨hb1,rfl⟩;have hPw:=HPs.out;have hgl:=hPw.lt;have hwl:w.heap.size<wr.heap.size:=HKs.out.lt;have HB1:=zz (HBs.out.trans (hb1.mono HBs.out.size));have HK1:=zz (HKs.out.below hb1 HKs.out.lt);have HA1:=zz (hPw.at_.below hb1 hgl);have hg1:g<w1.heap.size:=Nat.lt_of_lt_of_le hgl hb1.size;have hwl1:w.heap.size<w1.heap.size:=Nat.lt_of_lt_of_le hwl hb1.size;have HT10:Hid (zAm w1 (fun b=>w.heap.size<b) (fs 0) (ds 0) (.agg z0)):=zz (zAm.same (fun b _ h=>hb1.block b h) (fun b h _=>h) _ _ _ hPw.t0);have HT11:Hid (zAm w1 (fun b=>w.heap.size<b) (fs 1) (ds 1) (.agg z1)):=zz (zAm.same (fun b _ h=>hb1.block b h) (fun b h _=>h) _ _ _ hPw.t1);have hs0:=hPw.s0;have hs1:=hPw.s1;have HO0:=zz hPw.o0;have HO1:=zz hPw.o1;clear hb1 hPw HPs HKs HBs hwl hgl;go_wp2_with fail
     obtain⟨kind0,nn0,mb0,mn0,mc0,bits0,ext0,text0,kb0,kn0,kc0,hz0⟩:=(zAm.toN (N:=w1.heap.size) (fun b _ h=>h) _ _ _ HT10.out).cells;obtain⟨kind1,nn1,mb1,mn1,mc1,bits1,ext1,text1,kb1,kn1,kc1,hz1⟩:=(zAm.toN (N:=w1.heap.size) (fun b _ h=>h) _ _ _ HT11.out).cells;simp only[Value.agg.injEq] at hz0 hz1;subst hz0 hz1;have hal:Below w1.heap.size w1 (w1.alloc (.cells #[.int .i8 8,.int .u64 0,.bool false,.slice none 0 0,.int .u64 0,.int .i8 0,.string ⟨#[]⟩,.slice none 0 0] 31)):=(zK _ _).alloc (zQ _) _;have hnw:=Blk.new w1 #[.int .i8 8,.int .u64 0,.bool false,.slice none 0 0,.int .u64 0,.int .i8 0,.string ⟨#[]⟩,.slice none 0 0] 31;generalize w1.alloc (.cells #[.int .i8 8,.int .u64 0,.bool false,.slice none 0 0,.int .u64 0,.int .i8 0,.string ⟨#[]⟩,.slice none 0 0] 31)=wB at hal hnw ⊢
     have hone:∀ u ∈ ((zAa kind0 nn0 false (.slice mb0 mn0 mc0) bits0 ext0 (zAc text0) (.slice kb0 kn0 kc0)).toList ++ (zAa kind1 nn1 false (.slice mb1 mn1 mc1) bits1 ext1 (zAc text1) (.slice kb1 kn1 kc1)).toList ++ [.int .i64 0]),u.oneCell'=true:=by
      intro u hu;have e0:=HO0.out;have e1:=HO1.out;rw[Array.all_eq_true_iff_forall_mem] at e0 e1;simp only[List.mem_append,Array.mem_toList_iff,List.mem_singleton] at hu;rcases hu with (hu|hu)|rfl
      ·exact e0 u hu
      ·exact e1 u hu
      ·rfl
     refine (zI4 wB g 0 c ((zAa kind0 nn0 false (.slice mb0 mn0 mc0) bits0 ext0 (zAc text0) (.slice kb0 kn0 kc0)).toList ++ (zAa kind1 nn1 false (.slice mb1 mn1 mc1) bits1 ext1 (zAc text1) (.slice kb1 kn1 kc1)).toList ++ [.int .i64 0]) rfl (Nat.lt_of_lt_of_le hg1 hal.size) (HA1.out.below hal hg1) hone _ _ _).mono ?_;rintro e w2 ⟨hb2,g2,c2,rfl,hg2,hg2l,hA2⟩;have HB2:=zz (HB1.out.trans ((hal.trans (hb2.mono hal.size)).mono HB1.out.size));have h12:Below w1.heap.size w1 w2:=hal.trans (hb2.mono hal.size);have HK2:=zz (HK1.out.below h12 hwl1);have HY2:=zz (hnw.below hb2 hnw.lt);have HT20:Hid (zAm w2 (fun b=>w.heap.size<b/\b<w1.heap.size) (fs 0) (ds 0) (.agg (zAa kind0 nn0 false (.slice mb0 mn0 mc0) bits0 ext0 (zAc text0) (.slice kb0 kn0 kc0)))):=zz (zAm.same (fun b _ h=>h12.block b h) (fun b h h'=>⟨h,h'⟩) _ _ _ HT10.out);have HT21:Hid (zAm w2 (fun b=>w.heap.size<b/\b<w1.heap.size) (fs 1) (ds 1) (.agg (zAa kind1 nn1 false (.slice mb1 mn1 mc1) bits1 ext1 (zAc text1) (.slice kb1 kn1 kc1)))):=zz (zAm.same (fun b _ h=>h12.block b h) (fun b h h'=>⟨h,h'⟩) _ _ _ HT11.out);have hwB:w1.heap.size<wB.heap.size:=hnw.lt;have HA2:=zz hA2;have h2l:w1.heap.size<w2.heap.size:=by omega
     clear hb2 hal hnw HA1 HK1 HB1 HT10 HT11 h12 hA2 hone hg1;go_wp2_with fail
     go_loopw [122] (fun i wr=>(i=.int .i64 0/\wr=w2) \/ (i=.int .i64 1/\∃ h cc,Hid (Blk wr w1.heap.size #[.int .i8 8,.int .u64 0,.bool false,.slice none 0 0,.int .u64 0,.int .i8 0,.string ⟨#[]⟩,.slice (some ⟨h,0,none⟩) 2 cc] 31)/\Hid (Blk wr w.heap.size zAr 31)/\Hid (Below w.heap.size w wr)/\Hid (w1.heap.size<h/\h<wr.heap.size/\2<=cc/\cc<=maxLen)/\Hid (zBO wr h 0 2 (fun i=>if i=0 then (zAa kind0 nn0 false (.slice mb0 mn0 mc0) bits0 ext0 (zAc text0) (.slice kb0 kn0 kc0)) else (zAa kind1 nn1 false (.slice mb1 mn1 mc1) bits1 ext1 (zAc text1) (.slice kb1 kn1 kc1))))/\Hid (∀ b,w.heap.size<b/\b<w1.heap.size->b<w2.heap.size->wr.heap[b]?=w2.heap[b]?))) (fun i _=>1 - (intOf i).toNat)
     case atStart=>exact .inl ⟨rfl,rfl⟩
     case round=>
      rcases hrel with ⟨rfl,rfl⟩|⟨rfl,h,cc,HYr,HKr,HBr,HLr,HVr,HSr⟩
      ·skip
       go_upto_region 29 with fail
       refine wp_region_lit ?_;iterate 3 go_step
       refine wpList_load_mid rfl 222 _ rfl g2 0 rfl ((zAa kind0 nn0 false (.slice mb0 mn0 mc0) bits0 ext0 (zAc text0) (.slice kb0 kn0 kc0)).toList ++ (zAa kind1 nn1 false (.slice mb1 mn1 mc1) bits1 ext1 (zAc text1) (.slice kb1 kn1 kc1)).toList ++ [Value.int .i64 0]) _ HA2.out Tryz.underlying222 rfl (by kernel_rfl) ?_;iterate 3 go_step
       change wpList _ _ _ _ _ (wr.alloc (.cells zEt 222));have hal:=(zK wr.heap.size wr).alloc (zQ _) (.cells zEt 222);have hnw:=Blk.new wr zEt 222;generalize wr.alloc (.cells zEt 222)=wA at hal hnw ⊢
       have hone:(((zAa kind0 nn0 false (.slice mb0 mn0 mc0) bits0 ext0 (zAc text0) (.slice kb0 kn0 kc0)).toList ++ (zAa kind1 nn1 false (.slice mb1 mn1 mc1) bits1 ext1 (zAc text1) (.slice kb1 kn1 kc1)).toList ++ [Value.int .i64 0]).toArray).all (·.oneCell')=true:=by
        have e0:=HO0.out;have e1:=HO1.out;rw[Array.all_eq_true_iff_forall_mem] at e0 e1 ⊢;intro u hu;simp only[List.mem_toArray,List.mem_append,Array.mem_toList_iff,List.mem_singleton] at hu;rcases hu with (hu|hu)|rfl
        ·exact e0 u hu
        ·exact e1 u hu
        ·rfl
       refine wpList_store_row rfl 222 _ _ rfl wr.heap.size (((zAa kind0 nn0 false (.slice mb0 mn0 mc0) bits0 ext0 (zAc text0) (.slice kb0 kn0 kc0)).toList ++ (zAa kind1 nn1 false (.slice mb1 mn1 mc1) bits1 ext1 (zAc text1) (.slice kb1 kn1 kc1)).toList ++ [Value.int .i64 0]).toArray) rfl rfl 222 _ hnw (by kernel_rfl) rfl hone ?_;have hbx:Blk (wA.setRow wr.heap.size (((zAa kind0 nn0 false (.slice mb0 mn0 mc0) bits0 ext0 (zAc text0) (.slice kb0 kn0 kc0)).toList ++ (zAa kind1 nn1 false (.slice mb1 mn1 mc1) bits1 ext1 (zAc text1) (.slice kb1 kn1 kc1)).toList ++ [Value.int .i64 0]).toArray)) wr.heap.size (((zAa kind0 nn0 false (.slice mb0 mn0 mc0) bits0 ext0 (zAc text0) (.slice kb0 kn0 kc0)).toList ++ (zAa kind1 nn1 false (.slice mb1 mn1 mc1) bits1 ext1 (zAc text1) (.slice kb1 kn1 kc1)).toList ++ [Value.int .i64 0]).toArray) 222:=setRow_heap _ _ _ _ _ _ hnw;have hbb:Below wr.heap.size wr (wA.setRow wr.heap.size (((zAa kind0 nn0 false (.slice mb0 mn0 mc0) bits0 ext0 (zAc text0) (.slice kb0 kn0 kc0)).toList ++ (zAa kind1 nn1 false (.slice mb1 mn1 mc1) bits1 ext1 (zAc text1) (.slice kb1 kn1 kc1)).toList ++ [Value.int .i64 0]).toArray)):=zAO hal (zQ _) _;generalize wA.setRow wr.heap.size (((zAa kind0 nn0 false (.slice mb0 mn0 mc0) bits0 ext0 (zAc text0) (.slice kb0 kn0 kc0)).toList ++ (zAa kind1 nn1 false (.slice mb1 mn1 mc1) bits1 ext1 (zAc text1) (.slice kb1 kn1 kc1)).toList ++ [Value.int .i64 0]).toArray)=wX at hbx hbb ⊢;clear hal hnw hone;have HY3:=zz (HY2.out.below hbb h2l);have y7:=HY3.out.cell 7;simp only[zv,zk,zx] at y7
       have HP0:Hid (wX.rangeAt wr.heap.size 0 (zAa kind0 nn0 false (.slice mb0 mn0 mc0) bits0 ext0 (zAc text0) (.slice kb0 kn0 kc0)).toList):=zz (fun j v hj=>by
        have hjl:j<8:=by
         rcases Nat.lt_or_ge j 8 with h|h
         ·exact h
         ·rw[List.getElem?_eq_none (by simpa[zAa] using h)] at hj;cases hj
        have:=hbx.cell (0+j);rw[this,<-hj];rcases (by omega:j=0 \/ j=1 \/ j=2 \/ j=3 \/ j=4 \/ j=5 \/ j=6 \/ j=7) with rfl|rfl|rfl|rfl|rfl|rfl|rfl|rfl <;> rfl)
       have HP1:Hid (wX.rangeAt wr.heap.size 8 (zAa kind1 nn1 false (.slice mb1 mn1 mc1) bits1 ext1 (zAc text1) (.slice kb1 kn1 kc1)).toList):=zz (fun j v hj=>by
        have hjl:j<8:=by
         rcases Nat.lt_or_ge j 8 with h|h
         ·exact h
         ·rw[List.getElem?_eq_none (by simpa[zAa] using h)] at hj;cases hj
        have:=hbx.cell (8+j);rw[this,<-hj];rcases (by omega:j=0 \/ j=1 \/ j=2 \/ j=3 \/ j=4 \/ j=5 \/ j=6 \/ j=7) with rfl|rfl|rfl|rfl|rfl|rfl|rfl|rfl <;> rfl)
       have HBX:=zz hbb;clear hbx hbb;go_upto_region 30 with fail
       refine wp_region_lit ?_;iterate 12 go_step
       refine wpList_load_mid rfl 31 (.tmp 129) rfl wr.heap.size 0 rfl _ _ HP0.out Tryz.underlying31 rfl (by kernel_rfl) ?_;iterate 6 go_step
       refine wpList_load_mid rfl 31 (.tmp 132) rfl wr.heap.size 8 rfl _ _ HP1.out Tryz.underlying31 rfl (by kernel_rfl) ?_;obtain⟨i0,hi0,hz0,hs0',hb0⟩:=zEd;obtain⟨cs16,hcs16⟩:∃ cs:Array Value,cs=#[.int .i8 kind0,.int .u64 nn0,.bool false,.slice mb0 mn0 mc0,.int .u64 bits0,.int .i8 ext0,.string (zAc text0),.slice kb0 kn0 kc0,.int .i8 kind1,.int .u64 nn1,.bool false,.slice mb1 mn1 mc1,.int .u64 bits1,.int .i8 ext1,.string (zAc text1),.slice kb1 kn1 kc1]:=⟨_,rfl⟩;refine wpList_buildSlice rfl 29 31 2 #[(0,.tmp 130),(1,.tmp 133)] rfl cs16 i0 _ Tryz.underlying29 hi0 hz0 (by rw[hs0'];decide) (by rw[hs0'];decide) (by rw[hs0',hcs16];kernel_rfl) ?_;have hal:=(zK wX.heap.size wX).alloc (zQ _) (.cells cs16 31);have hnw:=Blk.new wX cs16 31;generalize wX.alloc (.cells cs16 31)=wC at hal hnw ⊢;have hXw:w1.heap.size<wX.heap.size:=Nat.lt_of_lt_of_le h2l HBX.out.size;have hCw:wX.heap.size<wC.heap.size:=hnw.lt
       have hone16:∀ u ∈ cs16.toList,u.oneCell'=true:=by
        intro u hu;have e0:=HO0.out;have e1:=HO1.out;rw[Array.all_eq_true_iff_forall_mem] at e0 e1;have:cs16=(zAa kind0 nn0 false (.slice mb0 mn0 mc0) bits0 ext0 (zAc text0) (.slice kb0 kn0 kc0)) ++ (zAa kind1 nn1 false (.slice mb1 mn1 mc1) bits1 ext1 (zAc text1) (.slice kb1 kn1 kc1)):=hcs16.trans rfl;rw[this] at hu;simp only[Array.mem_toList_iff,Array.mem_append] at hu;rcases hu with hu|hu
        ·exact e0 u hu
        ·exact e1 u hu
       have hlen16:cs16.toList.length=2*8:=by rw[hcs16];rfl
       refine wpList_append_own _ rfl (.tmp 127) (.tmp 134) 29 rfl (w1.heap.size+1) 31 i0 _ 8 104 Tryz.underlying29 hi0 hz0 hs0' hb0 rfl (by decide) (.slice none 0 0) 0 [] rfl (World.ownsRow_nil _ _ _ _) ⟨wX.heap.size,0,none⟩ 2 2 cs16.toList rfl hlen16 ?c1 hone16 ?c3 ?c4 ?c5 ?_
       case c1=>
        intro j u hj;rw[zA1,Nat.zero_add,hnw.cell j]
        simpa using hj
       case c3=>decide
       case c4=>decide
       case c5=>omega
       intro v' wD hown hgrow hnn;have hbD:Below wX.heap.size wX wD:=hal.trans ⟨hgrow.os,hgrow.tape,hgrow.output,hgrow.size,fun k hk=>hgrow.block k (by omega) (fun e=>by simp[Value.ownBlock] at e)⟩;obtain⟨hlen,⟨rfl,h0⟩|⟨g3,cp3,cur,rfl,hg3,hc3,hle3,hm3,hsz3,htk3⟩⟩:=hown
       ·have:=(hnn.1 rfl).2;simp at this
       rw[Nat.zero_add] at hle3 htk3;have HYD:=zz (HY3.out.below hbD hXw);have y7':=HYD.out.cell 7;have y7f:=HYD.out.free 7;simp only[zv,zk,zx] at y7';clear hnn hgrow hal hnw y7;go_wp2_with fail
       have hbr:Below wr.heap.size wr wD:=HBX.out.trans (hbD.mono HBX.out.size);have hgl:g3<wD.heap.size:=(Array.getElem?_eq_some_iff.1 hc3).1;refine⟨.inr ⟨rfl,g3,cp3,zz ?_,zz ?_,zz ?_,zz ⟨by omega,by simpa using hgl,by omega,hm3⟩,zz ?_,zz ?_⟩,by simp[intOf]⟩
       ·have:=HYD.out.set 7 (.slice (some ⟨g3,0,none⟩) 2 cp3)
        simpa using this
       ·exact (HK2.out.below hbr HK2.out.lt).set_other _ _ (by show w.heap.size≠w1.heap.size;omega)
       ·exact (HB2.out.trans (hbr.mono HB2.out.size)).setCell (p:=⟨w1.heap.size,7,none⟩) (by show w.heap.size<=w1.heap.size;omega) _
       ·refine zEo (t:=31) (cur:=cur) ?_ ?_ ?_
        ·rw[Below.heap_setCell _ _ _ _ (show g3≠w1.heap.size by omega)];exact hc3
        ·intro i hi;rcases (by omega:i=0 \/ i=1) with rfl|rfl <;> rfl
        ·rw[htk3,hcs16];kernel_rfl
       ·intro b h1 h2;rw[Below.heap_setCell _ _ _ _ (show b≠w1.heap.size by omega)];exact hbr.block b h2
      ·go_upto_region 32 with fail
       refine wp_region_lit ?_;refine wpList_load_row rfl 31 _ rfl w1.heap.size rfl 31 _ (0,0) _ HYr.out Tryz.underlying31 rfl (by kernel_rfl) ?_;refine wpList_store_row rfl 31 _ _ rfl w.heap.size #[.int .i8 8,.int .u64 0,.bool false,.slice none 0 0,.int .u64 0,.int .i8 0,.string ⟨#[]⟩,.slice (some ⟨h,0,none⟩) 2 cc] rfl rfl 31 _ HKr.out (by kernel_rfl) rfl (zAo 8 0 false (.slice none 0 0) 0 0 ⟨#[]⟩ (.slice (some ⟨h,0,none⟩) 2 cc) rfl rfl) ?_;have hfin:Blk (wr.setRow w.heap.size #[.int .i8 8,.int .u64 0,.bool false,.slice none 0 0,.int .u64 0,.int .i8 0,.string ⟨#[]⟩,.slice (some ⟨h,0,none⟩) 2 cc]) w.heap.size #[.int .i8 8,.int .u64 0,.bool false,.slice none 0 0,.int .u64 0,.int .i8 0,.string ⟨#[]⟩,.slice (some ⟨h,0,none⟩) 2 cc] 31:=setRow_heap _ _ _ _ _ _ HKr.out;have hoth:∀ b,b≠w.heap.size->(wr.setRow w.heap.size #[.int .i8 8,.int .u64 0,.bool false,.slice none 0 0,.int .u64 0,.int .i8 0,.string ⟨#[]⟩,.slice (some ⟨h,0,none⟩) 2 cc]).heap[b]?=wr.heap[b]?:=fun b hb=>setRow_other _ _ _ _ hb
       have hbf:Below w.heap.size w (wr.setRow w.heap.size #[.int .i8 8,.int .u64 0,.bool false,.slice none 0 0,.int .u64 0,.int .i8 0,.string ⟨#[]⟩,.slice (some ⟨h,0,none⟩) 2 cc]):=zAO HBr.out (zQ _) _;generalize wr.setRow w.heap.size #[.int .i8 8,.int .u64 0,.bool false,.slice none 0 0,.int .u64 0,.int .i8 0,.string ⟨#[]⟩,.slice (some ⟨h,0,none⟩) 2 cc]=wF at hfin hoth hbf ⊢;have HFIN:=zz hfin;have HOTH:=zz hoth;have HBF:=zz hbf;clear hfin hoth hbf;go_wp2;have r0:=HFIN.out.cell 0;have r1:=HFIN.out.cell 1;have r2:=HFIN.out.cell 2;have r3:=HFIN.out.cell 3;have r4:=HFIN.out.cell 4;have r5:=HFIN.out.cell 5;have r6:=HFIN.out.cell 6;have r7:=HFIN.out.cell 7;simp only[zv,zk,zx] at r0 r1 r2 r3 r4 r5 r6 r7;refine bodyPost_ret (v:=.tuple #[.agg #[.int .i8 8,.int .u64 0,.bool false,.slice none 0 0,.int .u64 0,.int .i8 0,.string ⟨#[]⟩,.slice (some ⟨h,0,none⟩) 2 cc],.nilIface]) (by simp[results,Tryz.results96,go_sem, *]) rfl ⟨HBF.out,_,rfl,?_⟩;have hL:=HLr.out;have hm63:maxLen<=9223372036854775807:=by decide
       have hsz:wF.heap.size=wF.heap.size:=rfl;have hbk:∀ b,b≠w.heap.size->b<wr.heap.size->b<wF.heap.size:=fun b h1 h2=>zCe h2 (HOTH.out b h1)
       refine⟨8,0,.slice none 0 0,0,0,[],.slice (some ⟨h,0,none⟩) 2 cc,2,rfl,⟨?_,fun b o k c e=>by simp at e⟩,htold,.inr ⟨by omega,h,0,cc,(fun i=>if i=0 then (zAa kind0 nn0 false (.slice mb0 mn0 mc0) bits0 ext0 (zAc text0) (.slice kb0 kn0 kc0)) else (zAa kind1 nn1 false (.slice mb1 mn1 mc1) bits1 ext1 (zAc text1) (.slice kb1 kn1 kc1))),ds,rfl,by omega,by omega,⟨hbk h (by omega) (by omega),by omega⟩,?_,fun i hi=>⟨?_,(HT.out i hi).2⟩,he⟩⟩
       ·exact⟨rfl,.inr (.inr (.inr (.inr (.inr (.inl ⟨rfl,rfl,rfl,rfl,rfl,rfl⟩)))))⟩
       ·exact fun i hi=>⟨(HVr.out i hi).1,fun j hj=>by
         rw[World.cell?_of_block (w:=wr) (a:=⟨h,0+i*8+j,none⟩) (HOTH.out h (by omega))];exact (HVr.out i hi).2 j hj⟩
       ·have hs:∀ b,(w.heap.size<b/\b<w1.heap.size)->b<w2.heap.size->wF.heap[b]?=w2.heap[b]?:=fun b h1 h2=>(HOTH.out b (by omega)).trans (HSr.out b h1 h2)
        rcases (by omega:i=0 \/ i=1) with rfl|rfl
        ·exact zAm.same hs (fun b h1 _=>Nat.le_of_lt h1.1) _ _ _ HT20.out
        ·exact zAm.same hs (fun b h1 _=>Nat.le_of_lt h1.1) _ _ _ HT21.out
end Go.Proofs.YtcanfakaigpkgaaGreatDoor.D
