/-
  Of the proof that the law DiagUnlike answers true at every two values: a part, without conditions of its own.
-/
import Derived.Test.YtcanfakaigpkgaaGreatDoorPart43
import Derived.Test.YtcanfakaigpkgaaGreatDoorPart31
import Derived.Test.YtcanfakaigpkgaaGreatDoorPart35
set_option linter.unusedVariables false
set_option linter.unusedSimpArgs false
set_option maxRecDepth 100000
set_option maxHeartbeats 8000000
namespace Go.Proofs.YtcanfakaigpkgaaGreatDoor.D
open Go Go.RowKit Limb
def dL:List UInt8:=[91,110,117,108,108,44,123,32,49,46,48,58,32,104,39,48,48,70,70,39,32,125,47,32,120,32,47,44,49,40,49,53,101,45,49,41,93]
def bL:List UInt8:=[91,49,32,50,93]
abbrev zPt:F:=.node [110,117,108,108] 0 (fun _=>.stop)
abbrev zQz:F:=.node [dig 1] 1 (fun _=>.stop)
def zQr(i:Nat):F:=if i=0 then zQz else if i=1 then zHG else .stop
def zQv:F:=.node ([123] ++ zAF [58,32] [44,32] 2 zQr 2 ++ [125]) 0 zQr
def zQa:F:=.node ((if ((1:Nat):Int)=1 then [49] else [49,48]) ++ [40] ++ zAF [] [] 1 (fun _=>zHt) 1 ++ [41]) 0 (fun _=>zHt)
def zQi(i:Nat):F:=if i=0 then zPt else if i=1 then zQv else if i=2 then zQa else .stop
def zOU:F:=.node ([91] ++ zAF [44,32] [44,32] 3 zQi 3 ++ [93]) 0 zQi
def at3(a b c i:Nat):Nat:=if i=0 then a else if i=1 then b else c
theorem zBe{S:List UInt8}{a:Nat}(h:S.getD a 0 ∉ zDR)(hl:a<=S.length):Btw S a a:=Btw.none (fun _=>h) hl
theorem zOn:zCn dL 1 5 1 zPt 0 false:=
 zJg dL 1 5 1 _ 0 false (by decide) 110 (by decide) (by decide) (by decide) (by decide) (by decide) (by decide) (by decide) (by decide) (by decide) (zLb dL 1 false (by decide) (by decide) (by decide))
theorem zPp:zCn dL 8 11 2 zQz 0 true:=
 zB0 dL 8 11 2 _ 0 true (by decide) 49 (by decide) (by decide) (by decide) (by decide) (by decide) (by decide) (zIl dL 8 2 (by decide) (by decide) (by decide) (by decide))
theorem zMn:zCn dL 13 20 2 zHG 0 false:=zGB dL 13 2 (by decide) (by decide) (by decide)
theorem zO2:zCn dL 6 22 1 zQv 1 false:=
 zHl dL 6 22 1 zQv 1 (by decide) 123 (by decide) (by decide) (by decide) (by decide)
  (zKr dL 6 2 8 11 11 13 20 21 zQr (fun _=>0) true false 1 (by decide) (by decide) ⟨⟨1,by decide⟩,by decide,by decide⟩ (by decide) (by decide) zPp (zBe (by decide) (by decide)) (by decide) (by decide) ⟨⟨1,by decide⟩,by decide,by decide⟩ zMn ⟨⟨1,by decide⟩,by decide,by decide⟩ (by decide) (by decide) (by decide) (by decide) (fun i _=>by decide) ⟨0,by decide,rfl⟩ (by decide))
theorem zOK:zCn dL 30 35 2 zHt 0 true:=
 zB0 dL 30 35 2 _ 0 true (by decide) 49 (by decide) (by decide) (by decide) (by decide) (by decide) (by decide) (zIr dL 30 2 (by decide) (by decide) (by decide) (by decide))
theorem dg1:Dg [49]:=⟨by decide,by decide,by decide,by decide⟩
theorem zO4:zCn dL 28 36 1 zQa 1 false:=
 zB0 dL 28 36 1 zQa 1 false (by decide) 49 (by decide) (by decide) (by decide) (by decide) (by decide) (by decide)
  (zIR dL 28 29 36 1 [49] zQa 1 dg1 (by decide) (by decide) (by decide) (by decide) (by decide) (by decide)
   (zOo dL 28 29 30 35 35 1 1 zHt 0 true (Or.inl rfl) (by decide) (by decide) (by decide) (zBe (by decide) (by decide)) zOK (zBe (by decide) (by decide)) (by decide) (by decide)))
theorem zP6:zCn dL 0 37 0 zOU 2 false:=
 zIF dL 0 37 0 zOU 2 (by decide) (by decide) (by decide)
  (zMN dL 0 1 3 (at3 1 6 28) (at3 5 22 36) (at3 5 27 36) zQi (at3 0 1 1) (fun _=>false) 2 (by decide) (by decide)
   {m1:=by decide
    m3:=by decide
    b0:=zBe (by decide) (by decide)
    lt:=fun i hi=>by rcases (by omega:i=0 \/ i=1 \/ i=2) with rfl|rfl|rfl <;> decide
    rd:=fun i hi=>by
     rcases (by omega:i=0 \/ i=1 \/ i=2) with rfl|rfl|rfl
     ·exact zOn
     ·exact zO2
     ·exact zO4
    bt:=fun i hi=>by
     rcases (by omega:i=0 \/ i=1 \/ i=2) with rfl|rfl|rfl
     ·exact zBe (by decide) (by decide)
     ·exact⟨⟨1,by decide⟩,by decide,by decide⟩
     ·exact zBe (by decide) (by decide)
    rl:=fun i hi=>by rcases (by omega:i=0 \/ i=1 \/ i=2) with rfl|rfl|rfl <;> decide
    com:=fun i hi=>by
     rcases (by omega:i=0 \/ i=1) with rfl|rfl
     ·exact⟨by decide,zBe (by decide) (by decide),by decide⟩
     ·exact⟨by decide,zBe (by decide) (by decide),by decide⟩
    fin:=by decide }
   (fun i hi=>by rcases (by omega:i=0 \/ i=1 \/ i=2) with rfl|rfl|rfl <;> decide) ⟨1,by decide,by decide⟩)
theorem zN1:zOk bL 0 0 3 3:=
 zDX bL 0 0 3 3 (by decide) 91 (by decide) (by decide) (by decide)
  (zLI bL 0 1 (fun _=>1) (fun _=>2) (fun _=>3) (fun _=>zQz) (fun _=>0) (fun _=>true) (by decide) (by decide)
   {b0:=zBe (by decide) (by decide)
    lt:=fun i _=>⟨by decide,by decide⟩
    rd:=fun i _=>zKU bL 1 1 1 49 (by decide) (Or.inl rfl) (by decide) (by decide) (by decide) (by decide) (fun _=>by decide)
    bt:=fun i _=>⟨⟨1,by decide⟩,by decide,by decide⟩
    rl:=fun i _=>by decide
    bad:=⟨by decide,by decide⟩ })
theorem zND:zOU.txt=[91,110,117,108,108,44,32,123,49,58,32,104,39,48,48,102,102,39,125,44,32,49,40,49,46,53,41,93]:=by decide
theorem zLT{w:World}{N d:Nat}{v:Value}(h:zAU w N zOU d v)(h0:0<d):∃ (kind n:Int) (mb:Option Addr) (mn mc:Nat) (bits ext:Int) (text:List UInt8) (kb:Option Addr) (kc:Nat),v=.agg (zAa kind n false (.slice mb mn mc) bits ext (zAc text) (.slice kb 3 kc)):=by
 obtain⟨kind,n,mb,mn,mc,bits,ext,text,kb,kn,kc,rfl⟩:=h.cells;have hk:=zAU.kind h;obtain⟨kind',n',mag',bits',ext',text',kids',m,hv,hf,ht,⟨_,_,hd0⟩|⟨hm,b,o,cap,xs,ds,hk2,_,_,_,_,hT,_⟩⟩:=h
 ·omega
 ·simp only[Value.agg.injEq,zAa,Array.mk.injEq,List.cons.injEq,Value.int.injEq,Value.bool.injEq,Value.string.injEq,true_and,and_true] at hv;obtain⟨rfl,rfl,-,-,-,-,hkk⟩:=hv;rw[hk2] at hkk;simp only[Value.slice.injEq] at hkk;obtain⟨rfl,rfl,rfl⟩:=hkk
  have h4:kn<=3:=by
   rcases Nat.lt_or_ge 3 kn with h5|h5
   ·exact absurd (hT 3 h5).1 (fun h=>h)
   ·exact h5
  have h3:kn=3:=by
   rcases hk with ⟨h,_⟩|⟨_,h7|h8|h9⟩
   ·omega
   ·have:=ht.2.2.2.2.1 h7;rcases (by omega:kn=1 \/ kn=2 \/ kn=3) with rfl|rfl|rfl
    ·exact absurd this (by decide)
    ·exact absurd this (by decide)
    ·rfl
   ·have:=ht.2.2.2.2.2.1 h8;rcases (by omega:kn=1 \/ kn=2 \/ kn=3) with rfl|rfl|rfl
    ·exact absurd this (by decide)
    ·exact absurd this (by decide)
    ·rfl
   ·have:=ht.2.2.2.2.2.2 h9
    split at this
    all_goals (
     rcases (by omega:kn=1 \/ kn=2 \/ kn=3) with rfl|rfl|rfl
     ·exact absurd this (by decide)
     ·exact absurd this (by decide)
     ·rfl)
  subst h3;exact⟨_,_,_,_,_,_,_,_,_,_,rfl⟩
theorem zJJ(e:Nat->Addr)(w:World)(hG:GW w)(hE:zCB e w):Calls Tryz.prog 4 #[] w fun r w'=>r=.returned (.bool true)/\Below w.heap.size w w':=by
 have HRD:=zz (zOj dL 0 37 2 zOU false (by decide) (zBe (by decide) (by decide)) zP6 (Btw.none (fun h=>absurd h (by decide)) (by decide)) w hG);have HG:=zz hG;have HE:=zz hE;have HS:=zz hG.size;clear hG hE;go_enter Tryz.func4,Tryz.ntmps4
 go_wp2_with fail
 change Calls _ _ #[.string (zAc dL)] _ _;refine HRD.out.mono ?_;rintro r w1 ⟨v,rfl,hb1,hT1⟩;have hTr:=zAm.toN (N:=w1.heap.size) (fun b _ h=>h) _ _ _ hT1;obtain⟨kind,n,mb,mn,mc,bits,ext,text,kb,kc,rfl⟩:=zLT hTr (by decide);obtain⟨w2,hw2⟩:∃ w2,w2=w1.alloc (.cells (zAa kind n false (.slice mb mn mc) bits ext (zAc text) (.slice kb 3 kc)) 31):=⟨_,rfl⟩;have hb2:Below w1.heap.size w1 w2:=by rw[hw2];exact (zK _ _).alloc (zQ _) _
 have hV2:Blk w2 w1.heap.size (zAa kind n false (.slice mb mn mc) bits ext (zAc text) (.slice kb 3 kc)) 31:=by rw[hw2];exact Blk.new _ _ _
 have hb02:=hb1.trans (hb2.mono hb1.size);have HT2:=zz ((zAU.below hb2 _ _ _ hTr).mono hb2.size);have HV2:=zz hV2;have HB2:=zz hb02;have HW2:=zz hw2;have HQ:Hid (w.heap.size<=w1.heap.size):=zz hb1.size;have HSH:=zz (zLM w2 (HG.out.step hb02) zOU 2 _ HT2.out (by decide) (by decide) (by decide));rw[zND,show zAc [91,110,117,108,108,44,32,123,49,58,32,104,39,48,48,102,102,39,125,44,32,49,40,49,46,53,41,93]=⟨#[91,110,117,108,108,44,32,123,49,58,32,104,39,48,48,102,102,39,125,44,32,49,40,49,46,53,41,93]⟩ from rfl] at HSH;clear hTr hT1 hb1 hb2 hV2 hb02 hw2 HRD;have x0:w2.cell? ⟨w1.heap.size,0,none⟩=some (.int .i8 kind):=HV2.out.cell 0;have x1:w2.cell? ⟨w1.heap.size,1,none⟩=some (.int .u64 n):=HV2.out.cell 1;have x2:w2.cell? ⟨w1.heap.size,2,none⟩=some (.bool false):=HV2.out.cell 2;have x3:w2.cell? ⟨w1.heap.size,3,none⟩=some (.slice mb mn mc):=HV2.out.cell 3;have x4:w2.cell? ⟨w1.heap.size,4,none⟩=some (.int .u64 bits):=HV2.out.cell 4;have x5:w2.cell? ⟨w1.heap.size,5,none⟩=some (.int .i8 ext):=HV2.out.cell 5;have x6:w2.cell? ⟨w1.heap.size,6,none⟩=some (.string (zAc text)):=HV2.out.cell 6;have x7:w2.cell? ⟨w1.heap.size,7,none⟩=some (.slice kb 3 kc):=HV2.out.cell 7;unfold zAa;go_upto_region 3 with fail
 change Code.wp _ _ _ _ (w1.alloc (.cells (zAa kind n false (.slice mb mn mc) bits ext (zAc text) (.slice kb 3 kc)) 31));rw[<-HW2.out];go_wp2_with fail
 refine HSH.out.mono ?_;rintro r w3 ⟨rfl,hb3⟩;have HV3:=zz (HV2.out.below hb3 HV2.out.lt);have HB3:=zz (HB2.out.trans (hb3.mono HB2.out.size));clear x0 x1 x2 x3 x4 x5 x6 x7 hb3 HSH HT2 HV2 HB2 HW2;have HRS:=zz (zLn e bL 0 3 3 (Or.inl rfl) (by decide) (zBe (by decide) (by decide)) zN1 w3 (HG.out.step HB3.out) (HE.out.step HB3.out HS.out));go_wp2_with fail
 change Calls _ _ #[.string (zAc bL)] _ _;refine HRS.out.mono ?_;rintro r w4 ⟨ev,rfl,hb4,hf4⟩;obtain⟨w5,hw5⟩:∃ w5,w5=w4.alloc (.cells zAr 31):=⟨_,rfl⟩;have hb5:Below w4.heap.size w4 w5:=by rw[hw5];exact (zK _ _).alloc (zQ _) _
 have hb35:=hb4.trans (hb5.mono hb4.size);have HV5:=zz (HV3.out.below hb35 HV3.out.lt);have HB5:=zz (HB3.out.trans (hb35.mono HB3.out.size));have HIA:=zz (zIu e w5 (HE.out.step HB5.out HS.out) (Nat.lt_of_lt_of_le HS.out HB5.out.size) 3 3 (Or.inl rfl) ev (hf4.step hb5));have HW5:=zz hw5;clear hb4 hf4 hw5 hb5 hb35 HV3 HB3 HRS;have x7:w5.cell? ⟨w1.heap.size,7,none⟩=some (.slice kb 3 kc):=HV5.out.cell 7;unfold zAr;go_upto_region 5 with fail
 change Code.wp _ _ _ _ (w4.alloc (.cells zAr 31));rw[<-HW5.out];go_wp2_with fail
 refine HIA.out.mono ?_;rintro r w6 ⟨rfl,hb6⟩;have HB6:=zz (HB5.out.trans (hb6.mono HB5.out.size));clear hb6 HIA;go_wp2;go_ret;exact⟨rfl,HB6.out⟩
theorem zME{l1 l2:List Nat}(hl:l1.length=l2.length)(h:∀ j,j<l1.length->l1.getD j 0=l2.getD j 0):l1=l2:=by
 apply List.ext_getElem hl;intro j h1 h2;have:=h j h1;rw[zw,zw,zZ h1,zZ h2] at this;exact this
theorem zGV(w:World)(v1 v2:Value)(l1 l2:List Nat)(h1:zAf w v1 l1)(h2:zAf w v2 l2)(hl:l1.length<=1048576)(hl2:l2.length<=1048576):
  Calls Tryz.prog 47 #[v1,v2] w fun e w'=>IsB (fun B=>B=true ↔ l1=l2) e/\Below w.heap.size w w':=by
 obtain⟨b1,c1,rfl⟩:=h1.slice;obtain⟨b2,c2,rfl⟩:=h2.slice;by_cases hn:l1.length=l2.length
 ·obtain⟨n,hn1⟩:∃ n,n=l1.length:=⟨_,rfl⟩;have hn2:n=l2.length:=by omega
  have HL1:=zz h1;have HL2:=zz h2;have HN:=zz (And.intro hn1 hn2);have hnb:n<=1048576:=by omega
  rw[<-hn1,<-hn2];rw[<-hn1] at HL1;rw[<-hn2] at HL2;clear h1 h2 hn1 hn2 hn hl hl2;go_enter Tryz.func47,Tryz.ntmps47
  go_wp2;go_loopw [5] (fun iv wr=>∃ i:Nat,i<=n/\iv=.int .i64 (i:Int)/\Hid (∀ j,j<i->l1.getD j 0=l2.getD j 0)/\Hid (Below w.heap.size w wr)) (fun iv _=>n - (intOf iv).toNat)
  case atStart=>exact⟨0,by omega,rfl,zz (fun j h=>by omega),zz (zK _ _)⟩
  case round=>
   obtain⟨i,hi,rfl,HQ,HB⟩:=hrel;by_cases hin:i<n
   ·have g1:(i:Int)<(n:Int):=by omega
    obtain⟨k1,o1,p1,hv1,d1⟩:∃ k1 o1 p1,Value.slice b1 n c1=.slice (some ⟨k1,o1,none⟩) n p1/\wr.cell? ⟨k1,o1+i,none⟩=some (.int .u32 (l1.getD i 0:Nat)):=by
     obtain⟨_,⟨_,hy⟩|⟨blk,off,cap,hv,q1,q2,q3,q4⟩⟩:=HL1.out.below HB.out
     ·have:=HN.out.1;rw[hy] at this;simp at this;omega
     ·exact⟨blk,off,cap,by rw[hv,<-HN.out.1],q4 i (by rw[<-HN.out.1];exact hin)⟩
    obtain⟨k2,o2,p2,hv2,d2⟩:∃ k2 o2 p2,Value.slice b2 n c2=.slice (some ⟨k2,o2,none⟩) n p2/\wr.cell? ⟨k2,o2+i,none⟩=some (.int .u32 (l2.getD i 0:Nat)):=by
     obtain⟨_,⟨_,hy⟩|⟨blk,off,cap,hv,q1,q2,q3,q4⟩⟩:=HL2.out.below HB.out
     ·have:=HN.out.2;rw[hy] at this;simp at this;omega
     ·exact⟨blk,off,cap,by rw[hv,<-HN.out.2],q4 i (by rw[<-HN.out.2];exact hin)⟩
    simp only[Value.slice.injEq,true_and] at hv1 hv2;obtain⟨rfl,rfl⟩:=hv1;obtain⟨rfl,rfl⟩:=hv2;by_cases he:l1.getD i 0=l2.getD i 0
    ·have HQ2:Hid (∀ j,j<i+1->l1.getD j 0=l2.getD j 0):=zz (fun j hj=>by
      rcases Nat.lt_or_ge j i with h|h
      ·exact HQ.out j h
      ·rw[show j=i by omega];exact he)
     rw[<-he] at d2;generalize ((l1.getD i 0:Nat):Int)=y at d1 d2;clear he;go_upto_region 6 with fail
     go_quiet (fail)
     have HBq:=zz (zAd HB.out nq);go_wp2;go_roundw
     case rel=>exact⟨i+1,by omega,by simp,HQ2,HBq⟩
     case measure=>simp[intOf];omega
    ·have hne:(((l1.getD i 0:Nat):Int) != ((l2.getD i 0:Nat):Int))=true:=bne_iff_ne.2 (by omega);have HF:Hid (l1≠l2):=zz (fun e=>he (by rw[e]));generalize ((l1.getD i 0:Nat):Int)=y at d1 hne;generalize ((l2.getD i 0:Nat):Int)=z at d2 hne;clear he;go_upto_region 6 with fail
     go_quiet (fail)
     have HBq:=zz (zAd HB.out nq);go_wp2;go_ret;exact⟨IsB.mk false rfl ⟨fun h=>Bool.noConfusion h,fun h=>absurd h HF.out⟩,HBq.out⟩
   ·obtain rfl:i=n:=by omega
    have g1:¬ (i:Int)<(i:Int):=by omega
    have HT:Hid (l1=l2):=zz (zME (by have:=HN.out;omega) (fun j hj=>HQ.out j (by have:=HN.out;omega)));go_wp2;go_ret;exact⟨IsB.mk true rfl ⟨fun _=>HT.out,fun _=>rfl⟩,HB.out⟩
 ·have hne:((l1.length:Int) != (l2.length:Int))=true:=bne_iff_ne.2 (by omega);have HF:Hid (l1≠l2):=zz (fun e=>hn (by rw[e]));generalize l1.length=n1 at hne ⊢;generalize l2.length=n2 at hne ⊢;clear h1 h2 hn hl hl2;go_enter Tryz.func47,Tryz.ntmps47
  go_wp2;go_ret;exact⟨IsB.mk false rfl ⟨fun h=>Bool.noConfusion h,fun h=>absurd h HF.out⟩,zK _ _⟩
theorem zG8(w:World)(p1 p2:Bool)(v1 v2:Value)(l1 l2:List Nat)(h1:zAf w v1 l1)(h2:zAf w v2 l2)(hl:l1.length<=1048576)(hl2:l2.length<=1048576):
  Calls Tryz.prog 16 #[.agg #[.bool p1,v1],.agg #[.bool p2,v2]] w fun e w'=>IsB (fun B=>B=true ↔ (p1=p2/\l1=l2)) e/\Below w.heap.size w w':=by
 have hb:Below w.heap.size w ((w.alloc (.cells #[.bool p1,v1] 28)).alloc (.cells #[.bool p2,v2] 28)):=((zK _ _).alloc (zQ _) _).alloc (by simp) _;have HSN:=zz (zGV _ v1 v2 l1 l2 (h1.below hb) (h2.below hb) hl hl2);have HB:=zz hb;obtain⟨b1,c1,rfl⟩:=h1.slice;obtain⟨b2,c2,rfl⟩:=h2.slice;clear hb h1 h2 hl hl2;by_cases hp:p1=p2
 ·subst hp;have hq:(p1 == p1)=true:=by simp
  go_enter Tryz.func16,Tryz.ntmps16
  go_wp2_with fail
  refine HSN.out.mono ?_;rintro r w' ⟨⟨B,rfl,hB⟩,hb9⟩;have HB9:=zz (HB.out.trans (hb9.mono HB.out.size));have HBB:=zz hB;clear hb9 hB HSN;go_wp2;go_ret;exact⟨IsB.mk B rfl ⟨fun h=>⟨(by first|trivial|rfl),HBB.out.1 h⟩,fun h=>HBB.out.2 h.2⟩,HB9.out⟩
 ·have hq:(p1 == p2)=false:=beq_eq_false_iff_ne.2 hp;have HF:=zz hp;clear HSN hp;go_enter Tryz.func16,Tryz.ntmps16
  go_wp2;go_ret;exact⟨IsB.mk false rfl ⟨fun h=>Bool.noConfusion h,fun h=>absurd h.1 HF.out⟩,HB.out⟩
def zNo(f g:VT):Prop:=∀ (w:World) (N:Nat) (v u:Value) (d:Nat),N<=w.heap.size->zAl w N f v->zAl w N g u->f.small d->g.small d->f.good->g.good ->
 Calls Tryz.prog 7 #[v,u] w fun e w'=>IsB (fun B=>B=true ↔ f.same g) e/\Below w.heap.size w w'
theorem zGd(w:World)(N m k d:Nat)(hN:N<=w.heap.size)(b o cap b2 o2 cap2:Nat)(kb kb2:Option Addr)(xs ys:Nat->Array Value)(fs gs:Nat->VT)(hb:0<m->kb=some ⟨b,o,none⟩/\b<N/\zBO w b o m xs)(hb2:0<k->kb2=some ⟨b2,o2,none⟩/\b2<N/\zBO w b2 o2 k ys)
  (hm:m<=1048576) (hk:k<=1048576) (hf:∀ i,i<m->zAl w N (fs i) (.agg (xs i))/\(fs i).small d/\(fs i).good) (hg:∀ i,i<k->zAl w N (gs i) (.agg (ys i))/\(gs i).small d/\(gs i).good) (hI:∀ i,i<m->∀ g,zNo (fs i) g) :
  Calls Tryz.prog 17 #[.slice kb m cap,.slice kb2 k cap2] w fun e w'=>IsB (fun B=>B=true ↔ (m=k/\∀ i,i<m->(fs i).same (gs i))) e/\Below w.heap.size w w':=by
 by_cases hmk:m=k
 ·subst hmk;have HB:=zz hb;have HB2:=zz hb2;have HF:=zz hf;have HGG:=zz hg;have HI:=zz hI;have HN:=zz hN;have hne:((m:Int) != (m:Int))=false:=by simp
  clear hb hb2 hf hg hI hN hk;go_enter Tryz.func17,Tryz.ntmps17
  go_wp2;go_loopw [5] (fun iv wr=>∃ i:Nat,i<=m/\iv=.int .i64 (i:Int)/\Hid (∀ j,j<i->(fs j).same (gs j))/\Hid (Below w.heap.size w wr)) (fun iv _=>m - (intOf iv).toNat)
  case atStart=>exact⟨0,by omega,rfl,zz (fun j h=>by omega),zz (zK _ _)⟩
  case round=>
   obtain⟨i,hi,rfl,HQ,HBr⟩:=hrel;by_cases h1:i<m
   ·have hI:(i:Int)<(m:Int):=by omega
    obtain⟨rfl,hbN,hrow⟩:=HB.out (by omega);obtain⟨rfl,hbN2,hrow2⟩:=HB2.out (by omega);have hT1:=zAl.below (HBr.out.mono HN.out) _ _ (HF.out i h1).1;have hT2:=zAl.below (HBr.out.mono HN.out) _ _ (HGG.out i h1).1;obtain⟨_,hx1⟩:=(hrow.below (HBr.out.mono HN.out) hbN) i h1;obtain⟨_,hx2⟩:=(hrow2.below (HBr.out.mono HN.out) hbN2) i h1
    have HC:Hid (∀ w',Below wr.heap.size wr w'->Calls Tryz.prog 7 #[.agg (xs i),.agg (ys i)] w' fun e w''=>IsB (fun B=>B=true ↔ (fs i).same (gs i)) e/\Below w'.heap.size w' w''):=zz (fun w' hb'=>by
     have hbb:=HBr.out.trans (hb'.mono HBr.out.size);exact HI.out i h1 (gs i) w' N _ _ d (zJ HN.out hbb.size) (zAl.below (hb'.mono (zJ HN.out HBr.out.size)) _ _ hT1) (zAl.below (hb'.mono (zJ HN.out HBr.out.size)) _ _ hT2) (HF.out i h1).2.1 (HGG.out i h1).2.1 (HF.out i h1).2.2 (HGG.out i h1).2.2)
    obtain⟨a1,kind1,mb1,mn1,mc1,kb1,kn1,kc1,hxk1⟩:=hT1.cells;obtain⟨a2,kind2,mb2,mn2,mc2,kb2,kn2,kc2,hxk2⟩:=hT2.cells;simp only[Value.agg.injEq] at hxk1 hxk2;rw[hxk1] at hx1 HC;rw[hxk2] at hx2 HC;have d0:=hx1 0 (by omega);have d1:=hx1 1 (by omega);have d2:=hx1 2 (by omega);have d3:=hx1 3 (by omega);have d4:=hx1 4 (by omega);have d5:=hx1 5 (by omega);have d6:=hx1 6 (by omega);have d7:=hx1 7 (by omega);have e0:=hx2 0 (by omega);have e1:=hx2 1 (by omega);have e2:=hx2 2 (by omega);have e3:=hx2 3 (by omega);have e4:=hx2 4 (by omega);have e5:=hx2 5 (by omega);have e6:=hx2 6 (by omega);have e7:=hx2 7 (by omega);simp only[zAh,zAa,zv,zk,zx,Nat.add_zero] at d0 d1 d2 d3 d4 d5 d6 d7 e0 e1 e2 e3 e4 e5 e6 e7;simp only[zAh,zAa] at HC;clear hx1 hx2 hxk1 hxk2 hT1 hT2 hrow hrow2;have hin:=h1;have HIN:=zz hin;clear hin;go_upto_region 6 with fail
    go_cut [26] from 16 to 26 (fun bv wx=>(∃ B:Bool,bv=.bool (!B)/\Hid (B=true ↔ (fs i).same (gs i)))/\Hid (Below wr.heap.size wr wx))
    case first=>
     go_region_with (go_at_call 7;go_must (refine (HC.out _ (zAd (zK wr.heap.size wr) 1)).mono ?_;rintro e w9 ⟨⟨B,rfl,hB⟩,hb9⟩))
     all_goals (
      have HB9:=zz ((zAd (zK wr.heap.size wr) 1).trans hb9);have HBB:=zz hB;clear hb9 hB d0 d1 d2 d3 d4 d5 d6 d7 e0 e1 e2 e3 e4 e5 e6 e7;go_wp2;go_meet
      exact⟨⟨B,rfl,HBB⟩,HB9⟩)
    case rest=>
    obtain⟨⟨B,rfl,HBB⟩,HB9⟩:=hcut;have HBz:=zz (HBr.out.trans (HB9.out.mono HBr.out.size));clear d0 d1 d2 d3 d4 d5 d6 d7 e0 e1 e2 e3 e4 e5 e6 e7 HC
    cases B with
    | false=>
     have HF0:Hid (¬ (fs i).same (gs i)):=zz (fun h=>by have:=HBB.out.2 h;cases this);go_wp2;go_ret
     exact⟨IsB.mk false rfl ⟨fun h=>Bool.noConfusion h,fun h=>absurd (by first|exact h.2 i HIN.out|exact h i HIN.out) HF0.out⟩,HBz.out⟩
    | true=>
     have HQ2:Hid (∀ j,j<i+1->(fs j).same (gs j)):=zz (fun j hj=>by
      rcases Nat.lt_or_ge j i with h|h
      ·exact HQ.out j h
      ·rw[show j=i by omega];exact HBB.out.1 rfl)
     go_wp2;go_roundw
     case rel=>exact⟨i+1,by have:=HIN.out;omega,by simp,HQ2,HBz⟩
     case measure=>have:=HIN.out;simp[intOf];omega
   ·obtain rfl:i=m:=by omega
    have hI:¬ (i:Int)<(i:Int):=by omega
    go_wp2;go_ret;exact⟨IsB.mk true rfl ⟨fun _=>(by first|exact HQ.out|exact⟨rfl,HQ.out⟩),fun _=>rfl⟩,HBr.out⟩
 ·have hne:((m:Int) != (k:Int))=true:=bne_iff_ne.2 (by omega);have HMK:=zz hmk;clear hb hb2 hf hg hI hmk;go_enter Tryz.func17,Tryz.ntmps17
  go_wp2;go_ret;exact⟨IsB.mk false rfl ⟨fun h=>Bool.noConfusion h,fun h=>absurd h.1 HMK.out⟩,zK _ _⟩
theorem zCq(l:List UInt8):(zAc l).toList=l:=by
 rw[ByteArray.toList_eq];rfl
theorem zF4{f:VA}{m:Nat}{kind:Int}(h:f.ok m)(hf:f.fit kind):kind=(f.kind:Int):=by
 have:=VA.kind_pos h;have:=hf.1;omega
theorem zFN(w:World)(N d:Nat)(hN:N<=w.heap.size)(a a2:VA)(kind kind2:Int)(hfit:a.fit kind)(hfit2:a2.fit kind2)(hok:kind=(a.kind:Int))(hok2:kind2=(a2.kind:Int))(mb mb2:Option Addr)(mc mc2:Nat)
  (hmag:zAf w (.slice mb a.mag.length mc) a.mag) (hmag2:zAf w (.slice mb2 a2.mag.length mc2) a2.mag) (hla:a.mag.length<=1048576) (hla2:a2.mag.length<=1048576) (S:Prop)
  (kb kb2:Option Addr) (m k cap cap2:Nat) (hS:∀ w',Below w.heap.size w w'->Calls Tryz.prog 17 #[.slice kb m cap,.slice kb2 k cap2] w' fun e w''=>IsB (fun B=>B=true ↔ S) e/\Below w'.heap.size w' w'') :
  Calls Tryz.prog 7 #[.agg (zAh a kind (.slice mb a.mag.length mc) (.slice kb m cap)),.agg (zAh a2 kind2 (.slice mb2 a2.mag.length mc2) (.slice kb2 k cap2))] w fun e w'=>IsB (fun B=>B=true ↔ (a=a2/\S)) e/\Below w.heap.size w w':=by
 obtain⟨w2,hw2⟩:∃ w2,w2=(w.alloc (.cells (zAh a kind (.slice mb a.mag.length mc) (.slice kb m cap)) 31)).alloc (.cells (zAh a2 kind2 (.slice mb2 a2.mag.length mc2) (.slice kb2 k cap2)) 31):=⟨_,rfl⟩;have hb:Below w.heap.size w w2:=by rw[hw2];exact ((zK _ _).alloc (zQ _) _).alloc (by simp) _
 have h0:Blk w2 w.heap.size (zAh a kind (.slice mb a.mag.length mc) (.slice kb m cap)) 31:=by rw[hw2];exact (Blk.new _ _ _).alloc _
 have h1:Blk w2 (w.heap.size+1) (zAh a2 kind2 (.slice mb2 a2.mag.length mc2) (.slice kb2 k cap2)) 31:=by
  have:=Blk.new (w.alloc (.cells (zAh a kind (.slice mb a.mag.length mc) (.slice kb m cap)) 31)) (zAh a2 kind2 (.slice mb2 a2.mag.length mc2) (.slice kb2 k cap2)) 31;rw[show (w.alloc (.cells (zAh a kind (.slice mb a.mag.length mc) (.slice kb m cap)) 31)).heap.size=w.heap.size+1 by simp] at this;rw[hw2];exact this
 have HSI:=zz (zG8 w2 a.neg a2.neg _ _ a.mag a2.mag (hmag.below hb) (hmag2.below hb) hla hla2);have HSV:Hid (∀ w',Below w2.heap.size w2 w'->Calls Tryz.prog 17 #[.slice kb m cap,.slice kb2 k cap2] w' fun e w''=>IsB (fun B=>B=true ↔ S) e/\Below w'.heap.size w' w''):=zz (fun w' h=>hS w' (hb.trans (h.mono hb.size)));have HB:=zz hb;have HW:=zz hw2;have H0:=zz h0;have H1:=zz h1;have HOK:=zz (And.intro hok hok2);clear hb hS hmag hmag2 hla hla2 hok hok2;have a0:=h0.cell 0;have a1:=h0.cell 1;have a2':=h0.cell 2;have a3:=h0.cell 3;have a4:=h0.cell 4;have a5:=h0.cell 5;have a6:=h0.cell 6;have a7:=h0.cell 7;have b0:=h1.cell 0;have b1:=h1.cell 1;have b2:=h1.cell 2;have b3:=h1.cell 3;have b4:=h1.cell 4;have b5:=h1.cell 5;have b6:=h1.cell 6;have b7:=h1.cell 7;simp only[zAh,zAa,zv,zk,zx] at a0 a1 a2' a3 a4 a5 a6 a7 b0 b1 b2 b3 b4 b5 b6 b7
 have HEQ:Hid (a=a2 ↔ (kind=kind2/\a.n=a2.n/\a.bits=a2.bits/\a.ext=a2.ext/\a.text=a2.text/\a.neg=a2.neg/\a.mag=a2.mag)):=zz (by
  constructor
  ·rintro rfl;exact⟨by rw[HOK.out.1,HOK.out.2],rfl,rfl,rfl,rfl,rfl,rfl⟩
  ·rintro⟨e1,e2,e3,e4,e5,e6,e7⟩;have e0:a.kind=a2.kind:=by have:=HOK.out.1;have:=HOK.out.2;omega
   cases a;cases a2;simp only at e0 e2 e3 e4 e5 e6 e7;simp[e0,e2,e3,e4,e5,e6,e7])
 clear h0 h1 hw2 hfit hfit2;unfold zAh zAa;go_enter Tryz.func7,Tryz.ntmps7
 go_upto_region 1 with fail
 change Code.wp _ _ _ _ ((w.alloc (.cells (zAh a kind (.slice mb a.mag.length mc) (.slice kb m cap)) 31)).alloc (.cells (zAh a2 kind2 (.slice mb2 a2.mag.length mc2) (.slice kb2 k cap2)) 31));rw[<-HW.out];by_cases e1:kind=kind2
 case neg=>
  have q1:(kind == kind2)=false:=beq_eq_false_iff_ne.2 e1;have HF:Hid (¬ (a=a2/\S)):=zz (fun h=>e1 ((HEQ.out.1 h.1).1));clear HSI HSV HEQ e1;go_wp2;go_ret;exact⟨IsB.mk false rfl ⟨fun h=>Bool.noConfusion h,fun h=>absurd h HF.out⟩,HB.out⟩
 have q1:(kind == kind2)=true:=beq_iff_eq.2 e1;by_cases e2:a.n=a2.n
 case neg=>
  have q2:((a.n:Int) == (a2.n:Int))=false:=beq_eq_false_iff_ne.2 (fun h=>e2 (by omega));have HF:Hid (¬ (a=a2/\S)):=zz (fun h=>e2 ((HEQ.out.1 h.1).2.1));clear HSI HSV HEQ e2;go_wp2;go_ret;exact⟨IsB.mk false rfl ⟨fun h=>Bool.noConfusion h,fun h=>absurd h HF.out⟩,HB.out⟩
 have q2:((a.n:Int) == (a2.n:Int))=true:=beq_iff_eq.2 (by rw[e2]);by_cases e3:a.bits=a2.bits
 case neg=>
  have q3:((a.bits:Int) == (a2.bits:Int))=false:=beq_eq_false_iff_ne.2 (fun h=>e3 (by omega));have HF:Hid (¬ (a=a2/\S)):=zz (fun h=>e3 ((HEQ.out.1 h.1).2.2.1));clear HSI HSV HEQ e3;go_wp2;go_ret;exact⟨IsB.mk false rfl ⟨fun h=>Bool.noConfusion h,fun h=>absurd h HF.out⟩,HB.out⟩
 have q3:((a.bits:Int) == (a2.bits:Int))=true:=beq_iff_eq.2 (by rw[e3]);by_cases e4:a.ext=a2.ext
 case neg=>
  have q4:(a.ext == a2.ext)=false:=beq_eq_false_iff_ne.2 e4;have HF:Hid (¬ (a=a2/\S)):=zz (fun h=>e4 ((HEQ.out.1 h.1).2.2.2.1));clear HSI HSV HEQ e4;go_wp2;go_ret;exact⟨IsB.mk false rfl ⟨fun h=>Bool.noConfusion h,fun h=>absurd h HF.out⟩,HB.out⟩
 have q4:(a.ext == a2.ext)=true:=beq_iff_eq.2 e4;by_cases e5:a.text=a2.text
 case neg=>
  have q5:((zAc a.text).toList == (zAc a2.text).toList)=false:=beq_eq_false_iff_ne.2 (fun h=>e5 (by rw[zCq,zCq] at h;exact h));have HF:Hid (¬ (a=a2/\S)):=zz (fun h=>e5 ((HEQ.out.1 h.1).2.2.2.2.1));clear HSI HSV HEQ e5;go_wp2;go_ret;exact⟨IsB.mk false rfl ⟨fun h=>Bool.noConfusion h,fun h=>absurd h HF.out⟩,HB.out⟩
 have q5:((zAc a.text).toList == (zAc a2.text).toList)=true:=beq_iff_eq.2 (by rw[e5]);have HE:=zz (And.intro e1 (And.intro e2 (And.intro e3 (And.intro e4 e5))));clear e1 e2 e3 e4 e5;go_wp2_with fail
 refine HSI.out.mono ?_;rintro r w3 ⟨⟨B,rfl,hB⟩,hb3⟩;have HBI:=zz hB;have HB3:=zz (HB.out.trans (hb3.mono HB.out.size));have HSV3:=zz (HSV.out w3 hb3);have h03:=H0.out.below hb3 H0.out.lt;have h13:=H1.out.below hb3 H1.out.lt;have c7:=h03.cell 7;have d7:=h13.cell 7;simp only[zAh,zAa,zv,zk,zx] at c7 d7;clear a0 a1 a2' a3 a4 a5 a6 a7 b0 b1 b2 b3 b4 b5 b6 b7 hb3 h03 h13 hB HSI HSV
 cases B with
 | false=>
  have HF:Hid (¬ (a=a2/\S)):=zz (fun h=>by have h6:=HEQ.out.1 h.1;have:=HBI.out.2 ⟨h6.2.2.2.2.2.1,h6.2.2.2.2.2.2⟩;cases this);clear HSV3 HEQ HBI;go_wp2;go_ret
  exact⟨IsB.mk false rfl ⟨fun h=>Bool.noConfusion h,fun h=>absurd h HF.out⟩,HB3.out⟩
 | true=>
  have HAE:Hid (a=a2):=zz (HEQ.out.2 ⟨HE.out.1,HE.out.2.1,HE.out.2.2.1,HE.out.2.2.2.1,HE.out.2.2.2.2,(HBI.out.1 rfl).1,(HBI.out.1 rfl).2⟩);go_wp2_with fail
  refine HSV3.out.mono ?_;rintro r w4 ⟨⟨B,rfl,hB⟩,hb4⟩;have HBS:=zz hB;have HB4:=zz (HB3.out.trans (hb4.mono HB3.out.size));clear hB hb4 HSV3;go_wp2;go_ret;exact⟨IsB.mk B rfl ⟨fun h=>⟨HAE.out,HBS.out.1 h⟩,fun h=>HBS.out.2 h.2⟩,HB4.out⟩
theorem zFr:∀ (f g:VT),zNo f g
 | .stop,g=>fun w N v u d hN h=>h.elim
 | .node a m fs,.stop=>fun w N v u d hN h h2=>h2.elim
 | .node a m fs,.node b k gs=>fun w N v u d hN h h2 hs hs2 g1 g2=>by
  obtain⟨kind,mag,kb,cap,rfl,hfit,hmag,hc1,hc2,hkids⟩:=h;obtain⟨kind2,mag2,kb2,cap2,rfl,hfit2,hmag2,hc3,hc4,hkids2⟩:=h2;obtain⟨s1,s2,s3,s4⟩:=hs;obtain⟨t1,t2,t3,t4⟩:=hs2;have hl:=hmag.1;have hl2:=hmag2.1;obtain⟨mb,mc,rfl⟩:=hl.slice;obtain⟨mb2,mc2,rfl⟩:=hl2.slice;refine (zFN w N d hN a b kind kind2 hfit hfit2 (zF4 g1.1 hfit) (zF4 g2.1 hfit2) mb mb2 mc mc2 hl hl2 s1 t1 (m=k/\∀ i,i<m->(fs i).same (gs i)) kb kb2 m k cap cap2 (fun w' hb=>?_)).mono (fun e w' h=>?_)
  ·obtain⟨b1,o1,xs,hx⟩:∃ b1 o1 xs,(0<m->kb=some ⟨b1,o1,none⟩/\b1<N/\zBO w' b1 o1 m xs)/\(∀ i,i<m->zAl w' N (fs i) (.agg (xs i))):=by
    rcases hkids with h|⟨b1,o1,xs,hk,h3,h4,h5⟩
    ·exact⟨0,0,fun _=>#[],fun h'=>by omega,fun i hi=>by omega⟩
    ·exact⟨b1,o1,xs,fun _=>⟨hk,h3,h4.below (hb.mono hN) h3⟩,fun i hi=>zAl.below (hb.mono hN) _ _ (h5 i hi)⟩
   obtain⟨b2,o2,ys,hy⟩:∃ b1 o1 xs,(0<k->kb2=some ⟨b1,o1,none⟩/\b1<N/\zBO w' b1 o1 k xs)/\(∀ i,i<k->zAl w' N (gs i) (.agg (xs i))):=by
    rcases hkids2 with h|⟨b1,o1,xs,hk,h3,h4,h5⟩
    ·exact⟨0,0,fun _=>#[],fun h'=>by omega,fun i hi=>by omega⟩
    ·exact⟨b1,o1,xs,fun _=>⟨hk,h3,h4.below (hb.mono hN) h3⟩,fun i hi=>zAl.below (hb.mono hN) _ _ (h5 i hi)⟩
   exact zGd w' N m k (d - 1) (zJ hN hb.size) b1 o1 cap b2 o2 cap2 kb kb2 xs ys fs gs hx.1 hy.1 s3 t3 (fun i hi=>⟨hx.2 i hi,(s4 i hi).2,g1.2.2 i hi⟩) (fun i hi=>⟨hy.2 i hi,(t4 i hi).2,g2.2.2 i hi⟩) (fun i _ g=>zFr (fs i) g)
  ·exact h
end Go.Proofs.YtcanfakaigpkgaaGreatDoor.D
