/-
  Of the proof that the law DiagUnlike answers true at every two values: a part, without conditions of its own.
-/
import Derived.Test.YtcanfakaigpkgaaGreatDoorPart25
set_option linter.unusedVariables false
set_option linter.unusedSimpArgs false
set_option maxRecDepth 100000
set_option maxHeartbeats 8000000
namespace Go.Proofs.YtcanfakaigpkgaaGreatDoor.D
open Go Go.RowKit Limb
def VA.fine(a:VA)(m:Nat):Prop:=a.ok m/\(a.kind=4->a.bits<18446744073709551616/\zGE a.bits)/\(a.kind=5->zFL a.text a.text.length 0=a.text.length)
theorem zDO{a:VA}{k n:Nat}{neg:Bool}{mag:List Nat}{bits:Nat}{ext:Int}{text:List UInt8}(h1:a.kind=k)(h2:a.n=n)(h3:a.neg=neg)(h4:a.mag=mag)(h5:a.bits=bits)(h6:a.ext=ext)(h7:a.text=text):a=⟨k,n,neg,mag,bits,ext,text⟩:=by
 cases a;simp only at h1 h2 h3 h4 h5 h6 h7;subst h1;subst h2;subst h3;subst h4;subst h5;subst h6;subst h7;rfl
theorem zBG{α:Type}{l:List α}(h:l.length=0):l=[]:=List.eq_nil_of_length_eq_zero h
def zQE(a:VA)(m:Nat)(okb:Bool)(n':Nat)(neg':Bool)(mn:Nat)(bits':Nat)(ext':Int)(text':List UInt8)(kn:Nat):Prop:=
 okb=true->n'=0->neg'=false->mn=0->bits'=0->ext'=0->text'=[]->kn=0->a.fine m
theorem zI0(w:World)(hG:GV w)(N:Nat)(hN:N<=w.heap.size)(a:VA)(kind:Int)(hfit:a.fit kind)(mb:Option Addr)(mc:Nat)(hmag:zAf w (.slice mb a.mag.length mc) a.mag)(hla:a.mag.length<=1048576)(hlt:a.text.length<=2147483648)
  (kb:Option Addr) (m cap d:Nat) (b o:Nat) (xs:Nat->Array Value) (fs:Nat->VT) (hb:0<m->kb=some ⟨b,o,none⟩/\b<N/\zBO w b o m xs) (hm:m<=1048576) (hf:∀ i,i<m->zAl w N (fs i) (.agg (xs i))/\(fs i).small d) :
  Calls Tryz.prog 36 #[.agg (zAh a kind (.slice mb a.mag.length mc) (.slice kb m cap))] w fun e w'=>IsB (fun B=>B=true->a.fine m) e/\Below w.heap.size w w':=by
 obtain⟨w1,hw1⟩:∃ w1,w1=w.alloc (.cells (zAh a kind (.slice mb a.mag.length mc) (.slice kb m cap)) 31):=⟨_,rfl⟩;have hb1:Below w.heap.size w w1:=by rw[hw1];exact (zK _ _).alloc (zQ _) _
 have hB1:Blk w1 w.heap.size (zAa kind (a.n:Int) a.neg (.slice mb a.mag.length mc) (a.bits:Int) a.ext (zAc a.text) (.slice kb m cap)) 31:=by rw[hw1];exact Blk.new _ _ _
 have hG1:=hG.step hb1;have hmag1:=hmag.below hb1;have HKI:Hid (0<m->kb=some ⟨b,o,none⟩/\b<N/\zBO w1 b o m xs):=zz (fun h=>⟨(hb h).1,(hb h).2.1,(hb h).2.2.below (hb1.mono hN) (hb h).2.1⟩);have HFK:Hid (∀ i,i<m->zAl w1 N (fs i) (.agg (xs i))/\(fs i).small d):=zz (fun i hi=>⟨zAl.below (hb1.mono hN) _ _ (hf i hi).1,(hf i hi).2⟩);have HB1:=zz hb1;have HBL:=zz hB1;have HG1:=zz hG1;have HMG:=zz hmag1;have HW1:=zz hw1;have HFT:=zz hfit;have HLA:=zz hla;have HLT:=zz hlt;have HM:=zz hm;have HNN:Hid (N<=w1.heap.size):=zz (zJ hN hb1.size);clear hG hN hfit hmag hla hlt hb hm hf hb1 hB1 hG1 hmag1 hw1;generalize hX:w.heap.size=X at HBL HB1 ⊢;have HXE:=zz hX;clear hX;unfold zAh zAa at HW1 ⊢;unfold zAa at HBL;obtain⟨ML,hML⟩:∃ ML,ML=a.mag.length:=⟨_,rfl⟩;have HML:=zz hML;rw[<-hML] at HW1 HBL HMG ⊢;clear hML;go_enter Tryz.func36,Tryz.ntmps36
 go_upto_block 0 with fail
 change Code.wp _ _ _ _ (w.alloc (.cells #[.int .i8 kind,.int .u64 (a.n:Int),.bool a.neg,.slice mb ML mc,.int .u64 (a.bits:Int),.int .i8 a.ext,.string (zAc a.text),.slice kb m cap] 31));rw[<-HW1.out,HXE.out];go_cut [3] from 6 to 76 (fun ov wx=>∃ (okb:Bool) (n':Nat) (neg':Bool) (mb':Option Addr) (mn' mc':Nat) (bits':Nat) (ext':Int) (text':List UInt8) (kb':Option Addr) (kn' kc':Nat),ov=.bool okb/\Hid (Blk wx X #[.int .i8 kind,.int .u64 (n':Int),.bool neg',.slice mb' mn' mc',.int .u64 (bits':Int),.int .i8 ext',.string (zAc text'),.slice kb' kn' kc'] 31)/\Hid (Below X w wx)/\Hid (zQE a m okb n' neg' mn' bits' ext' text' kn'))
 case first=>
  by_cases hk:kind=1
  ·subst hk;have AK:Hid (a.kind=1):=zz (by have:=HFT.out.1;simpa using this);go_wp2;go_meet
   exact⟨true,a.n,a.neg,mb,ML,mc,a.bits,a.ext,a.text,kb,m,cap,rfl,HBL,HB1,zz (fun h1 h2 h3 h4 h5 h6 h7 h8=>⟨(.inl ⟨AK.out,zDO AK.out h2 h3 (zBG (by rw[<-HML.out];exact h4)) h5 h6 h7,h8⟩),fun h=>absurd h (by rw[AK.out];decide),fun h=>absurd h (by rw[AK.out];decide)⟩)⟩
  have n1:(kind == 1)=false:=beq_eq_false_iff_ne.2 hk;clear hk;by_cases hk:kind=2
  ·subst hk;have AK:Hid (a.kind=2):=zz (by have:=HFT.out.1;simpa using this);have c1:=HBL.out.cell 1;have f1:=HBL.out.free 1;simp only[zv,zk,zx] at c1;have hq:(decide ((a.n:Int)<2))=decide (a.n<2):=decide_eq_decide.2 (by omega);have HBLz:Hid (Blk (w1.setCell ⟨X,1,none⟩ (.int .u64 0)) X #[.int .i8 2,.int .u64 ((0:Nat):Int),.bool a.neg,.slice mb ML mc,.int .u64 (a.bits:Int),.int .i8 a.ext,.string (zAc a.text),.slice kb m cap] 31):=zz (HBL.out.set 1 (.int .u64 0));have HBz:=zz (HB1.out.setCell (p:=⟨X,1,none⟩) (zQ _) (.int .u64 0));go_wp2;go_meet
   exact⟨decide (a.n<2),0,a.neg,mb,ML,mc,a.bits,a.ext,a.text,kb,m,cap,(by first|rfl|rw[hq]),HBLz,HBz,zz (fun h1 h2 h3 h4 h5 h6 h7 h8=>⟨(.inr (.inl ⟨AK.out,⟨a.n,of_decide_eq_true h1,zDO AK.out rfl h3 (zBG (by rw[<-HML.out];exact h4)) h5 h6 h7⟩,h8⟩)),fun h=>absurd h (by rw[AK.out];decide),fun h=>absurd h (by rw[AK.out];decide)⟩)⟩
  have n2:(kind == 2)=false:=beq_eq_false_iff_ne.2 hk;clear hk;by_cases hk:kind=3
  ·subst hk;have AK:Hid (a.kind=3):=zz (by have:=HFT.out.1;simpa using this);have c2:=HBL.out.cell 2;have f2:=HBL.out.free 2;simp only[zv,zk,zx] at c2;have c3:=HBL.out.cell 3;have f3:=HBL.out.free 3;simp only[zv,zk,zx] at c3;have HNO:=zz (zI9 w1 a.neg _ _ HMG.out HLA.out);go_wp2_with fail
   refine HNO.out.mono ?_;rintro e w2 ⟨⟨B,rfl,hB⟩,hb2⟩;have HBR:=zz hB;have HBL2:=zz (HBL.out.below hb2 HBL.out.lt);have HB2:=zz (HB1.out.trans (hb2.mono (Nat.le_of_lt HBL.out.lt)));clear c2 f2 c3 f3 hB hb2;have c2:=HBL2.out.cell 2;have f2:=HBL2.out.free 2;simp only[zv,zk,zx] at c2;have c3:=HBL2.out.cell 3;have f3:=HBL2.out.free 3;simp only[zv,zk,zx] at c3;have HBLz:Hid (Blk ((w2.setCell ⟨X,2,none⟩ (.bool false)).setCell ⟨X,3,none⟩ (.slice none 0 0)) X #[.int .i8 3,.int .u64 (a.n:Int),.bool false,.slice none 0 0,.int .u64 (a.bits:Int),.int .i8 a.ext,.string (zAc a.text),.slice kb m cap] 31):=zz ((HBL2.out.set 2 (.bool false)).set 3 (.slice none 0 0));have HBz:=zz ((HB2.out.setCell (p:=⟨X,2,none⟩) (zQ _) (.bool false)).setCell (p:=⟨X,3,none⟩) (zQ _) (.slice none 0 0));go_wp2;go_meet
   exact⟨B,a.n,false,none,0,0,a.bits,a.ext,a.text,kb,m,cap,rfl,HBLz,HBz,zz (fun h1 h2 h3 h4 h5 h6 h7 h8=>⟨(.inr (.inr (.inl ⟨AK.out,(by obtain⟨x,e1,e2⟩:=HBR.out h1;exact⟨a.neg,x,e2,zDO AK.out h2 rfl e1 h5 h6 h7⟩),h8⟩))),fun h=>absurd h (by rw[AK.out];decide),fun h=>absurd h (by rw[AK.out];decide)⟩)⟩
  have n3:(kind == 3)=false:=beq_eq_false_iff_ne.2 hk;clear hk;by_cases hk:kind=4
  ·subst hk;have AK:Hid (a.kind=4):=zz (by have:=HFT.out.1;simpa using this);have c4:=HBL.out.cell 4;have f4:=HBL.out.free 4;simp only[zv,zk,zx] at c4;have HNO:=zz (zJY w1 HG1.out a.bits HFT.out.2.2.2.2.1);go_wp2_with fail
   refine HNO.out.mono ?_;rintro e w2 ⟨⟨B,rfl,hB⟩,hb2⟩;have HBR:=zz hB;have HBL2:=zz (HBL.out.below hb2 HBL.out.lt);have HB2:=zz (HB1.out.trans (hb2.mono (Nat.le_of_lt HBL.out.lt)));clear c4 f4 hB hb2;have c4:=HBL2.out.cell 4;have f4:=HBL2.out.free 4;simp only[zv,zk,zx] at c4;have HBLz:Hid (Blk (w2.setCell ⟨X,4,none⟩ (.int .u64 0)) X #[.int .i8 4,.int .u64 (a.n:Int),.bool a.neg,.slice mb ML mc,.int .u64 ((0:Nat):Int),.int .i8 a.ext,.string (zAc a.text),.slice kb m cap] 31):=zz (HBL2.out.set 4 (.int .u64 0));have HBz:=zz (HB2.out.setCell (p:=⟨X,4,none⟩) (zQ _) (.int .u64 0));go_wp2;go_meet
   exact⟨B,a.n,a.neg,mb,ML,mc,0,a.ext,a.text,kb,m,cap,rfl,HBLz,HBz,zz (fun h1 h2 h3 h4 h5 h6 h7 h8=>⟨(.inr (.inr (.inr (.inl ⟨AK.out,⟨a.bits,zDO AK.out h2 h3 (zBG (by rw[<-HML.out];exact h4)) rfl h6 h7⟩,h8⟩)))),fun _=>⟨HFT.out.2.2.2.2.1,HBR.out h1⟩,fun h=>absurd h (by rw[AK.out];decide)⟩)⟩
  have n4:(kind == 4)=false:=beq_eq_false_iff_ne.2 hk;clear hk;by_cases hk:kind=5
  ·subst hk;have AK:Hid (a.kind=5):=zz (by have:=HFT.out.1;simpa using this);have c6:=HBL.out.cell 6;have f6:=HBL.out.free 6;simp only[zv,zk,zx] at c6;have HBD:=zz (fun w=>zIa w a.text (by have:=HLT.out;omega));have hsz:(zAc a.text).size=a.text.length:=zAg _
   have hq:(((zFL a.text a.text.length 0:Nat):Int) == (a.text.length:Int))=decide (zFL a.text a.text.length 0=a.text.length):=by
    by_cases h:zFL a.text a.text.length 0=a.text.length
    ·rw[h,decide_eq_true rfl];exact beq_self_eq_true _
    ·rw[decide_eq_false h];exact beq_eq_false_iff_ne.2 (by omega)
   have HKB:Hid (decide (zFL a.text a.text.length 0=a.text.length)=true->zFL a.text a.text.length 0=a.text.length):=zz of_decide_eq_true;generalize decide (zFL a.text a.text.length 0=a.text.length)=B at hq HKB;have HBLd:∀ k,Hid (Blk ((w1.drewN k).setCell ⟨X,6,none⟩ (.string ⟨#[]⟩)) X #[.int .i8 5,.int .u64 (a.n:Int),.bool a.neg,.slice mb ML mc,.int .u64 (a.bits:Int),.int .i8 a.ext,.string (zAc []),.slice kb m cap] 31):=fun k=>zz ((HBL.out.drewN k).set 6 (.string ⟨#[]⟩))
   have HBd:∀ k,Hid (Below X w ((w1.drewN k).setCell ⟨X,6,none⟩ (.string ⟨#[]⟩))):=fun k=>zz ((zAd HB1.out k).setCell (p:=⟨X,6,none⟩) (zQ _) (.string ⟨#[]⟩))
   go_upto_region 12 with fail
   go_region_with (go_at_call 75;go_must (refine (HBD.out _).mono ?_;rintro e w9 ⟨rfl,rfl⟩))
   all_goals (
    go_wp2;go_meet
    exact⟨B,a.n,a.neg,mb,ML,mc,a.bits,a.ext,[],kb,m,cap,rfl,HBLd 1,HBd 1,zz (fun h1 h2 h3 h4 h5 h6 h7 h8=>⟨(.inr (.inr (.inr (.inr (.inl ⟨AK.out,⟨a.text,zDO AK.out h2 h3 (zBG (by rw[<-HML.out];exact h4)) h5 h6 rfl⟩,h8⟩))))),fun h=>absurd h (by rw[AK.out];decide),fun _=>HKB.out h1⟩)⟩)
  have n5:(kind == 5)=false:=beq_eq_false_iff_ne.2 hk;clear hk;by_cases hk:kind=6
  ·subst hk;have AK:Hid (a.kind=6):=zz (by have:=HFT.out.1;simpa using this);have c6:=HBL.out.cell 6;have f6:=HBL.out.free 6;simp only[zv,zk,zx] at c6;have HBLz:Hid (Blk (w1.setCell ⟨X,6,none⟩ (.string ⟨#[]⟩)) X #[.int .i8 6,.int .u64 (a.n:Int),.bool a.neg,.slice mb ML mc,.int .u64 (a.bits:Int),.int .i8 a.ext,.string (zAc []),.slice kb m cap] 31):=zz (HBL.out.set 6 (.string ⟨#[]⟩));have HBz:=zz (HB1.out.setCell (p:=⟨X,6,none⟩) (zQ _) (.string ⟨#[]⟩));go_wp2;go_meet
   exact⟨true,a.n,a.neg,mb,ML,mc,a.bits,a.ext,[],kb,m,cap,rfl,HBLz,HBz,zz (fun h1 h2 h3 h4 h5 h6 h7 h8=>⟨(.inr (.inr (.inr (.inr (.inr (.inl ⟨AK.out,⟨a.text,zDO AK.out h2 h3 (zBG (by rw[<-HML.out];exact h4)) h5 h6 rfl⟩,h8⟩)))))),fun h=>absurd h (by rw[AK.out];decide),fun h=>absurd h (by rw[AK.out];decide)⟩)⟩
  have n6:(kind == 6)=false:=beq_eq_false_iff_ne.2 hk;clear hk;by_cases hk:kind=7
  ·subst hk;have AK:Hid (a.kind=7):=zz (by have:=HFT.out.1;simpa using this);have c7:=HBL.out.cell 7;have f7:=HBL.out.free 7;simp only[zv,zk,zx] at c7;have HBLz:Hid (Blk (w1.setCell ⟨X,7,none⟩ (.slice none 0 0)) X #[.int .i8 7,.int .u64 (a.n:Int),.bool a.neg,.slice mb ML mc,.int .u64 (a.bits:Int),.int .i8 a.ext,.string (zAc a.text),.slice none 0 0] 31):=zz (HBL.out.set 7 (.slice none 0 0));have HBz:=zz (HB1.out.setCell (p:=⟨X,7,none⟩) (zQ _) (.slice none 0 0));go_wp2;go_meet
   exact⟨true,a.n,a.neg,mb,ML,mc,a.bits,a.ext,a.text,none,0,0,rfl,HBLz,HBz,zz (fun h1 h2 h3 h4 h5 h6 h7 h8=>⟨(.inr (.inr (.inr (.inr (.inr (.inr (.inl ⟨AK.out,zDO AK.out h2 h3 (zBG (by rw[<-HML.out];exact h4)) h5 h6 h7⟩))))))),fun h=>absurd h (by rw[AK.out];decide),fun h=>absurd h (by rw[AK.out];decide)⟩)⟩
  have n7:(kind == 7)=false:=beq_eq_false_iff_ne.2 hk;clear hk;by_cases hk:kind=8
  ·subst hk;have AK:Hid (a.kind=8):=zz (by have:=HFT.out.1;simpa using this);have c7:=HBL.out.cell 7;have f7:=HBL.out.free 7;simp only[zv,zk,zx] at c7;have HNO:=zz (zI5 w1 N m d HG1.out.g.s HNN.out b o cap kb xs fs HKI.out HM.out HFK.out);go_wp2_with fail
   refine HNO.out.mono ?_;rintro e w2 ⟨⟨B,rfl,hB⟩,hb2⟩;have HBR:=zz hB;have HBL2:=zz (HBL.out.below hb2 HBL.out.lt);have HB2:=zz (HB1.out.trans (hb2.mono (Nat.le_of_lt HBL.out.lt)));clear c7 f7 hB hb2;have c7:=HBL2.out.cell 7;have f7:=HBL2.out.free 7;simp only[zv,zk,zx] at c7;have HBLz:Hid (Blk (w2.setCell ⟨X,7,none⟩ (.slice none 0 0)) X #[.int .i8 8,.int .u64 (a.n:Int),.bool a.neg,.slice mb ML mc,.int .u64 (a.bits:Int),.int .i8 a.ext,.string (zAc a.text),.slice none 0 0] 31):=zz (HBL2.out.set 7 (.slice none 0 0));have HBz:=zz (HB2.out.setCell (p:=⟨X,7,none⟩) (zQ _) (.slice none 0 0));go_wp2;go_meet
   exact⟨B,a.n,a.neg,mb,ML,mc,a.bits,a.ext,a.text,none,0,0,rfl,HBLz,HBz,zz (fun h1 h2 h3 h4 h5 h6 h7 h8=>⟨(.inr (.inr (.inr (.inr (.inr (.inr (.inr (.inl ⟨AK.out,zDO AK.out h2 h3 (zBG (by rw[<-HML.out];exact h4)) h5 h6 h7,HBR.out h1⟩)))))))),fun h=>absurd h (by rw[AK.out];decide),fun h=>absurd h (by rw[AK.out];decide)⟩)⟩
  have n8:(kind == 8)=false:=beq_eq_false_iff_ne.2 hk;clear hk;by_cases hk:kind=9
  ·subst hk;have AK:Hid (a.kind=9):=zz (by have:=HFT.out.1;simpa using this);have c1:=HBL.out.cell 1;have f1:=HBL.out.free 1;simp only[zv,zk,zx] at c1;have c7:=HBL.out.cell 7;have f7:=HBL.out.free 7;simp only[zv,zk,zx] at c7;have HBLz:Hid (Blk ((w1.setCell ⟨X,1,none⟩ (.int .u64 0)).setCell ⟨X,7,none⟩ (.slice none 0 0)) X #[.int .i8 9,.int .u64 ((0:Nat):Int),.bool a.neg,.slice mb ML mc,.int .u64 (a.bits:Int),.int .i8 a.ext,.string (zAc a.text),.slice none 0 0] 31):=zz ((HBL.out.set 1 (.int .u64 0)).set 7 (.slice none 0 0));have HBz:=zz ((HB1.out.setCell (p:=⟨X,1,none⟩) (zQ _) (.int .u64 0)).setCell (p:=⟨X,7,none⟩) (zQ _) (.slice none 0 0))
   cases q2:((a.n:Int) != 2) with
   | false=>
    go_wp2;go_meet
    exact⟨false,0,a.neg,mb,ML,mc,a.bits,a.ext,a.text,none,0,0,rfl,HBLz,HBz,zz (fun h1 h2 h3 h4 h5 h6 h7 h8=>⟨(.inr (.inr (.inr (.inr (.inr (.inr (.inr (.inr (.inl ⟨AK.out,⟨a.n,zDO AK.out rfl h3 (zBG (by rw[<-HML.out];exact h4)) h5 h6 h7⟩,Bool.noConfusion h1⟩))))))))),fun h=>absurd h (by rw[AK.out];decide),fun h=>absurd h (by rw[AK.out];decide)⟩)⟩
   | true=>
    cases q3:((a.n:Int) != 3) with
    | false=>
     go_wp2;go_meet
     exact⟨false,0,a.neg,mb,ML,mc,a.bits,a.ext,a.text,none,0,0,rfl,HBLz,HBz,zz (fun h1 h2 h3 h4 h5 h6 h7 h8=>⟨(.inr (.inr (.inr (.inr (.inr (.inr (.inr (.inr (.inl ⟨AK.out,⟨a.n,zDO AK.out rfl h3 (zBG (by rw[<-HML.out];exact h4)) h5 h6 h7⟩,Bool.noConfusion h1⟩))))))))),fun h=>absurd h (by rw[AK.out];decide),fun h=>absurd h (by rw[AK.out];decide)⟩)⟩
    | true=>
     have hq:((m:Int) == 1)=decide (m=1):=by
      by_cases h:m=1
      ·rw[h];rfl
      ·rw[decide_eq_false h];exact beq_eq_false_iff_ne.2 (by omega)
     have HKB:Hid (decide (m=1)=true->m=1):=zz of_decide_eq_true;generalize decide (m=1)=B at hq HKB;go_wp2;go_meet
     exact⟨B,0,a.neg,mb,ML,mc,a.bits,a.ext,a.text,none,0,0,rfl,HBLz,HBz,zz (fun h1 h2 h3 h4 h5 h6 h7 h8=>⟨(.inr (.inr (.inr (.inr (.inr (.inr (.inr (.inr (.inl ⟨AK.out,⟨a.n,zDO AK.out rfl h3 (zBG (by rw[<-HML.out];exact h4)) h5 h6 h7⟩,HKB.out h1⟩))))))))),fun h=>absurd h (by rw[AK.out];decide),fun h=>absurd h (by rw[AK.out];decide)⟩)⟩
  have n9:(kind == 9)=false:=beq_eq_false_iff_ne.2 hk;clear hk;by_cases hk:kind=10
  ·subst hk;have AK:Hid (a.kind=10):=zz (by have:=HFT.out.1;simpa using this);have c1:=HBL.out.cell 1;have f1:=HBL.out.free 1;simp only[zv,zk,zx] at c1;have HNO:=zz (zIQ w1 (a.n:Int));have HBLz:Hid (Blk (w1.setCell ⟨X,1,none⟩ (.int .u64 0)) X #[.int .i8 10,.int .u64 ((0:Nat):Int),.bool a.neg,.slice mb ML mc,.int .u64 (a.bits:Int),.int .i8 a.ext,.string (zAc a.text),.slice kb m cap] 31):=zz (HBL.out.set 1 (.int .u64 0));have HBz:=zz (HB1.out.setCell (p:=⟨X,1,none⟩) (zQ _) (.int .u64 0));go_wp2_with fail
   refine HNO.out.mono ?_;rintro e w2 ⟨⟨B,rfl,_⟩,hw2⟩;subst hw2;go_wp2;go_meet
   exact⟨B,0,a.neg,mb,ML,mc,a.bits,a.ext,a.text,kb,m,cap,rfl,HBLz,HBz,zz (fun h1 h2 h3 h4 h5 h6 h7 h8=>⟨(.inr (.inr (.inr (.inr (.inr (.inr (.inr (.inr (.inr (.inl ⟨AK.out,⟨a.n,zDO AK.out rfl h3 (zBG (by rw[<-HML.out];exact h4)) h5 h6 h7⟩,h8⟩)))))))))),fun h=>absurd h (by rw[AK.out];decide),fun h=>absurd h (by rw[AK.out];decide)⟩)⟩
  have n10:(kind == 10)=false:=beq_eq_false_iff_ne.2 hk;clear hk;by_cases hk:kind=11
  ·subst hk;have AK:Hid (a.kind=11):=zz (by have:=HFT.out.1;simpa using this);have c5:=HBL.out.cell 5;have f5:=HBL.out.free 5;simp only[zv,zk,zx] at c5;have c6:=HBL.out.cell 6;have f6:=HBL.out.free 6;simp only[zv,zk,zx] at c6;have HBLz:Hid (Blk ((w1.setCell ⟨X,5,none⟩ (.int .i8 0)).setCell ⟨X,6,none⟩ (.string ⟨#[]⟩)) X #[.int .i8 11,.int .u64 (a.n:Int),.bool a.neg,.slice mb ML mc,.int .u64 (a.bits:Int),.int .i8 0,.string (zAc []),.slice kb m cap] 31):=zz ((HBL.out.set 5 (.int .i8 0)).set 6 (.string ⟨#[]⟩));have HBz:=zz ((HB1.out.setCell (p:=⟨X,5,none⟩) (zQ _) (.int .i8 0)).setCell (p:=⟨X,6,none⟩) (zQ _) (.string ⟨#[]⟩));go_wp2;go_meet
   exact⟨true,a.n,a.neg,mb,ML,mc,a.bits,0,[],kb,m,cap,rfl,HBLz,HBz,zz (fun h1 h2 h3 h4 h5 h6 h7 h8=>⟨(.inr (.inr (.inr (.inr (.inr (.inr (.inr (.inr (.inr (.inr ⟨AK.out,⟨a.ext,a.text,zDO AK.out h2 h3 (zBG (by rw[<-HML.out];exact h4)) h5 rfl rfl⟩,h8⟩)))))))))),fun h=>absurd h (by rw[AK.out];decide),fun h=>absurd h (by rw[AK.out];decide)⟩)⟩
  have n11:(kind == 11)=false:=beq_eq_false_iff_ne.2 hk;clear hk;go_wp2;go_ret;exact⟨IsB.mk false rfl (fun h=>Bool.noConfusion h),HB1.out⟩
 case rest=>
  clear HBL HB1 HKI HFK HG1 HMG HW1 HFT HLA HLT HM HNN;obtain⟨okb,n',neg',mb',mn',mc',bits',ext',text',kb',kn',kc',rfl,HBw,HBB,HR⟩:=hcut
  cases okb with
  | false=>
   go_wp2;go_ret
   exact⟨IsB.mk false rfl (fun h=>Bool.noConfusion h),HBB.out⟩
  | true=>
   have c1:=HBw.out.cell 1;have c2:=HBw.out.cell 2;have c3:=HBw.out.cell 3;have c4:=HBw.out.cell 4;have c5:=HBw.out.cell 5;have c6:=HBw.out.cell 6;have c7:=HBw.out.cell 7;simp only[zv,zk,zx] at c1 c2 c3 c4 c5 c6 c7;clear HBw
   cases q1:((n':Int) == 0) with
   | false=>
    go_wp2;go_ret
    exact⟨IsB.mk false rfl (fun h=>Bool.noConfusion h),HBB.out⟩
   | true=>
    cases neg' with
    | true=>
     go_wp2;go_ret
     exact⟨IsB.mk false rfl (fun h=>Bool.noConfusion h),HBB.out⟩
    | false=>
     cases q3:((mn':Int) == 0) with
     | false=>
      go_wp2;go_ret
      exact⟨IsB.mk false rfl (fun h=>Bool.noConfusion h),HBB.out⟩
     | true=>
      cases q4:((bits':Int) == 0) with
      | false=>
       go_wp2;go_ret
       exact⟨IsB.mk false rfl (fun h=>Bool.noConfusion h),HBB.out⟩
      | true=>
       cases q5:(ext' == 0) with
       | false=>
        go_wp2;go_ret
        exact⟨IsB.mk false rfl (fun h=>Bool.noConfusion h),HBB.out⟩
       | true=>
        have q6:=zNy text' [];rw[show zAc []=(⟨#[]⟩:ByteArray) from rfl] at q6;by_cases ht:text'≠[]
        ·rw[decide_eq_false ht] at q6;have q6':¬ (zAc text').toList=[]:=by rw[ByteArray.toList_eq];exact ht
         have q6'':((zAc text').toList == [])=false:=beq_eq_false_iff_ne.2 q6';clear ht HR;generalize zAc text'=TX at *;go_wp2;go_ret;exact⟨IsB.mk false rfl (fun h=>Bool.noConfusion h),HBB.out⟩
        have ht:text'=[]:=Classical.not_not.1 ht;rw[decide_eq_true ht] at q6;have HTE:=zz ht;have q6':(zAc text').toList=[]:=by rw[ByteArray.toList_eq];exact ht
        clear ht;obtain⟨TX,hTX⟩:∃ TX,TX=zAc text':=⟨_,rfl⟩;rw[<-hTX] at q6 q6' c6;clear hTX
        cases q7:((kn':Int) == 0) with
        | false=>
         go_wp2;go_ret
         exact⟨IsB.mk false rfl (fun h=>Bool.noConfusion h),HBB.out⟩
        | true=>
         have HRES:Hid (a.fine m):=zz (HR.out rfl (by have:=beq_iff_eq.1 q1;omega) rfl (by have:=beq_iff_eq.1 q3;omega) (by have:=beq_iff_eq.1 q4;omega) (beq_iff_eq.1 q5) HTE.out (by have:=beq_iff_eq.1 q7;omega));clear HR;go_wp2;go_ret;exact⟨IsB.mk true rfl (fun _=>HRES.out),HBB.out⟩
end Go.Proofs.YtcanfakaigpkgaaGreatDoor.D
