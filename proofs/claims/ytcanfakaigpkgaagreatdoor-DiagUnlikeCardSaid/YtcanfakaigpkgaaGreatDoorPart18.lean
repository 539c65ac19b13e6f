/-
  Of the proof that the law DiagUnlike answers true at every two values: a part, without conditions of its own.
-/
import Derived.Test.YtcanfakaigpkgaaGreatDoorPart16
import Derived.Test.YtcanfakaigpkgaaGreatDoorPart15
import Derived.Stop.IfaceNil
import Derived.Test.YtcanfakaigpkgaaGreatDoorPart17
import Derived.Lib.TrailingZeros
set_option linter.unusedVariables false
set_option linter.unusedSimpArgs false
set_option maxRecDepth 100000
set_option maxHeartbeats 8000000
namespace Go.Proofs.YtcanfakaigpkgaaGreatDoor.D
open Go Go.RowKit Limb
theorem Wk.alloc{B p:Nat}{w:World}(hB:B<=w.heap.size)(o:Obj):Wk B p w (w.alloc o):=Wk.of_below ((zK _ _).alloc (zQ _) _) hB
theorem Wr.alloc{B p:Nat}{most:Int}{L:List UInt8}{w:World}(h:Wr B p most L w)(o:Obj):Wr B p most L (w.alloc o):=BIs.below h ((zK _ _).alloc (zQ _) _)
theorem Wr.lt{B p:Nat}{most:Int}{L:List UInt8}{w:World}(h:Wr B p most L w):p<w.heap.size:=by
 obtain⟨q,hb⟩:=h.at_;exact hb.lt
theorem zC3(B p:Nat)(most:Int)(L s:List UInt8)(w:World)(h:Wr B p most L w)(hm:(((L ++ s).length:Nat):Int)<=most)(hl:(L ++ s).length<=140737488355328)(hB:B<=w.heap.size):
  Calls Tryz.prog 39 #[.pointer (some ⟨p,0,none⟩),.slice (some ⟨w.heap.size,0,none⟩) 1 1] (w.alloc (.cells #[.string (zAc s)] 9)) fun e w'=>e=.returned (.tuple #[])/\Wr B p most (L ++ s) w'/\Wk B p w w':=by
 have hc:zCZ (fun _=>s) 1=s:=rfl
 refine (zJB B p most L _ (h.alloc _) w.heap.size 1 1 (fun _=>s) _ _ (Blk.new w #[.string (zAc s)] 9) (by have:=h.lt;omega) (fun i hi=>by
  have h0:i=0:=by omega
  subst h0;rfl) (by omega) (by rw[hc];exact hm) (by rw[hc];exact hl) (by simp;omega)).mono ?_
 rintro e w' ⟨rfl,h1,h2⟩;rw[hc] at h1;exact⟨rfl,h1,(Wk.alloc hB _).trans h2⟩
theorem zKY(B p:Nat)(most:Int)(L s0 s1 s2:List UInt8)(w:World)(h:Wr B p most L w)(hm:(((L ++ (s0 ++ s1 ++ s2)).length:Nat):Int)<=most)(hl:(L ++ (s0 ++ s1 ++ s2)).length<=140737488355328)(hB:B<=w.heap.size):
  Calls Tryz.prog 39 #[.pointer (some ⟨p,0,none⟩),.slice (some ⟨w.heap.size,0,none⟩) 3 3] (w.alloc (.cells #[.string (zAc s0),.string (zAc s1),.string (zAc s2)] 9)) fun e w'=>e=.returned (.tuple #[])/\Wr B p most (L ++ (s0 ++ s1 ++ s2)) w'/\Wk B p w w':=by
 have hc:zCZ (fun i=>if i=0 then s0 else if i=1 then s1 else s2) 3=s0 ++ s1 ++ s2:=rfl
 refine (zJB B p most L _ (h.alloc _) w.heap.size 3 3 (fun i=>if i=0 then s0 else if i=1 then s1 else s2) _ _ (Blk.new w #[.string (zAc s0),.string (zAc s1),.string (zAc s2)] 9) (by have:=h.lt;omega) (fun i hi=>by
  match i,hi with
  | 0,_=>rfl
  | 1,_=>rfl
  | 2,_=>rfl) (by omega) (by rw[hc];exact hm) (by rw[hc];exact hl) (by simp;omega)).mono ?_
 rintro e w' ⟨rfl,h1,h2⟩;rw[hc] at h1;exact⟨rfl,h1,(Wk.alloc hB _).trans h2⟩
theorem zPs(w:World)(a b:Value):(Instr.index 85 (.agg #[a,b]) (.int .i64 0)).run Tryz.prog w=.ok a w:=by kernel_rfl
theorem zO7(w:World)(a b:Value):(Instr.index 85 (.agg #[a,b]) (.int .i64 1)).run Tryz.prog w=.ok b w:=by kernel_rfl
def WV(most:Int)(f:F):Prop:=∀ (d:Nat) (v:Value) (w:World) (B p N:Nat) (L:List UInt8),N<=B->B<=w.heap.size->21<B->GW w->zAU w N f d v->Wr B p most L w->(((L ++ f.txt).length:Nat):Int)<=most->(L ++ f.txt).length<=140737488355328 ->
 Calls Tryz.prog 13 #[.pointer (some ⟨p,0,none⟩),v] w fun e w'=>e=.returned (.tuple #[])/\Wr B p most (L ++ f.txt) w'/\Wk B p w w'
theorem zHN(one two:List UInt8)(m:Nat)(fs:Nat->F):∀ (n k:Nat),k<=n->(zAF one two m fs k).length<=(zAF one two m fs n).length
 | 0,k,h=>by
  obtain rfl:k=0:=by omega
  exact zQ _
 | n+1,k,h=>by
  rcases Nat.lt_or_ge k (n+1) with h1|h1
  ·have:=zHN one two m fs n k (by omega);rw[zAF,List.length_append,List.length_append];omega
  ·obtain rfl:k=n+1:=by omega
   exact zQ _
theorem zD4(most:Int)(N B p m b o cap:Nat)(xs:Nat->Array Value)(ds:Nat->Nat)(fs:Nat->F)(one two opn sht L:List UInt8)(w:World)(hNB:N<=B)(hB:B<=w.heap.size)(hB2:21<B)(hG:GW w)(hW:Wr B p most L w)(hrow:zBO w b o m xs)(hbN:b<N)(hm3:m<=3)
  (hkid:∀ i,i<m->zAU w N (fs i) (ds i) (.agg (xs i))) (hIH:∀ i,i<m->WV most (fs i)) (hm:(((L ++ opn ++ zAF one two m fs m ++ sht).length:Nat):Int)<=most) (hl:(L ++ opn ++ zAF one two m fs m ++ sht).length<=140737488355328) :
  Calls Tryz.prog 43 #[.pointer (some ⟨p,0,none⟩),.string (zAc opn),.string (zAc sht),.slice (some ⟨b,o,none⟩) m cap,.string (zAc one),.string (zAc two)] w fun e w'=>e=.returned (.tuple #[])/\Wr B p most (L ++ opn ++ zAF one two m fs m ++ sht) w'/\Wk B p w w':=by
 have HROW:=zz hrow;have HKID:=zz hkid;have HIH:=zz hIH;have HG:=zz hG;have HM:=zz hm;have HL:=zz hl;have hsum:(L ++ opn ++ zAF one two m fs m ++ sht).length=L.length+opn.length+(zAF one two m fs m).length+sht.length:=by simp only[List.length_append]
 have HSUM:=zz hsum;have HP:=zz (zC3 B p most L opn w hW (by rw[hsum] at hm;rw[List.length_append];omega) (by rw[hsum] at hl;rw[List.length_append];omega) hB);clear hrow hkid hIH hG hm hl hsum hW;go_enter Tryz.func43,Tryz.ntmps43
 go_wp2_with fail
 refine HP.out.mono ?_;rintro e w1 ⟨rfl,hw1,hk1⟩;have HW1:=zz hw1;have HK1:=zz hk1;clear hw1 hk1 HP;go_wp2;go_loopw [12,13,20] (fun _ _ i wr=>∃ k:Nat,k<=m/\i=.int .i64 k/\Hid (Wr B p most (L ++ opn ++ zAF one two m fs k) wr)/\Hid (Wk B p w wr)) (fun _ _ i _=>m - (intOf i).toNat)
 case atStart=>exact⟨0,by omega,rfl,by rw[zAF,List.append_nil];exact HW1,HK1⟩
 case round=>
  clear HW1 HK1;obtain⟨k,hkm,rfl,HWr,HKr⟩:=hrel;have hsz:=HKr.out.2.1;have HBe:=zz HKr.out.1;by_cases h1:k<m
  ·have hTk:=zAU.below (HBe.out.mono hNB) _ _ _ (HKID.out k h1);obtain⟨hx8,hxc⟩:=(HROW.out.below (HBe.out.mono hNB) hbN) k h1;obtain⟨kind',nn',mb',mn',mc',bits',ext',text',kb',kn',kc',hxk⟩:=hTk.cells;have HTK:=zz hTk;simp only[Value.agg.injEq] at hxk;rw[hxk] at hxc HTK;have d0:=hxc 0 (by omega);have d1:=hxc 1 (by omega);have d2:=hxc 2 (by omega);have d3:=hxc 3 (by omega);have d4:=hxc 4 (by omega);have d5:=hxc 5 (by omega);have d6:=hxc 6 (by omega);have d7:=hxc 7 (by omega);simp only[zAa,zv,zk,zx,Nat.add_zero] at d0 d1 d2 d3 d4 d5 d6 d7;clear hx8 hxc hxk hTk;have g1:(k:Int)<(m:Int):=by omega
   have hby:Below wr.heap.size wr (wr.alloc (.cells (zAa kind' nn' false (.slice mb' mn' mc') bits' ext' (zAc text') (.slice kb' kn' kc')) 31)):=(zK _ _).alloc (zQ _) _;have hbl:=Blk.new wr (zAa kind' nn' false (.slice mb' mn' mc') bits' ext' (zAc text') (.slice kb' kn' kc')) 31;have hNr:N<=wr.heap.size:=by omega
   have hle1:=zHN one two m fs m (k+1) h1;have hks:(zAF one two m fs (k+1)).length=(zAF one two m fs k).length+(fs k).txt.length+(if k+1<m then (if k % 2=1 then two else one) else []).length:=by rw[zAF,List.length_append,List.length_append]
   have hgw:=(HG.out.below HBe.out hB2).step hby
   have HQ:=zz (HIH.out k h1 (ds k) _ _ B p N (L ++ opn ++ zAF one two m fs k) hNB (zJ (zJ hB hsz) hby.size) hB2 hgw (zAU.below (hby.mono hNr) _ _ _ HTK.out) (HWr.out.alloc _) (by
    have:=HM.out;rw[HSUM.out] at this;rw[List.length_append,List.length_append,List.length_append];omega) (by
    have:=HL.out;rw[HSUM.out] at this;rw[List.length_append,List.length_append,List.length_append];omega))
   have HS1:Hid (L ++ opn ++ zAF one two m fs (k+1)=L ++ opn ++ zAF one two m fs k ++ (fs k).txt ++ (if k+1<m then (if k % 2=1 then two else one) else [])):=zz (by rw[zAF];simp only[List.append_assoc]);have HLE:Hid ((L ++ opn ++ zAF one two m fs (k+1)).length<=(L ++ opn ++ zAF one two m fs m ++ sht).length):=zz (by rw[HSUM.out,List.length_append,List.length_append];omega);have HBY:=zz hby;have HBL:=zz hbl;clear hby hbl hgw hle1 hks;go_upto_region 4 with fail
   change Code.wp _ _ _ _ (wr.alloc (.cells (zAa kind' nn' false (.slice mb' mn' mc') bits' ext' (zAc text') (.slice kb' kn' kc')) 31));clear d0 d1 d2 d3 d4 d5 d6 d7;refine wp_region_lit ?_;iterate 3 go_step
   refine wpList_load_row rfl 31 _ rfl wr.heap.size rfl 31 _ (0,0) _ HBL.out Tryz.underlying31 rfl (by kernel_rfl) ?_;go_wp2_with fail
   refine HQ.out.mono ?_;rintro e w5 ⟨rfl,hw5,hk5⟩;have HW5:=zz hw5;have HK5:=zz (HKr.out.trans ((Wk.alloc (by omega) _).trans hk5));clear hw5 hk5 HQ HTK HBY HBL HWr HKr;by_cases h2:k+1<m
   ·have g2:(k:Int)+1<(m:Int):=by omega
    have hB5:B<=w5.heap.size:=zJ hB HK5.out.2.1;rw[if_pos h2] at HS1;have HL1:Hid ((((L ++ opn ++ zAF one two m fs (k+1)).length:Nat):Int)<=most/\(L ++ opn ++ zAF one two m fs (k+1)).length<=140737488355328):=zz ⟨by have:=HLE.out;have:=HM.out;omega,by have:=HLE.out;have:=HL.out;omega⟩;rw[HS1.out] at HL1;rcases (by omega:k=0 \/ k=1) with rfl|rfl
    ·rw[if_neg (by decide)] at HS1 HL1;have HP:=zz (zC3 B p most _ one w5 HW5.out HL1.out.1 HL1.out.2 hB5);have ha:bits .and .i64 0 1=0:=by decide
     have hi:=fun w=>zPs w (.string (zAc one)) (.string (zAc two))
     clear HL1 HLE;go_wp2_with fail
     refine HP.out.mono ?_;rintro e w6 ⟨rfl,hw6,hk6⟩;rw[<-HS1.out] at hw6;have HW6:=zz hw6;have HK6:=zz (HK5.out.trans hk6);clear hw6 hk6 HP HW5 HK5;go_wp2;go_roundw
     case rel=>exact⟨1,by omega,by simp,HW6,HK6⟩
     case measure=>simp[intOf];omega
    ·rw[if_pos (by decide)] at HS1 HL1;have HP:=zz (zC3 B p most _ two w5 HW5.out HL1.out.1 HL1.out.2 hB5);have ha:bits .and .i64 1 1=1:=by decide
     have hi:=fun w=>zO7 w (.string (zAc one)) (.string (zAc two))
     clear HL1 HLE;go_wp2_with fail
     refine HP.out.mono ?_;rintro e w6 ⟨rfl,hw6,hk6⟩;rw[<-HS1.out] at hw6;have HW6:=zz hw6;have HK6:=zz (HK5.out.trans hk6);clear hw6 hk6 HP HW5 HK5;go_wp2;go_roundw
     case rel=>exact⟨2,by omega,by simp,HW6,HK6⟩
     case measure=>simp[intOf];omega
   ·have g2:¬ (k:Int)+1<(m:Int):=by omega
    rw[if_neg h2,List.append_nil] at HS1;rw[<-HS1.out] at HW5;clear HLE;go_wp2;go_roundw
    case rel=>exact⟨k+1,by omega,by simp,HW5,HK5⟩
    case measure=>simp[intOf];omega
  ·obtain rfl:k=m:=by omega
   have g1:¬ (k:Int)<(k:Int):=by omega
   have HP:=zz (zC3 B p most _ sht wr HWr.out HM.out HL.out (zJ hB hsz));clear HWr;go_wp2_with fail
   refine HP.out.mono ?_;rintro e w2 ⟨rfl,hw2,hk2⟩;have HW2:=zz hw2;have HK2:=zz (HKr.out.trans hk2);clear hw2 hk2 HP HKr;go_wp2;go_end0
   exact⟨rfl,HW2.out,HK2.out⟩
end Go.Proofs.YtcanfakaigpkgaaGreatDoor.D
namespace Go.Proofs.YtcanfakaigpkgaaGreatDoor.D
open Go Go.RowKit Go.Extern.Stop Go.Stop Go.Extern Limb
abbrev ev(e:Nat->Addr)(i:Nat):Value:=.iface 339 (.pointer (some (e i)))
structure zCB (e:Nat->Addr) (w:World):Prop where
 c0:w.cell? ⟨1,0,none⟩=some (ev e 0)
 c1:w.cell? ⟨2,0,none⟩=some (ev e 1)
 c2:w.cell? ⟨3,0,none⟩=some (ev e 2)
 c3:w.cell? ⟨4,0,none⟩=some (ev e 3)
 c4:w.cell? ⟨0,0,none⟩=some (ev e 4)
 c5:w.cell? ⟨5,0,none⟩=some (ev e 5)
 c6:w.cell? ⟨6,0,none⟩=some (ev e 6)
 c7:w.cell? ⟨7,0,none⟩=some (ev e 7)
 c8:w.cell? ⟨8,0,none⟩=some (ev e 8)
 c9:w.cell? ⟨9,0,none⟩=some (ev e 9)
 c10:w.cell? ⟨10,0,none⟩=some (ev e 10)
 inj:∀ i j,i<11->j<11->i≠j->e i≠e j
 row:∀ i,i<11->∃ c t,w.heap[(e i).block]?=some (.cells c t (0,0))
 ty:w.cell? ⟨12,0,none⟩=some (.iface 246 (.agg #[.pointer (some ⟨22,35,none⟩)]))
theorem zCB.step{e:Nat->Addr}{w w':World}(h:zCB e w)(hb:Below w.heap.size w w')(hs:21<w.heap.size):zCB e w':=by
 have hc:∀ k,k<21->w'.cell? ⟨k,0,none⟩=w.cell? ⟨k,0,none⟩:=fun k hk=>hb.cell (p:=⟨k,0,none⟩) (by simp;omega)
 refine⟨(hc _ (by decide)).trans h.c0,(hc _ (by decide)).trans h.c1,(hc _ (by decide)).trans h.c2,(hc _ (by decide)).trans h.c3,(hc _ (by decide)).trans h.c4,(hc _ (by decide)).trans h.c5,(hc _ (by decide)).trans h.c6,(hc _ (by decide)).trans h.c7,(hc _ (by decide)).trans h.c8,(hc _ (by decide)).trans h.c9,(hc _ (by decide)).trans h.c10,h.inj,?_,(hc _ (by decide)).trans h.ty⟩;intro i hi;obtain⟨c,t,hr⟩:=h.row i hi;have hl:=(Array.getElem?_eq_some_iff.1 hr).1;exact⟨c,t,(hb.block _ hl).trans hr⟩
abbrev zJu(e:Nat->Addr):Array Value:=#[ev e 0,ev e 1,ev e 2,ev e 3,ev e 4,ev e 5,ev e 6,ev e 7,ev e 8,ev e 9,ev e 10]
def zBp(e:Nat->Addr)(w:World)(code at_:Nat)(v:Value):Prop:=
 ∃ b,v=.iface 81 (.pointer (some ⟨b,0,none⟩))/\Blk w b #[ev e (code - 1),.int .i64 (at_:Int),.string (zAc [])] 83
theorem zBp.step{e:Nat->Addr}{w w':World}{code at_:Nat}{v:Value}(h:zBp e w code at_ v)(hb:Below w.heap.size w w'):zBp e w' code at_ v:=by
 obtain⟨b,hv,hB⟩:=h;exact⟨b,hv,hB.below hb hB.lt⟩
theorem zIK(e:Nat->Addr)(w:World)(hE:zCB e w):
  Calls Tryz.prog 55 #[.int .i64 3] w fun r w'=>r=.returned (ev e 2)/\w'=w.alloc (.cells (zJu e) 113):=by
 have hB:=Blk.new w (zJu e) 113;have hc:=hB.cell 2;clear hB;have h0:=hE.c0;have h1:=hE.c1;have h2:=hE.c2;have h3:=hE.c3;have h4:=hE.c4;have h5:=hE.c5;have h6:=hE.c6;have h7:=hE.c7;have h8:=hE.c8;have h9:=hE.c9;have h10:=hE.c10;clear hE;go_enter Tryz.func55,Tryz.ntmps55
 go_wp2;go_ret;exact⟨rfl,rfl⟩
theorem zQl(e:Nat->Addr)(w:World)(hE:zCB e w)(at_:Nat):
  Calls Tryz.prog 26 #[.int .i64 3,.int .i64 (at_:Int),.string (zAc [])] w fun r w'=>∃ v,r=.returned v/\Below w.heap.size w w'/\zBp e w' 3 at_ v:=by
 have hS:=zz (zIK e w hE);clear hE;go_enter Tryz.func26,Tryz.ntmps26
 go_wp2_with fail
 refine hS.out.mono ?_;rintro r w1 ⟨rfl,rfl⟩;go_wp2;go_ret;exact⟨_,rfl,((zK _ _).alloc (zQ _) _).alloc (by simp) _,_,rfl,by have h:=Blk.new (w.alloc (.cells (zJu e) 113)) #[ev e (3 - 1),.int .i64 (at_:Int),.string (zAc [])] 83;rw[show (w.alloc (.cells (zJu e) 113)).heap.size=w.heap.size+1 by simp] at h;exact h⟩
theorem zO0(e:Nat->Addr)(w:World)(hE:zCB e w)(hs:21<w.heap.size)(at_:Nat)(v:Value)(hv:zBp e w 3 at_ v):
  Calls Tryz.prog 31 #[v] w fun r w'=>r=.returned (.int .i64 3)/\Below w.heap.size w w':=by
 obtain⟨b,rfl,hB⟩:=hv;obtain⟨w1,hw1⟩:∃ w1,w1=w.alloc (.cells (zJu e) 113):=⟨_,rfl⟩;have hb1:Below w.heap.size w w1:=by rw[hw1];exact (zK _ _).alloc (zQ _) _
 have hR:Blk w1 w.heap.size (zJu e) 113:=by rw[hw1];exact Blk.new _ _ _
 have hE1:=hE.step hb1 hs;have hB1:=hB.below hb1 hB.lt;have hf:=hB1.cell 0
 have ho:∀ i,i<11->i≠2->Calls Tryz.prog 69 #[.iface 81 (.pointer (some ⟨b,0,none⟩)),ev e i] w1 fun e w'=>e=.returned (.bool false)/\w'=w1:=by
  intro i hi hne;obtain⟨ca,ta,ha⟩:=hE1.row 2 (by decide);obtain⟨cb,tb,hb⟩:=hE1.row i hi;exact zC1 b (e i) (e 2) ca cb ta tb w1 hf (hE1.inj _ _ (by decide) hi (Ne.symm hne)) ha hb
 have hO:=zz ho;have hY:=zz (zDq b (e 2) w1 hf);have h0:=hE.c0;have h1:=hE.c1;have h2:=hE.c2;have h3:=hE.c3;have h4:=hE.c4;have h5:=hE.c5;have h6:=hE.c6;have h7:=hE.c7;have h8:=hE.c8;have h9:=hE.c9;have h10:=hE.c10;have r0:=hR.cell 0;have r1:=hR.cell 1;have r2:=hR.cell 2;have r3:=hR.cell 3;have r4:=hR.cell 4;have r5:=hR.cell 5;have r6:=hR.cell 6;have r7:=hR.cell 7;have r8:=hR.cell 8;have r9:=hR.cell 9;have r10:=hR.cell 10;have HW:=zz hw1;have HB:=zz hb1;clear hE hE1 hB hB1 hf hR ho hb1;clear hs hw1;go_enter Tryz.func31,Tryz.ntmps31
 go_wp2;rw[<-HW.out];refine wp_loop_rounds 12 ?_;rw[rounds_succ];go_wp2_with fail
 refine (hO.out 0 (by decide) (by decide)).mono ?_;rintro r w2 ⟨rfl,rfl⟩;go_wp2;rw[rounds_succ];go_wp2_with fail
 refine (hO.out 1 (by decide) (by decide)).mono ?_;rintro r w2 ⟨rfl,rfl⟩;go_wp2;rw[rounds_succ];go_wp2_with fail
 refine hY.out.mono ?_;rintro r w2 ⟨rfl,rfl⟩;go_wp2;rw[rounds_succ];go_wp2_with fail
 refine (hO.out 3 (by decide) (by decide)).mono ?_;rintro r w2 ⟨rfl,rfl⟩;go_wp2;rw[rounds_succ];go_wp2_with fail
 refine (hO.out 4 (by decide) (by decide)).mono ?_;rintro r w2 ⟨rfl,rfl⟩;go_wp2;rw[rounds_succ];go_wp2_with fail
 refine (hO.out 5 (by decide) (by decide)).mono ?_;rintro r w2 ⟨rfl,rfl⟩;go_wp2;rw[rounds_succ];go_wp2_with fail
 refine (hO.out 6 (by decide) (by decide)).mono ?_;rintro r w2 ⟨rfl,rfl⟩;go_wp2;rw[rounds_succ];go_wp2_with fail
 refine (hO.out 7 (by decide) (by decide)).mono ?_;rintro r w2 ⟨rfl,rfl⟩;go_wp2;rw[rounds_succ];go_wp2_with fail
 refine (hO.out 8 (by decide) (by decide)).mono ?_;rintro r w2 ⟨rfl,rfl⟩;go_wp2;rw[rounds_succ];go_wp2_with fail
 refine (hO.out 9 (by decide) (by decide)).mono ?_;rintro r w2 ⟨rfl,rfl⟩;go_wp2;rw[rounds_succ];go_wp2_with fail
 refine (hO.out 10 (by decide) (by decide)).mono ?_;rintro r w2 ⟨rfl,rfl⟩;go_wp2;rw[rounds_succ];go_wp2;go_ret;exact⟨rfl,HB.out⟩
theorem zIy(e:Nat->Addr)(w:World)(hE:zCB e w):
  Calls Tryz.prog 55 #[.int .i64 5] w fun r w'=>r=.returned (ev e 4)/\w'=w.alloc (.cells (zJu e) 113):=by
 have hB:=Blk.new w (zJu e) 113;have hc:=hB.cell 4;clear hB;have h0:=hE.c0;have h1:=hE.c1;have h2:=hE.c2;have h3:=hE.c3;have h4:=hE.c4;have h5:=hE.c5;have h6:=hE.c6;have h7:=hE.c7;have h8:=hE.c8;have h9:=hE.c9;have h10:=hE.c10;clear hE;go_enter Tryz.func55,Tryz.ntmps55
 go_wp2;go_ret;exact⟨rfl,rfl⟩
theorem zQq(e:Nat->Addr)(w:World)(hE:zCB e w)(at_:Nat):
  Calls Tryz.prog 26 #[.int .i64 5,.int .i64 (at_:Int),.string (zAc [])] w fun r w'=>∃ v,r=.returned v/\Below w.heap.size w w'/\zBp e w' 5 at_ v:=by
 have hS:=zz (zIy e w hE);clear hE;go_enter Tryz.func26,Tryz.ntmps26
 go_wp2_with fail
 refine hS.out.mono ?_;rintro r w1 ⟨rfl,rfl⟩;go_wp2;go_ret;exact⟨_,rfl,((zK _ _).alloc (zQ _) _).alloc (by simp) _,_,rfl,by have h:=Blk.new (w.alloc (.cells (zJu e) 113)) #[ev e (5 - 1),.int .i64 (at_:Int),.string (zAc [])] 83;rw[show (w.alloc (.cells (zJu e) 113)).heap.size=w.heap.size+1 by simp] at h;exact h⟩
theorem zPm(e:Nat->Addr)(w:World)(hE:zCB e w)(hs:21<w.heap.size)(at_:Nat)(v:Value)(hv:zBp e w 5 at_ v):
  Calls Tryz.prog 31 #[v] w fun r w'=>r=.returned (.int .i64 5)/\Below w.heap.size w w':=by
 obtain⟨b,rfl,hB⟩:=hv;obtain⟨w1,hw1⟩:∃ w1,w1=w.alloc (.cells (zJu e) 113):=⟨_,rfl⟩;have hb1:Below w.heap.size w w1:=by rw[hw1];exact (zK _ _).alloc (zQ _) _
 have hR:Blk w1 w.heap.size (zJu e) 113:=by rw[hw1];exact Blk.new _ _ _
 have hE1:=hE.step hb1 hs;have hB1:=hB.below hb1 hB.lt;have hf:=hB1.cell 0
 have ho:∀ i,i<11->i≠4->Calls Tryz.prog 69 #[.iface 81 (.pointer (some ⟨b,0,none⟩)),ev e i] w1 fun e w'=>e=.returned (.bool false)/\w'=w1:=by
  intro i hi hne;obtain⟨ca,ta,ha⟩:=hE1.row 4 (by decide);obtain⟨cb,tb,hb⟩:=hE1.row i hi;exact zC1 b (e i) (e 4) ca cb ta tb w1 hf (hE1.inj _ _ (by decide) hi (Ne.symm hne)) ha hb
 have hO:=zz ho;have hY:=zz (zDq b (e 4) w1 hf);have h0:=hE.c0;have h1:=hE.c1;have h2:=hE.c2;have h3:=hE.c3;have h4:=hE.c4;have h5:=hE.c5;have h6:=hE.c6;have h7:=hE.c7;have h8:=hE.c8;have h9:=hE.c9;have h10:=hE.c10;have r0:=hR.cell 0;have r1:=hR.cell 1;have r2:=hR.cell 2;have r3:=hR.cell 3;have r4:=hR.cell 4;have r5:=hR.cell 5;have r6:=hR.cell 6;have r7:=hR.cell 7;have r8:=hR.cell 8;have r9:=hR.cell 9;have r10:=hR.cell 10;have HW:=zz hw1;have HB:=zz hb1;clear hE hE1 hB hB1 hf hR ho hb1;clear hs hw1;go_enter Tryz.func31,Tryz.ntmps31
 go_wp2;rw[<-HW.out];refine wp_loop_rounds 12 ?_;rw[rounds_succ];go_wp2_with fail
 refine (hO.out 0 (by decide) (by decide)).mono ?_;rintro r w2 ⟨rfl,rfl⟩;go_wp2;rw[rounds_succ];go_wp2_with fail
 refine (hO.out 1 (by decide) (by decide)).mono ?_;rintro r w2 ⟨rfl,rfl⟩;go_wp2;rw[rounds_succ];go_wp2_with fail
 refine (hO.out 2 (by decide) (by decide)).mono ?_;rintro r w2 ⟨rfl,rfl⟩;go_wp2;rw[rounds_succ];go_wp2_with fail
 refine (hO.out 3 (by decide) (by decide)).mono ?_;rintro r w2 ⟨rfl,rfl⟩;go_wp2;rw[rounds_succ];go_wp2_with fail
 refine hY.out.mono ?_;rintro r w2 ⟨rfl,rfl⟩;go_wp2;rw[rounds_succ];go_wp2_with fail
 refine (hO.out 5 (by decide) (by decide)).mono ?_;rintro r w2 ⟨rfl,rfl⟩;go_wp2;rw[rounds_succ];go_wp2_with fail
 refine (hO.out 6 (by decide) (by decide)).mono ?_;rintro r w2 ⟨rfl,rfl⟩;go_wp2;rw[rounds_succ];go_wp2_with fail
 refine (hO.out 7 (by decide) (by decide)).mono ?_;rintro r w2 ⟨rfl,rfl⟩;go_wp2;rw[rounds_succ];go_wp2_with fail
 refine (hO.out 8 (by decide) (by decide)).mono ?_;rintro r w2 ⟨rfl,rfl⟩;go_wp2;rw[rounds_succ];go_wp2_with fail
 refine (hO.out 9 (by decide) (by decide)).mono ?_;rintro r w2 ⟨rfl,rfl⟩;go_wp2;rw[rounds_succ];go_wp2_with fail
 refine (hO.out 10 (by decide) (by decide)).mono ?_;rintro r w2 ⟨rfl,rfl⟩;go_wp2;rw[rounds_succ];go_wp2;go_ret;exact⟨rfl,HB.out⟩
theorem zNu(e:Nat->Addr)(w:World)(hE:zCB e w)(b:Addr)(t:Nat)(ht:Blk w t #[.pointer none] 81):
  Calls Tryz.prog 70 #[.iface 81 (.pointer (some b)),.iface 116 (.pointer (some ⟨t,0,none⟩))] w fun r w'=>r=.returned (.bool true)/\Below t w w'/\Blk w' t #[.pointer (some b)] 81:=by
 have hl:=ht.lt;refine (zP0 b ⟨t,0,none⟩ _ w hE.ty (ht.cell 0) (ht.free 0)).mono ?_;rintro r w' ⟨rfl,rfl⟩;refine⟨rfl,?_,?_⟩
 ·have h1:=(zK t w).alloc (Nat.le_of_lt hl) (.cells #[.pointer (some ⟨t,0,none⟩)] 116);have h2:=h1.alloc (by simp;omega) (.cells #[.pointer (some ⟨22,116,none⟩),.pointer (some ⟨w.heap.size,0,none⟩),.int .u64 150] 181);have h3:=h2.alloc (by simp;omega) (.cells #[.pointer (some ⟨22,116,none⟩),.pointer (some ⟨w.heap.size,0,none⟩),.int .u64 150] 181);have h4:=h3.alloc (by simp;omega) (.cells #[.pointer (some b)] 81);exact h4.setCell (p:=⟨t,0,none⟩) (zQ _) _
 ·exact (((((ht.alloc _).alloc _).alloc _).alloc _).set 0 _)
theorem zMg(e:Nat->Addr)(w:World)(hE:zCB e w)(hs:21<w.heap.size)(code at_:Nat)(v:Value)(hv:zBp e w code at_ v):
  Calls Tryz.prog 32 #[v] w fun r w'=>r=.returned (.tuple #[.int .i64 (at_:Int),.bool true])/\Below w.heap.size w w':=by
 obtain⟨b,rfl,hB⟩:=hv;obtain⟨w1,hw1⟩:∃ w1,w1=w.alloc (.cells #[.pointer none] 81):=⟨_,rfl⟩;have hb1:Below w.heap.size w w1:=by rw[hw1];exact (zK _ _).alloc (zQ _) _
 have ht:Blk w1 w.heap.size #[.pointer none] 81:=by rw[hw1];exact Blk.new _ _ _
 have HA:=zz (zNu e w1 (hE.step hb1 hs) ⟨b,0,none⟩ w.heap.size ht);have HBl:=zz (hB.below hb1 hB.lt);have HL:=zz hB.lt;have HB:=zz hb1;have HW:=zz hw1;clear hE hs hB ht hb1 hw1;go_enter Tryz.func32,Tryz.ntmps32
 go_wp2_with fail
 rw[<-HW.out];refine HA.out.mono ?_;rintro r w2 ⟨rfl,hb2,hBl2⟩;have c0:=hBl2.cell 0;have c1:=(HBl.out.below hb2 HL.out).cell 1;have HB2:=zz (HB.out.trans hb2);clear hBl2 hb2;go_wp2;exact bodyPost_ret (v:=.tuple #[.int .i64 (at_:Int),.bool true]) (by simp[results,Tryz.results32,go_sem]) rfl ⟨rfl,HB2.out⟩
theorem zIp(e:Nat->Addr)(w:World)(hE:zCB e w)(hs:21<w.heap.size)(code at_:Nat)(v:Value)(hv:zBp e w code at_ v):
  Calls Tryz.prog 33 #[v] w fun r w'=>r=.returned (.tuple #[.string (zAc []),.bool true])/\Below w.heap.size w w':=by
 obtain⟨b,rfl,hB⟩:=hv;obtain⟨w1,hw1⟩:∃ w1,w1=w.alloc (.cells #[.pointer none] 81):=⟨_,rfl⟩;have hb1:Below w.heap.size w w1:=by rw[hw1];exact (zK _ _).alloc (zQ _) _
 have ht:Blk w1 w.heap.size #[.pointer none] 81:=by rw[hw1];exact Blk.new _ _ _
 have HA:=zz (zNu e w1 (hE.step hb1 hs) ⟨b,0,none⟩ w.heap.size ht);have HBl:=zz (hB.below hb1 hB.lt);have HL:=zz hB.lt;have HB:=zz hb1;have HW:=zz hw1;clear hE hs hB ht hb1 hw1;go_enter Tryz.func33,Tryz.ntmps33
 go_wp2_with fail
 rw[<-HW.out];refine HA.out.mono ?_;rintro r w2 ⟨rfl,hb2,hBl2⟩;have c0:=hBl2.cell 0;have c1:=(HBl.out.below hb2 HL.out).cell 2;have HB2:=zz (HB.out.trans hb2);clear hBl2 hb2;go_wp2;exact bodyPost_ret (v:=.tuple #[.string (zAc []),.bool true]) (by simp[results,Tryz.results33,go_sem]) rfl ⟨rfl,HB2.out⟩
theorem zIu(e:Nat->Addr)(w:World)(hE:zCB e w)(hs:21<w.heap.size)(code at_:Nat)(hc:code=3 \/ code=5)(v:Value)(hv:zBp e w code at_ v):
  Calls Tryz.prog 10 #[v,.int .i64 (code:Int),.int .i64 (at_:Int)] w fun r w'=>r=.returned (.bool true)/\Below w.heap.size w w':=by
 have hC:Calls Tryz.prog 31 #[v] w fun r w'=>r=.returned (.int .i64 (code:Int))/\Below w.heap.size w w':=by
  rcases hc with rfl|rfl
  ·exact zO0 e w hE hs at_ v hv
  ·exact zPm e w hE hs at_ v hv
 have HC:=zz hC;have hc0:(code:Int)≠0:=by omega
 have hse:(zAc []).toList.isEmpty=true:=by rw[show (zAc []).toList=[] by rw[ByteArray.toList];unfold ByteArray.toList.loop;rfl];rfl
 have HE:=zz hE;have HS:=zz hs;have HV:=zz hv;clear hC hc hE hs hv;go_enter Tryz.func10,Tryz.ntmps10
 go_wp2_with fail
 refine HC.out.mono ?_;rintro r w1 ⟨rfl,hb1⟩;have HB1:=zz hb1;have HE1:=zz (HE.out.step hb1 HS.out);have HS1:=zz (Nat.lt_of_lt_of_le HS.out hb1.size);have HV1:=zz (HV.out.step hb1);clear hb1;go_wp2_with fail
 refine (zMg e w1 HE1.out HS1.out code at_ v HV1.out).mono ?_;rintro r w2 ⟨rfl,hb2⟩;have HB2:=zz (HB1.out.trans (hb2.mono HB1.out.size));have HE2:=zz (HE1.out.step hb2 HS1.out);have HS2:=zz (Nat.lt_of_lt_of_le HS1.out hb2.size);have HV2:=zz (HV1.out.step hb2);clear hb2;go_wp2_with fail
 refine (zIp e w2 HE2.out HS2.out code at_ v HV2.out).mono ?_;rintro r w3 ⟨rfl,hb3⟩;have HB3:=zz (HB2.out.trans (hb3.mono HB2.out.size));clear hb3;go_wp2;go_ret;exact⟨rfl,HB3.out⟩
end Go.Proofs.YtcanfakaigpkgaaGreatDoor.D
namespace Go.Proofs.YtcanfakaigpkgaaGreatDoor.D
open Go Go.RowKit Limb
structure GV (w:World):Prop where
 g:GW w
 t64:∀ i,i<64->w.cell? ⟨17,i,none⟩=some (.int .u8 ((Lib.deBruijn64tab.getD i 0:Nat):Int))
theorem GV.size{w:World}(h:GV w):21<w.heap.size:=h.g.size
theorem GV.below{w w':World}{B:Nat}(h:GV w)(hb:Below B w w')(hB:21<B):GV w':=
 ⟨h.g.below hb hB,fun i hi=>by rw[hb.cell (p:=⟨17,i,none⟩) (by simp;omega)];exact h.t64 i hi⟩
theorem GV.step{w w':World}(h:GV w)(hb:Below w.heap.size w w'):GV w':=h.below hb h.size
theorem zKD(w:World)(hG:GV w)(x:Nat)(hx:x<18446744073709551616)(h0:x≠0):
  ∃ n o:Nat,x=2 ^ n*(2*o+1)/\n<64/\∀ k,Calls Tryz.prog 220 #[.int .u64 (x:Int)] (w.drewN k) fun e w'=>e=.returned (.int .i64 (n:Int))/\w'=w.drewN k:=by
 obtain⟨m,hm,hk⟩:=Lib.ctzFrom_spec 64 x (by omega) hx;obtain⟨hlow,_⟩:=Lib.lowest_bit 64 x h0 hx;have e:Lib.ctz 64 x=Lib.ctzFrom 64 x:=by simp[Lib.ctz,h0]
 rw[e] at hlow;generalize Lib.ctzFrom 64 x=n at *;obtain⟨hi,htab⟩:=Lib.deBruijn64_at n hk;have hcell:=hG.t64 _ hi;rw[htab] at hcell;refine⟨n,m,hm,hk,fun k=>zGu (w.drewN k) (x:Int) _ (n:Int) (beq_eq_false_iff_ne.2 (by omega)) hi (by omega) hcell ?_⟩;have h1:IntKind.u64.wrap (-(x:Int))=((2 ^ 64 - x:Nat):Int):=by rw[IntKind.wrap_u64];omega
 rw[h1,zDE x _ hx (by omega),hlow]
 have h2:IntKind.u64.wrap (((2 ^ n:Nat):Int)*285870213051353865)=((2 ^ n*285870213051353865 % 18446744073709551616:Nat):Int):=by
  rw[IntKind.wrap_u64];generalize 2 ^ n=p;omega
 rw[h2];generalize 2 ^ n*285870213051353865 % 18446744073709551616=p;omega
theorem zNx{n o n' o':Nat}(h1:2 ^ n*(2*o+1)=2 ^ n'*(2*o'+1)):n=n'/\o=o':=by
 rcases Nat.lt_trichotomy n' n with h|h|h
 ·exfalso
  obtain⟨d,rfl⟩:∃ d,n=n'+(d+1):=⟨n - n' - 1,by omega⟩;rw[Nat.pow_add,Nat.mul_assoc] at h1;have h5:=Nat.eq_of_mul_eq_mul_left (Nat.two_pow_pos n') h1;rw[Nat.pow_succ,Nat.mul_assoc] at h5;generalize (2*o+1)=z at h5;have:2 ^ d*(2*z)=2*(2 ^ d*z):=by grind
  omega
 ·subst h;have:=Nat.eq_of_mul_eq_mul_left (Nat.two_pow_pos _) h1;exact⟨rfl,by omega⟩
 ·exfalso
  obtain⟨d,rfl⟩:∃ d,n'=n+(d+1):=⟨n' - n - 1,by omega⟩;rw[Nat.pow_add,Nat.mul_assoc] at h1;have h5:=Nat.eq_of_mul_eq_mul_left (Nat.two_pow_pos n) h1;rw[Nat.pow_succ,Nat.mul_assoc] at h5;generalize (2*o'+1)=z at h5;have:2 ^ d*(2*z)=2*(2 ^ d*z):=by grind
  omega
theorem zJk(s:Nat):sM s<9007199254740992:=by unfold sM;split <;> omega
theorem zGl(w:World)(hG:GV w)(b:Nat)(hb:b<18446744073709551616)(hs:b % 9223372036854775808<9218868437227405312)(h0:b % 9223372036854775808≠0):
  ∃ n o:Nat,sM (b % 9223372036854775808)=2 ^ n*(2*o+1)/\n<64/\Calls Tryz.prog 175 #[.int .u64 (b:Int)] w fun e' w'=>e'=.returned (.tuple #[.bool (decide (9223372036854775808<=b)),.int .u64 ((2*o+1:Nat):Int),.int .i64 ((sK (b % 9223372036854775808):Int) - 1074+(n:Int)),.bool true])/\Below w.heap.size w w':=by
 have HS:=zz (fun w hG=>zCz w hG b hb);obtain⟨s,es⟩:∃ s,s=b % 9223372036854775808:=⟨_,rfl⟩;have hsl:s<9223372036854775808:=by omega
 rw[<-es] at HS h0 hs ⊢;clear es hb;generalize decide (9223372036854775808<=b)=sg at HS ⊢;obtain⟨n,o,hno,hn64,_⟩:=zKD w hG (sM s) (Nat.lt_of_lt_of_le (zJk s) (by omega)) (by have:=zFW (s:=s) (by omega);omega);refine⟨n,o,hno,hn64,?_⟩
 have HCZ:Hid (∀ w' k,Below w.heap.size w w'->Calls Tryz.prog 220 #[.int .u64 (sM s:Int)] (w'.drewN k) fun e w''=>e=.returned (.int .i64 (n:Int))/\w''=w'.drewN k):=zz (fun w' k hb=>by
  obtain⟨n',o',h1,h2,h3⟩:=zKD w' (hG.step hb) (sM s) (Nat.lt_of_lt_of_le (zJk s) (by omega)) (by have:=zFW (s:=s) (by omega);omega);rw[hno] at h1;have:n'=n:=(zNx h1).1.symm;subst this;exact h3 k)
 have HG:=zz hG
 have HD:Hid ((sM s:Int) / 2 ^ n=((2*o+1:Nat):Int)):=zz (by
  rw[hno];have:((2 ^ n*(2*o+1):Nat):Int)=((2*o+1:Nat):Int)*2 ^ n:=by push_cast;rw[Int.mul_comm]
  rw[this];refine Int.mul_ediv_cancel _ ?_;have h:=Nat.two_pow_pos n;have h':((2 ^ n:Nat):Int)=2 ^ n:=by push_cast;rfl
  rw[<-h'];omega)
 clear hG hno;generalize ((2*o+1:Nat):Int)=m1 at HD ⊢;have hle:¬ (9218868437227405312:Int)<=(s:Int):=by omega
 have hnz:((s:Int) == 0)=false:=beq_eq_false_iff_ne.2 (by omega);have HI:Hid (∀ w,Calls Tryz.prog 133 #[.agg #[.int .i64 52,.int .i64 (-1074),.int .i64 11]] w fun e w'=>e=.returned (.int .u64 9218868437227405312)/\Below w.heap.size w w'):=zz (fun w=>zDH w);go_enter Tryz.func175,Tryz.ntmps175
 go_wp2_with fail
 refine (zCy w HG.out.g.s).mono ?_;rintro e' w1 ⟨rfl,hb1⟩;have hG1:=HG.out.step hb1;go_upto_region 2 with fail
 have hbx:Below w1.heap.size w1 (w1.alloc (.cells #[.int .i64 52,.int .i64 (-1074),.int .i64 11] 144)):=(zK _ _).alloc (zQ _) _;have hB:=Blk.new w1 #[.int .i64 52,.int .i64 (-1074),.int .i64 11] 144;have hG2:=hG1.step hbx;have hbb:=hb1.trans (hbx.mono hb1.size);obtain⟨X,hX⟩:∃ X,X=w1.heap.size:=⟨_,rfl⟩;rw[<-hX] at hB ⊢;clear hb1 hG1 hbx hX;generalize w1.alloc (.cells #[.int .i64 52,.int .i64 (-1074),.int .i64 11] 144)=w2 at hB hG2 hbb ⊢;go_wp2_with fail
 refine (HS.out w2 hG2.g.s).mono ?_;rintro e' w3 ⟨rfl,hb3⟩;have hB3:=hB.below hb3 hB.lt;have hbb3:=hbb.trans (hb3.mono hbb.size);have d0:=hB3.cell 0;have d1:=hB3.cell 1;have d2:=hB3.cell 2;simp only[zv,zk,zx] at d0 d1 d2;clear hb3 hB hbb hG2 HS;go_wp2_with fail
 refine (HI.out w3).mono ?_;rintro e' w4 ⟨rfl,hb4⟩;have hB4:=hB3.below hb4 hB3.lt;have hbb4:=hbb3.trans (hb4.mono hbb3.size);clear d0 d1 d2 hb4 hbb3 hB3;have HB4:=zz hB4;have HBB:=zz hbb4;have d0:=hB4.cell 0;have d1:=hB4.cell 1;have d2:=hB4.cell 2;simp only[zv,zk,zx] at d0 d1 d2;have HCz:Hid (∀ q,Calls Tryz.prog 220 #[.int .u64 (sM s:Int)] (w4.drewN q) fun e w'=>e=.returned (.int .i64 (n:Int))/\w'=w4.drewN q):=zz (fun q=>HCZ.out w4 q HBB.out);clear hB4 hbb4 HG HCZ HI;by_cases hk:s<4503599627370496
 ·have e1:sM s=s:=by unfold sM;rw[if_pos hk]
  have e2:sK s=0:=by unfold sK;rw[if_pos hk]
  rw[e1] at HCz HD;have HE2:=zz e2;have hex:(s:Int) / 4503599627370496=0:=by omega
  have x6:IntKind.i64.wrap (-1074+(n:Int))=-1074+(n:Int):=zY _ (by omega);clear hk hsl hs h0 e1 e2;generalize (s:Int)=Z at *;go_wp2;go_quiet (fail)
  go_wp2_with fail
  refine (HCz.out _).mono ?_;rintro e' w5 ⟨rfl,rfl⟩;have hd:=HD.out;go_wp2;go_quiet (fail)
  go_wp2;refine bodyPost_ret (v:=.tuple #[.bool sg,.int .u64 m1,.int .i64 (-1074+(n:Int)),.bool true]) (by simp[results,Tryz.results175,go_sem]) rfl ⟨?_,zAd (zAd HBB.out _) _⟩;rw[HE2.out,show ((0:Nat):Int) - 1074=-1074 from rfl]
 ·obtain⟨ex,hexd⟩:∃ ex,ex=s / 4503599627370496:=⟨_,rfl⟩;obtain⟨fr,hfrd⟩:∃ fr,fr=s % 4503599627370496:=⟨_,rfl⟩;have e1:sM s=4503599627370496+fr:=by unfold sM;rw[if_neg hk,hfrd]
  have e2:sK s=ex - 1:=by unfold sK;rw[if_neg hk,hexd]
  have hex0:0<ex:=by omega
  have hex1:ex<2048:=by omega
  rw[e1] at HCz HD;have HE2:Hid ((sK s:Int) - 1074=-1074+((ex:Int) - 1)):=zz (by rw[e2];omega);have hex:(s:Int) / 4503599627370496=(ex:Int):=by omega
  have ha:=zHw (b:=s) (by omega);rw[<-hfrd] at ha;have ho:=zKt (b:=fr) (by omega);have x0:(0:Int)<(ex:Int):=by omega
  have x3:IntKind.i64.wrap (ex:Int)=(ex:Int):=zY _ (by omega);have x4:IntKind.i64.wrap ((ex:Int) - 1)=(ex:Int) - 1:=zY _ (by omega);have x5:IntKind.i64.wrap (-1074+((ex:Int) - 1))=-1074+((ex:Int) - 1):=zY _ (by omega);have x6:IntKind.i64.wrap (-1074+((ex:Int) - 1)+(n:Int))=-1074+((ex:Int) - 1)+(n:Int):=zY _ (by omega);clear hk hsl hs h0 e1 e2 hexd hfrd;generalize ((4503599627370496+fr:Nat):Int)=M at *;generalize (s:Int)=Z at *;generalize (fr:Int)=FR at *;go_wp2;go_quiet (fail)
  go_wp2;go_quiet (fail)
  go_wp2_with fail
  refine (HCz.out _).mono ?_;rintro e' w5 ⟨rfl,rfl⟩;have hd:=HD.out;go_wp2;go_quiet (fail)
  go_wp2;refine bodyPost_ret (v:=.tuple #[.bool sg,.int .u64 m1,.int .i64 (-1074+((ex:Int) - 1)+(n:Int)),.bool true]) (by simp[results,Tryz.results175,go_sem]) rfl ⟨?_,zAd (zAd HBB.out _) _⟩;rw[HE2.out]
end Go.Proofs.YtcanfakaigpkgaaGreatDoor.D
