/-
  Of the proof that the law DiagUnlike answers true at every two values: a part, without conditions of its own.
-/
import Derived.Test.YtcanfakaigpkgaaGreatDoorPart03
import Derived.Test.YtcanfakaigpkgaaGreatDoorPart06
set_option linter.unusedVariables false
set_option linter.unusedSimpArgs false
set_option maxRecDepth 100000
set_option maxHeartbeats 8000000
namespace Go.Proofs.YtcanfakaigpkgaaGreatDoor.D
open Go Go.RowKit
def Own(B:Nat)(w:World)(v:Value)(L:List UInt8):Prop:=w.ownsRow B 5 1 v L.length (Lib.byteCells L)
theorem Own.below{B:Nat}{w w':World}{v:Value}{L:List UInt8}(h:Own B w v L)(hb:Below w.heap.size w w'):Own B w' v L:=by
 obtain⟨hl,h0|⟨g,cap,cur,hv,hBg,hg,r⟩⟩:=h
 ·exact⟨hl,.inl h0⟩
 ·exact⟨hl,.inr ⟨g,cap,cur,hv,hBg,by rw[hb.block g (Array.getElem?_eq_some_iff.1 hg).1];exact hg,r⟩⟩
def KB(W w:World):Prop:=Below W.heap.size W w
theorem KB.step{W w w':World}(h:KB W w)(hb:Below w.heap.size w w'):KB W w':=Below.trans h (hb.mono (Below.size h))
theorem zPg(w:World):(Instr.makeSlice 47 (.int .i64 0) (.int .i64 2)).run Tryz.prog w=.ok (.slice (some ⟨w.heap.size,0,none⟩) 0 2) (w.alloc (.cells #[.int .u8 0,.int .u8 0] 5)):=by kernel_rfl
theorem zFY(w:World):
  Calls Tryz.prog 111 #[.string ⟨#[48,48,102,102]⟩] w fun r w'=>∃ v,r=.returned (.tuple #[v,.bool true])/\Below w.heap.size w w'/\Own w.heap.size w' v [0,255]:=by
 obtain⟨i0,hi,hz0,hz1,hz2⟩:=zDg;have HI:=zz hi;have HN0:Hid (∀ W w,KB W w->Calls Tryz.prog 167 #[.string ⟨#[48,49,50,51,52,53,54,55,56,57,97,98,99,100,101,102]⟩,.int .u8 48] w fun r w'=>r=.returned (.int .i64 0)/\KB W w'):=zz (fun W w h=>(zJP w).mono fun r w' ⟨a,b⟩=>⟨a,h.step b⟩);have HN1:Hid (∀ W w,KB W w->Calls Tryz.prog 167 #[.string ⟨#[48,49,50,51,52,53,54,55,56,57,97,98,99,100,101,102]⟩,.int .u8 102] w fun r w'=>r=.returned (.int .i64 15)/\KB W w'):=zz (fun W w h=>(zIo w).mono fun r w' ⟨a,b⟩=>⟨a,h.step b⟩);obtain⟨w1,hw1⟩:∃ w1,w1=w.alloc (.cells #[.int .u8 0,.int .u8 0] 5):=⟨_,rfl⟩;have hb1:Below w.heap.size w w1:=by rw[hw1];exact (zK _ _).alloc (zQ _) _
 have hO1:Own w.heap.size w1 (.slice (some ⟨w.heap.size,0,none⟩) 0 2) []:=by rw[hw1];exact World.ownsRow_made w _ 2 (zQ _) (by unfold maxLen;omega) rfl
 have HW1:=zz hw1;have HB1:=zz hb1;have HO1:=zz hO1;clear hi hw1 hb1 hO1;have hmk:=zPg w;go_enter Tryz.func111,Tryz.ntmps111
 go_upto_region 5 with fail
 change Code.wp _ _ _ _ (w.alloc (.cells #[.int .u8 0,.int .u8 0] 5));rw[<-HW1.out];have HO:Hid (∀ w' v L,Own w.heap.size w' v L->w'.ownsRow w.heap.size 5 1 v L.length (Lib.byteCells L)):=zz (fun _ _ _ h=>h);go_loopw [4,5,6,7] (fun v i _ _ wr=>∃ k:Nat,k<=2/\i=.int .i64 ((2*k:Nat):Int)/\Hid (Own w.heap.size wr v (([0,255]:List UInt8).take k))/\Hid (Below w.heap.size w wr)) (fun _ i _ _ _=>4 - (intOf i).toNat)
 case atStart=>exact⟨0,by omega,rfl,HO1,HB1⟩
 case round=>
  obtain⟨k,hk2,rfl,HOr,HBr⟩:=hrel;rcases (by omega:k=0 \/ k=1 \/ k=2) with rfl|rfl|rfl
  ·have o0:bits .or .i64 0 0=0:=by decide
   have HK:Hid (KB wr wr.drew):=zz (Below.drew (zK _ _));have hk:=HK.out;go_upto_region 7 with fail
   go_region_with (go_at_call 167;go_must (refine (HN0.out wr _ (by assumption)).mono ?_;rintro e w9 ⟨rfl,hk⟩))
   all_goals (
    have hO9:Own w.heap.size w9 u4 []:=HOr.out.below hk;have hOv:=World.ownsRow.lt hO9;have HB9:Hid (Below w.heap.size w w9):=zz (HBr.out.trans (Below.mono hk HBr.out.size));have hO9':=HO.out _ _ _ hO9;clear HK hOv;go_wp2_with (at_builtin;refine wpList_append_own _ rfl _ _ 47 rfl w.heap.size 5 i0 (.int .u8 0) 1 1 Tryz.underlying47 HI.out hz0 hz1 hz2 rfl (by decide) _ _ _ rfl (World.ownsRow.alloc hO9' _) ⟨w9.heap.size,0,none⟩ 1 1 [.int .u8 0] rfl rfl ?c1 ?c2 ?c3 ?c4 ?c5 ?_)
    case c1=>
     intro j u hj
     match j,hj with
     | 0,hj=>simp at hj;subst hj;simp[Addr.add]
    case c2=>intro u hu;simp at hu;subst hu;rfl
    case c3=>unfold maxLen;simp
    case c4=>simp
    case c5=>have:=HB9.out.size;simp;omega
    intro v' w2 hown' hgrow _;have hb2:Below w.heap.size w w2:=(HB9.out.alloc HB9.out.size _).grown hgrow (by have:=HB9.out.size;simp;omega) (fun k hk=>(World.ownsRow.lt hO9 k hk).1);have HO2:Hid (Own w.heap.size w2 v' ([0,255].take 1)):=zz hown';have HB2:=zz hb2;clear hown' hgrow hb2 hO9 hO9';go_wp2;go_roundw
    case rel=>exact⟨1,by omega,rfl,HO2,HB2⟩
    case measure=>simp[intOf])
  ·have o0:bits .or .i64 240 15=255:=by decide
   have HK:Hid (KB wr wr.drew):=zz (Below.drew (zK _ _));have hk:=HK.out;go_upto_region 7 with fail
   go_region_with (go_at_call 167;go_must (refine (HN1.out wr _ (by assumption)).mono ?_;rintro e w9 ⟨rfl,hk⟩))
   all_goals (
    have hO9:Own w.heap.size w9 u4 [0]:=HOr.out.below hk;have hOv:=World.ownsRow.lt hO9;have HB9:Hid (Below w.heap.size w w9):=zz (HBr.out.trans (Below.mono hk HBr.out.size));have hO9':=HO.out _ _ _ hO9;clear HK hOv;go_wp2_with (at_builtin;refine wpList_append_own _ rfl _ _ 47 rfl w.heap.size 5 i0 (.int .u8 0) 1 1 Tryz.underlying47 HI.out hz0 hz1 hz2 rfl (by decide) _ _ _ rfl (World.ownsRow.alloc hO9' _) ⟨w9.heap.size,0,none⟩ 1 1 [.int .u8 255] rfl rfl ?c1 ?c2 ?c3 ?c4 ?c5 ?_)
    case c1=>
     intro j u hj
     match j,hj with
     | 0,hj=>simp at hj;subst hj;simp[Addr.add]
    case c2=>intro u hu;simp at hu;subst hu;rfl
    case c3=>unfold maxLen;simp
    case c4=>simp
    case c5=>have:=HB9.out.size;simp;omega
    intro v' w2 hown' hgrow _;have hb2:Below w.heap.size w w2:=(HB9.out.alloc HB9.out.size _).grown hgrow (by have:=HB9.out.size;simp;omega) (fun k hk=>(World.ownsRow.lt hO9 k hk).1);have HO2:Hid (Own w.heap.size w2 v' ([0,255].take 2)):=zz hown';have HB2:=zz hb2;clear hown' hgrow hb2 hO9 hO9';go_wp2;go_roundw
    case rel=>exact⟨2,by omega,rfl,HO2,HB2⟩
    case measure=>simp[intOf])
  ·go_wp2;exact bodyPost_ret (v:=.tuple #[u4,.bool true]) (by simp[results,Tryz.results111,go_sem]) rfl ⟨_,rfl,HBr.out,HOr.out⟩
end Go.Proofs.YtcanfakaigpkgaaGreatDoor.D
