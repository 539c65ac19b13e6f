/-
  Of the proof that the law DiagUnlike answers true at every two values: a part, without conditions of its own.
-/
import Derived.Test.YtcanfakaigpkgaaGreatDoorPart09
import Derived.Laws.BytesArg
import Derived.Test.YtcanfakaigpkgaaGreatDoorPart08
set_option linter.unusedVariables false
set_option linter.unusedSimpArgs false
set_option maxRecDepth 100000
set_option maxHeartbeats 8000000
namespace Go.Proofs.YtcanfakaigpkgaaGreatDoor.D
open Go Go.RowKit Limb
attribute [local go_sem high] zAI zAg zBv zAz
def zDR:List UInt8:=[32,9,10,13,47]
def btw(S:List UInt8):Nat->Nat->Nat
 | 0,a=>a
 | f+1,a=>if S.getD a 0=47 then (let q:=Lib.indexByte (sub S (a+1) S.length) 47;if 0<=q then btw S f (a+1+q.toNat+1) else a)
   else if a<S.length/\S.getD a 0 ∈ zDR then btw S f (a+1) else a
theorem zQm:∀ (L:List UInt8) (c:UInt8),Lib.indexByte L c<L.length:=by
 intro L
 induction L with
 | nil=>intro c;simp[Lib.indexByte]
 | cons b r ih=>
  intro c;have:=ih c;simp only[Lib.indexByte,List.length_cons]
  split
  ·omega
  ·split <;> omega
theorem zHa(w:World)(p:Nat)(S:List UInt8)(a b:Nat)(op:Bool)(h:Rd w p S a op)(hS:S.length<=1099511627776)(f0:Nat)(hb:btw S f0 a=b)(hout:b<S.length->S.getD b 0 ∉ zDR)(ha:a<=S.length):
  Calls Tryz.prog 28 #[.pointer (some ⟨p,0,none⟩)] w fun e w'=>e=.returned (.tuple #[])/\Rs p S b op w w':=by
 have HR:=zz h;have HB:=zz hb;clear h hb;go_enter Tryz.func28,Tryz.ntmps28
 go_wp2_with fail
 go_loopw [2] (fun _ wr=>∃ f k:Nat,k<=S.length/\Hid (btw S f k=b)/\Rs p S k op w wr) (fun _ wr=>S.length - zPI wr p)
 case atStart=>exact⟨f0,a,ha,HB,Rs.refl HR.out⟩
 case round=>
  obtain⟨f,k,hk,hbt,hr⟩:=hrel;have HRs:=zz hr;clear hr HB;by_cases h1:k<S.length/\S.getD k 0 ∈ zDR
  ·cases f with
   | zero=>
    have:k=b:=hbt.out;subst this
    exact absurd h1.2 (hout h1.1)
   | succ f=>
    obtain⟨h1,h2⟩:=h1;go_wp2_with fail
    refine (zBu wr p S k op HRs.out.1 zDR h1 h2).mono ?_;rintro e w1 ⟨rfl,n,rfl⟩;have hr1:=HRs.out.drewN n;have HA:=zz HRs.out.1.atOf;clear HRs;generalize wr.drewN n=w1 at hr1 ⊢;have HR1:=zz hr1;clear hr1;by_cases h3:S.getD k 0=47
    ·go_wp2_with fail
     refine (zKZ w1 p S k op HR1.out.1 h1 hS 47 (by unfold ch b8;rw[h3];rfl)).mono ?_;rintro e w2 ⟨rfl,hr2⟩;have hr3:=HR1.out.trans hr2;have hbt2:=hbt.out;simp only[btw] at hbt2;rw[if_pos h3] at hbt2;obtain⟨k1,hk1⟩:∃ k1,k1=k+1:=⟨_,rfl⟩;have hk2:k1<=S.length:=by omega
     have hk3:k<k1:=by omega
     rw[<-hk1] at hr3 hbt2;clear hk1;have c0:=hr3.1.at0;have c1:=hr3.1.at1;have HR3:=zz hr3;clear hr2 hr3 HR1;have HI:=zz (Tryz.strings_IndexByte (zAc (sub S k1 S.length)) 47);have e47:((47:Int).toNat.toUInt8)=47:=by decide
     obtain⟨q,hq⟩:∃ q,q=Lib.indexByte (sub S k1 S.length) 47:=⟨_,rfl⟩
     have hqlt:q<((S.length - k1:Nat):Int):=by
      rw[hq];have:=zQm (sub S k1 S.length) 47
      rwa [zNN _ _ _ (zQ _)] at this
     rw[<-hq] at hbt2;have el:(zAc (sub S k1 S.length)).data.toList=sub S k1 S.length:=rfl;rw[e47,el,<-hq] at HI;clear hq el e47
     have hq0:0<=q:=by
      rcases Int.lt_or_le q 0 with h|h
      ·rw[if_neg (by omega)] at hbt2;subst hbt2;exact absurd h2 (hout h1)
      ·exact h
     rw[if_pos hq0] at hbt2;obtain⟨m,rfl⟩:=Int.eq_ofNat_of_zero_le hq0;rw[Int.toNat_natCast] at hbt2;have HBT:=zz hbt2;clear hbt hbt2 h2 h3;go_wp2;go_quiet ((go_at_call 58;exact Calls.quiet_of_same (HI.out _)))
     have hr4:=HR3.out.drewN nq;clear HR3 c0 c1;generalize w2.drewN nq=w3 at hr4 ⊢;have c1:=hr4.1.at1;have f1:w3.frozen? ⟨p,1,none⟩=false:=Blk.free hr4.1 1;have hr5:Rs p S (k1+m+1) op w (w3.setCell ⟨p,1,none⟩ (.int .i64 ((k1+m+1:Nat):Int))):=⟨hr4.1.set1 _,hr4.2.setCell p 1 (.inl rfl) _⟩;have HR5:=zz hr5;have HA5:=zz hr5.1.atOf;clear hr4 hr5;have g3:IntKind.i64.wrap ((m:Int)+1)=(m:Int)+1:=zY _ (by omega);have g4:IntKind.i64.wrap ((k1:Int)+((m:Int)+1))=(k1:Int)+((m:Int)+1):=zY _ (by omega);go_wp2;rw[show ((k1:Int)+((m:Int)+1))=((k1+m+1:Nat):Int) by simp;omega];go_roundw
     case rel=>exact⟨f,k1+m+1,by omega,HBT,HR5.out⟩
     case measure=>rw[HA.out,HA5.out];omega
    ·have hbt2:=hbt.out;simp only[btw] at hbt2;rw[if_neg h3,if_pos ⟨h1,h2⟩] at hbt2;have HBT:=zz hbt2;clear hbt hbt2;go_wp2_with fail
     refine (zDV w1 p S k op HR1.out.1 47 (fun _ h=>h3 ?_)).mono ?_
     ·unfold ch b8 at h;apply UInt8.toNat_inj.1;have e:(47:UInt8).toNat=47:=rfl;rw[e];omega
     rintro e w2 ⟨rfl,n2,rfl⟩;have hr4:=HR1.out.drewN n2;clear HR1;generalize w1.drewN n2=w3 at hr4 ⊢;have c1:=hr4.1.at1;have f1:w3.frozen? ⟨p,1,none⟩=false:=Blk.free hr4.1 1;have hr5:Rs p S (k+1) op w (w3.setCell ⟨p,1,none⟩ (.int .i64 ((k+1:Nat):Int))):=⟨hr4.1.set1 _,hr4.2.setCell p 1 (.inl rfl) _⟩;have HR5:=zz hr5;have HA5:=zz hr5.1.atOf;clear hr4 hr5 h3 h2;have g3:IntKind.i64.wrap ((k:Int)+1)=(k:Int)+1:=zY _ (by omega);go_wp2;rw[show ((k:Int)+1)=((k+1:Nat):Int) by simp];go_roundw
     case rel=>exact⟨f,k+1,by omega,HBT,HR5.out⟩
     case measure=>rw[HA.out,HA5.out];omega
  ·have hkb:k=b:=by
    have hbt2:=hbt.out
    cases f with
    | zero=>exact hbt2
    | succ f=>
     simp only[btw] at hbt2
     have h47:¬ S.getD k 0=47:=by
      intro h47;apply h1;refine⟨?_,by rw[h47];decide⟩;rcases Nat.lt_or_ge k S.length with h|h
      ·exact h
      ·rw[zw,List.getElem?_eq_none h] at h47;exact absurd h47 (by decide)
     rw[if_neg h47,if_neg h1] at hbt2;exact hbt2
   subst hkb;clear h1 hbt;go_wp2_with fail
   refine (zAT wr p S k op HRs.out.1 zDR hout).mono ?_;rintro e w1 ⟨rfl,n,rfl⟩;have HR1:=zz (HRs.out.drewN n);clear HRs;go_wp2;go_end0
   exact⟨rfl,HR1.out⟩
end Go.Proofs.YtcanfakaigpkgaaGreatDoor.D
namespace Go.Proofs.YtcanfakaigpkgaaGreatDoor.D
open Go Go.RowKit Limb
theorem zGz(l:List UInt8):strOfNums (l.map fun b=>(b.toNat:Int))=zAc l:=by
 apply ByteArray.ext;apply Array.ext';show (strOfNums _).data.toList=l;rw[strOfNums_data,List.map_map]
 conv=>rhs;rw[<-List.map_id l]
 apply List.map_congr_left;intro a _;simp
theorem zAN(w:World)(b off n cap:Nat)(l:List UInt8)(hn:l.length=n)(hc:∀ i,i<n->w.cell? ⟨b,off+i,none⟩=some (.int .u8 ((l.getD i 0).toNat:Int))):
  (convert 47 9 (.slice (some ⟨b,off,none⟩) n cap)).run Tryz.prog w=.ok (.string (zAc l)) w:=by
 rw[<-zGz];refine run_convert_bytes_arg (P:=Tryz.prog) w 47 5 Tryz.underlying47 Tryz.underlying5 b off n cap _ (by simp[hn]) (fun i hi=>?_) 9 Tryz.underlying9;rw[hc i hi];rw[zw,zw,List.getElem?_map,zZ (by omega)];rfl
theorem zHo(w:World)(a:Option Addr)(c:Nat):
  Calls Tryz.prog 132 #[.slice a 1 c] w fun e w'=>e=.returned (.tuple #[])/\w'=w:=by
 go_enter Tryz.func132,Tryz.ntmps132
 go_wp2;go_loop [2,3] (fun i j=>i=.int .i64 0/\j=.int .i64 0) (fun _ _=>0)
 case atStart=>exact⟨rfl,rfl⟩
 case round=>
  obtain⟨rfl,rfl⟩:=hrel;go_wp2;go_end0
  exact⟨rfl,rfl⟩
theorem zL5(w:World)(R:Nat)(v:Value)(x:Nat)(h:zAf w v (zAb x))(hx:x<1000000000)(hR:Blk w R #[v] 26):
  Calls Tryz.prog 179 #[.pointer (some ⟨R,0,none⟩)] w fun e w'=>e=.returned (.int .u32 (x:Int))/\∃ w1 b c,Below w.heap.size w w1/\w'=w1.setCell ⟨R,0,none⟩ (.slice b 0 c):=by
 have hl1:(zAb x).length<=1:=zAq (by omega);have HS:=zz (zDu w v _ 1000000000 h (by omega) (by decide) (by decide));rw[zAe,Nat.mod_eq_of_lt hx,Nat.div_eq_of_lt hx,zAn] at HS;have c0:=hR.cell 0;simp only[zv,zk] at c0;have HR:=zz hR;clear h hR hl1;go_enter Tryz.func179,Tryz.ntmps179
 go_wp2_with fail
 refine HS.out.mono ?_;rintro e w1 ⟨hb1,v1,rfl,h1⟩;obtain⟨b,c,rfl⟩:=h1.slice;have hR1:=HR.out.below hb1 HR.out.lt;have f0:=hR1.free 0;have d0:=hR1.cell 0;simp only[zv,zk] at d0;have HB:=zz hb1;clear hb1 h1 hR1 HS c0;go_wp2;go_ret;exact⟨rfl,w1,b,c,HB.out,rfl⟩
theorem zJr(w:World)(v:Value)(x:Nat)(h:zAf w v (zAb x))(h1:1<=x)(h9:x<10):
  Calls Tryz.prog 127 #[v] w fun e w'=>e=.returned (.string (zAc [dig x]))/\Below w.heap.size w w':=by
 have hmf:∀ (fn:Fn) (first cap:Array Value) (w:World),(Instr.makeFunc fn first cap).run Tryz.prog w=.ok (.func fn first cap) w:=fun _ _ _ _=>rfl
 have hfw:∀ (args:Array Value) (w:World),(callFunc 179 args).run Tryz.prog w=.ok (.enter 179 args) w:=fun _ _=>by simp[callFunc,go_sem,Tryz.func179];rfl
 have hlx:zAb x=[x]:=zAu (by omega) (by omega);have HNM:=zz (zBi w v _ h (by rw[hlx];simp));rw[zJq,hlx] at HNM;clear h;obtain⟨y,hy⟩:∃ y:UInt8,y=dig x:=⟨_,rfl⟩;have HY:Hid (48+(x:Int)=(y.toNat:Int)):=zz (by rw[hy];unfold dig;simp;omega);rw[<-hy];clear hy;go_enter Tryz.func127,Tryz.ntmps127
 go_wp2_with fail
 refine HNM.out.mono ?_;rintro e w1 ⟨hb1,v1,rfl,h1',_⟩;obtain⟨b1,c1,rfl⟩:=h1'.slice;simp only[List.length_singleton] at h1' ⊢;have hb2:Below w1.heap.size w1 (w1.alloc (.cells #[.slice b1 1 c1] 26)):=(zK _ _).alloc (zQ _) _;have hR:=Blk.new w1 #[.slice b1 1 c1] 26;have HT:=zz (zL5 (w1.alloc (.cells #[.slice b1 1 c1] 26)) w1.heap.size (.slice b1 1 c1) x (by rw[hlx];exact h1'.below hb2) (by omega) hR);have HB2:=zz (hb1.trans (hb2.mono hb1.size));have HR:=zz hR;have hs1:w.heap.size<=w1.heap.size:=hb1.size;have hs2:(w1.alloc (.cells #[.slice b1 1 c1] 26)).heap.size=w1.heap.size+1:=by simp
 have HS2:=zz hs2;clear hb1 hb2 h1' hR HNM hs2;go_upto_region 4 with fail
 change Code.wp _ _ _ _ (w1.alloc (.cells #[.slice b1 1 c1] 26));generalize w1.alloc (.cells #[.slice b1 1 c1] 26)=w2 at HT HB2 HR HS2 ⊢;have c0:=HR.out.cell 0;simp only[zv,zk] at c0;go_loopw [5,6,7] (fun bk _ _ wr=>(bk=.slice none 0 0/\wr=w2) \/ (∃ g c b' c',bk=.slice (some ⟨g,0,none⟩) 1 c/\wr.cell? ⟨w1.heap.size,0,none⟩=some (.slice b' 0 c')/\wr.cell? ⟨g,0,none⟩=some (.int .u8 (y.toNat:Int))/\Hid (Below w.heap.size w wr))) (fun bk _ _ _=>match bk with|.slice none _ _=>1|_=>0)
 case atStart=>exact .inl ⟨rfl,rfl⟩
 case round=>
  rcases hrel with ⟨rfl,rfl⟩|⟨g,c,b',c',rfl,k0,kg,HB⟩
  ·go_wp2_with fail
   refine HT.out.mono ?_;rintro e w3 ⟨rfl,w4,b',c',hb4,rfl⟩;have hR4:=HR.out.below hb4 HR.out.lt;have hR5:=hR4.set 0 (.slice b' 0 c');have d0:=hR5.cell 0;simp only[zy,zq,zv,zk] at d0;have hB5:Below w.heap.size w (w4.setCell ⟨w1.heap.size,0,none⟩ (.slice b' 0 c')):=(HB2.out.trans (hb4.mono (by have:=HS2.out;omega))).setCell (p:=⟨w1.heap.size,0,none⟩) hs1 _;have HB5:=zz hB5;have HR5:=zz hR5;generalize w4.setCell ⟨w1.heap.size,0,none⟩ (.slice b' 0 c')=w5 at d0 HB5 HR5 ⊢;clear hb4 hR4 hR5 hB5 HT c0 HR HB2 HS2;go_wp2;go_loopw [5,6,7] (fun bk n k wr=>(k=.int .i64 0/\n=.int .u32 (x:Int)/\bk=.slice none 0 0/\wr=w5) \/ (k=.int .i64 1/\n=.int .u32 0/\∃ g c b' c',bk=.slice (some ⟨g,0,none⟩) 1 c/\wr.cell? ⟨w1.heap.size,0,none⟩=some (.slice b' 0 c')/\wr.cell? ⟨g,0,none⟩=some (.int .u8 (y.toNat:Int))/\Hid (Below w.heap.size w wr))) (fun _ _ k _=>1 - (intOf k).toNat)
   case atStart=>exact .inl ⟨rfl,rfl,rfl,rfl⟩
   case round=>
    rcases hrel with ⟨rfl,rfl,rfl,rfl⟩|⟨rfl,rfl,g,c,b'',c'',rfl,k0,kg,HB⟩
    ·have g1:(0:Int)<(x:Int):=by omega
     go_upto_region 8 with fail
     obtain⟨i0,hi,hz0,hz1,hz2⟩:=zDg;have HI:=zz hi;have g2:(x:Int) % 10=(x:Int):=by omega
     have g3:(x:Int) / 10=0:=by omega
     have g4:(x:Int).tdiv 10=0:=by rw[Int.tdiv_eq_ediv_of_nonneg (by omega)];omega
     have g5:(x:Int).tmod 10=(x:Int):=by rw[Int.tmod_eq_emod_of_nonneg (by omega)];omega
     clear hi;go_wp2_with (at_builtin;refine wpList_append_own _ rfl _ _ 47 rfl wr.heap.size 5 i0 (.int .u8 0) 1 1 Tryz.underlying47 HI.out hz0 hz1 hz2 rfl (by decide) _ _ _ rfl (World.ownsRow_nil _ _ _ _) ⟨wr.heap.size,0,none⟩ 1 1 [.int .u8 (y.toNat:Int)] rfl rfl ?c1 ?c2 ?c3 ?c4 ?c5 ?_)
     case c1=>
      intro j u hj
      match j,hj with
      | 0,hj=>simp at hj;subst hj;rw[zAQ];simp;rw[<-HY.out]
     case c2=>intro u hu;simp at hu;subst hu;rfl
     case c3=>decide
     case c4=>decide
     case c5=>simp
     intro v' w7 hown hgrow hnn
     have hfin:∃ g c,v'=.slice (some ⟨g,0,none⟩) 1 c/\w7.cell? ⟨g,0,none⟩=some (.int .u8 (y.toNat:Int)):=by
      obtain⟨hlen,⟨rfl,h0⟩|⟨g,cp,cur,rfl,hg,hc,hle,hm,hsz,htk⟩⟩:=hown
      ·simp at h0
      ·refine⟨g,cp,rfl,?_⟩;have e:w7.cell? ⟨g,0,none⟩=cur[0]?:=by simp[World.cell?,hc]
       have h9:(cur.toList.take (1*1))[0]?=some (.int .u8 (y.toNat:Int)):=by rw[htk];rfl
       rw[e,<-Array.getElem?_toList];rw[List.getElem?_take,if_pos (by omega)] at h9;exact h9
     obtain⟨g,c,rfl,kg⟩:=hfin;have hb7:Below wr.heap.size wr w7:=((zK _ _).alloc (zQ _) _).trans ⟨hgrow.os,hgrow.tape,hgrow.output,hgrow.size,fun k hk=>hgrow.block k (by simp;omega) (fun e=>by simp[Value.ownBlock] at e)⟩;have hk0:w7.cell? ⟨w1.heap.size,0,none⟩=some (.slice b' 0 c'):=by rw[hb7.cell (p:=⟨w1.heap.size,0,none⟩) HR5.out.lt];exact d0
     have HB7:=zz (HB5.out.trans (hb7.mono HB5.out.size));clear hown hgrow hnn hb7 HI;go_wp2;go_roundw
     case rel=>exact .inr ⟨rfl,rfl,g,c,b',c',rfl,hk0,kg,HB7⟩
     case measure=>simp[intOf]
    ·have g1:¬ (0:Int)<0:=by omega
     go_wp2;go_roundw
     case rel=>exact .inr ⟨g,c,b'',c'',rfl,k0,kg,HB⟩
     case measure=>simp
  ·have hs:=zAN wr g 0 1 c [y] rfl (fun i hi=>by
   have h0:i=0:=by omega
   subst h0;exact kg)
   go_wp2_with fail
   refine (zHo wr _ _).mono ?_;rintro e w3 ⟨rfl,rfl⟩;go_wp2;go_ret;exact⟨rfl,HB.out⟩
theorem zLm(w:World)(v:Value)(x:Nat)(h:zAf w v (zAb x))(h1:1<=x)(h9:x<10):
  Calls Tryz.prog 79 #[.agg #[.bool false,v]] w fun e w'=>e=.returned (.string (zAc [dig x]))/\Below w.heap.size w w':=by
 obtain⟨b,c,rfl⟩:=h.slice;have hb:Below w.heap.size w (w.alloc (.cells #[.bool false,.slice b (zAb x).length c] 28)):=(zK _ _).alloc (zQ _) _;have hlx:zAb x=[x]:=zAu (by omega) (by omega);have HC:=zz (zEN _ _ _ (h.below hb) (by rw[hlx];simp));have HB:=zz hb;rw[zAe] at HC;rw[hlx] at HB HC ⊢;clear h hb;go_enter Tryz.func79,Tryz.ntmps79
 go_wp2_with fail
 refine HC.out.mono ?_;rintro e w1 ⟨hb1,s,v1,rfl,hs,hl1,_⟩;have HB1:=zz (HB.out.trans (hb1.mono HB.out.size));have HD:=zz (zJr w1 v1 x (by rw[hlx];exact hl1) h1 h9);have g0:(s == -1)=false:=beq_eq_false_iff_ne.2 (by omega);clear hb1 hl1 hlx;go_wp2_with fail
 refine HD.out.mono ?_;rintro e w2 ⟨rfl,hb2⟩;have HB2:=zz (HB1.out.trans (hb2.mono HB1.out.size));clear hb2;go_wp2;go_ret;exact⟨rfl,HB2.out⟩
theorem zHi(w:World)(v:Value)(x:Nat)(h:zAf w v (zAb x))(h1:1<=x)(h9:x<10):
  Calls Tryz.prog 40 #[.agg #[.bool false,v]] w fun e w'=>e=.returned (.string (zAc [dig x]))/\Below w.heap.size w w':=by
 obtain⟨b,c,rfl⟩:=h.slice;have hb:Below w.heap.size w (w.alloc (.cells #[.bool false,.slice b (zAb x).length c] 28)):=(zK _ _).alloc (zQ _) _;have hlx:zAb x=[x]:=zAu (by omega) (by omega);have HL:=zz (zBs _ _ _ (h.below hb) (by rw[hlx];simp));have HS:=zz (zLm _ _ x (h.below hb) h1 h9);have HB:=zz hb;rw[zAe] at HL;have hbl:zA7 x<=4:=zCF (by omega);rw[hlx] at HB HL HS ⊢;generalize zA7 x=q at HL hbl;have g0:(q:Int)<=4096:=by omega
 clear h hb hlx;go_enter Tryz.func40,Tryz.ntmps40
 go_wp2_with fail
 refine HL.out.mono ?_;rintro e w1 ⟨rfl,rfl⟩;go_wp2_with fail
 refine HS.out.mono ?_;rintro e w2 ⟨rfl,hb2⟩;have HB2:=zz (HB.out.trans (hb2.mono HB.out.size));clear hb2;go_wp2;go_ret;exact⟨rfl,HB2.out⟩
theorem zJ2(w:World)(v:Value)(h:zAf w v [0,0,96]):
  Calls Tryz.prog 233 #[v,.int .i64 17] w fun e w'=>Below w.heap.size w w'/\∃ v',e=.returned (.tuple #[v',.bool false,.bool true])/\zAf w' v' [0,3145728]:=by
 have HC1:=zz (zAC w v [0,0,96] h);rw[show zDY [0,0,96]=[0,0,96] by decide] at HC1;have hmk:(Instr.makeSlice 26 (.int .i64 3) (.int .i64 3)).run Tryz.prog w=.ok (.slice (some ⟨w.heap.size,0,none⟩) 3 3) (w.alloc (.cells (zAi (List.replicate 3 0)) 139)):=zA2 w 3 (by decide);obtain⟨w1,hw1⟩:∃ w1,w1=w.alloc (.cells (zAi (List.replicate 3 0)) 139):=⟨_,rfl⟩;have hb1:Below w.heap.size w w1:=by rw[hw1];exact (zK _ _).alloc (zQ _) _
 have hB1:Blk w1 w.heap.size (zAi [0,0,0]) 139:=by rw[hw1];exact Blk.new _ _ _
 rw[<-hw1] at hmk;have HB1:=zz hb1;have HBL1:=zz hB1;clear h hw1 hb1 hB1;go_enter Tryz.func233,Tryz.ntmps233
 go_wp2_with fail
 refine HC1.out.mono ?_;rintro r w2 ⟨rfl,u,rfl,hu⟩;obtain⟨_,⟨_,h0⟩|⟨b1,o1,k1,rfl,hk1,hk2,hlt1,hcs⟩⟩:=hu
 ·simp at h0
 have hcopy:∀ ty,(Builtin.copy_ #[26,26] ty #[.slice (some ⟨w2.heap.size,0,none⟩) 3 3,.slice (some ⟨b1,o1,none⟩) 3 k1]).run Tryz.prog w1=.ok (.int .i64 3) (w1.setCells w2.heap.size 0 [.int .u32 0,.int .u32 0,.int .u32 96]):=fun ty=>
  run_copy_cells (P:=Tryz.prog) w1 26 26 ty 139 w2.heap.size 0 3 3 ⟨b1,o1,none⟩ 3 k1 [.int .u32 0,.int .u32 0,.int .u32 96] Tryz.underlying26 zHP rfl (fun j v hj=>by
   have hj2:j<3:=by have:=(List.getElem?_eq_some_iff.1 hj).1;simpa using this
   have h:=(HB1.out.cell (p:=⟨b1,o1+j,none⟩) hlt1).trans (hcs j hj2);have e:(⟨b1,o1,none⟩:Addr).add j=⟨b1,o1+j,none⟩:=by simp[Addr.add]
   rw[e,h,<-hj];rcases (by omega:j=0 \/ j=1 \/ j=2) with rfl|rfl|rfl <;> rfl) (fun j hj=>by
   have hj2:j<3:=by simpa using hj
   rw[HBL1.out.cell];rcases (by omega:j=0 \/ j=1 \/ j=2) with rfl|rfl|rfl <;> rfl) (fun j hj=>HBL1.out.free _) (fun x hx=>by simp at hx;rcases hx with rfl|rfl|rfl <;> rfl)
 obtain⟨w4,hw4⟩:∃ w4,w4=w1.setCells w2.heap.size 0 [.int .u32 0,.int .u32 0,.int .u32 96]:=⟨_,rfl⟩;rw[<-hw4] at hcopy
 have hB4:Blk w4 w2.heap.size (zAi [0,0,96]) 139:=by
  rw[hw4];exact (((HBL1.out.set 0 _).set 1 _).set 2 _)
 have hb4:Below w2.heap.size w2 w4:=by
  rw[hw4];exact (((HB1.out.setCell (zQ _) _).setCell (zQ _) _).setCell (zQ _) _)
 have HB4:=zz hb4;have HBL4:=zz hB4;have c0:=hB4.cell 0;simp only[zAi,zAP,List.map,zv,zk,zx] at c0;clear HC1 hcs hw4 hb4 hB4;go_upto_region 7 with fail
 refine wp_loop_rounds 1 ?_;rw[rounds_succ];go_upto_region 17 with fail
 clear c0;refine wp_loop_rounds 4 ?_;rw[rounds_succ];have c0:=HBL4.out.cell 0;have f0:=HBL4.out.free 0;have hBn:Blk (w4.setCell ⟨w2.heap.size,0,none⟩ (.int .u32 0)) w2.heap.size (zAi [0,0,96]) 139:=HBL4.out.set 0 _;have hbn:=HB4.out.setCell (p:=⟨w2.heap.size,0,none⟩) (zQ _) (.int .u32 0);have HBLa0:=zz hBn;have HBa0:=zz hbn;clear hBn hbn;simp only[zAi,zAP,List.map,zv,zk,zx] at c0;go_upto_region 21 with fail
 clear c0 f0;generalize (w4.setCell ⟨w2.heap.size,0,none⟩ (.int .u32 0))=wa0 at HBLa0 HBa0 ⊢;have c0:=HBLa0.out.cell 0;have c1:=HBLa0.out.cell 1;have f0:=HBLa0.out.free 0;simp only[zAi,zAP,List.map,zv,zk,zx] at c0 c1;have o0:bits .or .u32 0 0=0:=by decide
 have hBn:Blk (wa0.setCell ⟨w2.heap.size,0,none⟩ (.int .u32 0)).drew w2.heap.size (zAi [0,0,96]) 139:=(HBLa0.out.set 0 _).drew;have hbn:=(HBa0.out.setCell (p:=⟨w2.heap.size,0,none⟩) (zQ _) (.int .u32 0)).drew;have HBLb0:=zz hBn;have HBb0:=zz hbn;clear hBn hbn;go_region
 clear c0 c1 f0 o0;generalize (wa0.setCell ⟨w2.heap.size,0,none⟩ (.int .u32 0)).drew=wb0 at HBLb0 HBb0 ⊢;clear HBa0 HBLa0;go_wp2;rw[rounds_succ];have c1:=HBLb0.out.cell 1;have f1:=HBLb0.out.free 1;have hBn:Blk (wb0.setCell ⟨w2.heap.size,1,none⟩ (.int .u32 0)) w2.heap.size (zAi [0,0,96]) 139:=HBLb0.out.set 1 _;have hbn:=HBb0.out.setCell (p:=⟨w2.heap.size,1,none⟩) (zQ _) (.int .u32 0);have HBLa1:=zz hBn;have HBa1:=zz hbn;clear hBn hbn;simp only[zAi,zAP,List.map,zv,zk,zx] at c1;go_upto_region 21 with fail
 clear c1 f1;generalize (wb0.setCell ⟨w2.heap.size,1,none⟩ (.int .u32 0))=wa1 at HBLa1 HBa1 ⊢;have c1:=HBLa1.out.cell 1;have c2:=HBLa1.out.cell 2;have f1:=HBLa1.out.free 1;simp only[zAi,zAP,List.map,zv,zk,zx] at c1 c2;have o1:bits .or .u32 0 3145728=3145728:=by decide
 have hBn:Blk (wa1.setCell ⟨w2.heap.size,1,none⟩ (.int .u32 3145728)).drew w2.heap.size (zAi [0,3145728,96]) 139:=(HBLa1.out.set 1 _).drew;have hbn:=(HBa1.out.setCell (p:=⟨w2.heap.size,1,none⟩) (zQ _) (.int .u32 3145728)).drew;have HBLb1:=zz hBn;have HBb1:=zz hbn;clear hBn hbn;go_region
 clear c1 c2 f1 o1;generalize (wa1.setCell ⟨w2.heap.size,1,none⟩ (.int .u32 3145728)).drew=wb1 at HBLb1 HBb1 ⊢;clear HBa1 HBLa1;go_wp2;rw[rounds_succ];have c2:=HBLb1.out.cell 2;have f2:=HBLb1.out.free 2;have hBn:Blk (wb1.setCell ⟨w2.heap.size,2,none⟩ (.int .u32 0)) w2.heap.size (zAi [0,3145728,0]) 139:=HBLb1.out.set 2 _;have hbn:=HBb1.out.setCell (p:=⟨w2.heap.size,2,none⟩) (zQ _) (.int .u32 0);have HBLa2:=zz hBn;have HBa2:=zz hbn;clear hBn hbn;simp only[zAi,zAP,List.map,zv,zk,zx] at c2;go_upto_region 22 with fail
 clear c2 f2;generalize (wb1.setCell ⟨w2.heap.size,2,none⟩ (.int .u32 0))=wa2 at HBLa2 HBa2 ⊢;go_wp2;rw[rounds_succ];have HFIN:=HBLa2;have HBF:=HBa2;have HCF:=zz (zAC _ _ _ (HFIN.out.limbs (n:=3) (by unfold Fit;decide) rfl (by decide)));rw[show zDY [0,3145728,0]=[0,3145728] by decide] at HCF;go_wp2_with fail
 refine HCF.out.mono ?_;rintro r w9 ⟨rfl,v',rfl,hl'⟩;have HLL:=zz hl';clear hl';go_wp2;exact bodyPost_ret (v:=.tuple #[v',.bool false,.bool true]) (by simp[results,Tryz.results233,go_sem]) rfl ⟨HBF.out,_,rfl,HLL.out⟩
def zH0(s:List UInt8)(j:Nat):Option Int:=if j<s.length then (if bits .and .u8 (ch s j) 192=128 then some (wrap32 (bits .and .u8 (ch s j) 63)) else none) else none
def shR(r b:Int):Int:=bits .or .i32 (wrap32 (r*2 ^ 6)) b
def zB8(s:List UInt8)(at_:Nat):Nat->Nat->Int->Option Int
 | 0,_,r=>some r
 | k+1,i,r=>match zH0 s (at_+i) with
  | none=>none
  | some b=>zB8 s at_ k (i+1) (shR r b)
def zB4(r:Int):Bool:=decide (0<=r) && decide (r<=1114111) && (decide (r<55296) || decide (57343<r))
def zPa(n:Nat)(least:Int):Option Int->Option Nat
 | none=>none
 | some r=>if r<least \/ zB4 r=false then none else some n
def zIM(s:List UInt8)(at_ n:Nat)(least r0:Int):Option Nat:=zPa n least (zB8 s at_ (n - 1) 1 r0)
def zCW(s:List UInt8)(at_:Nat):Option Nat:=
 if ch s at_<128 then some 1
 else if bits .and .u8 (ch s at_) 224=192 then zIM s at_ 2 128 (wrap32 (bits .and .u8 (ch s at_) 31))
 else if bits .and .u8 (ch s at_) 240=224 then zIM s at_ 3 2048 (wrap32 (bits .and .u8 (ch s at_) 15))
 else if bits .and .u8 (ch s at_) 248=240 then zIM s at_ 4 65536 (wrap32 (bits .and .u8 (ch s at_) 7))
 else none
def zFL(s:List UInt8):Nat->Nat->Nat
 | 0,at_=>at_
 | k+1,at_=>if at_<s.length then (match zCW s at_ with|none=>at_|some n=>zFL s k (at_+n)) else at_
theorem zNJ{s:List UInt8}{k i:Nat}(h:i<s.length):zFL s (k+1) i=match zCW s i with|none=>i|some m=>zFL s k (i+m):=by
 show (if i<s.length then _ else _)=_;rw[if_pos h]
theorem zOM{s:List UInt8}{k i:Nat}(h:¬ i<s.length):zFL s k i=i:=by
 cases k with
 | zero=>rfl
 | succ k=>
  show (if i<s.length then _ else _)=_;rw[if_neg h]
theorem zKn{s:List UInt8}{at_ n:Nat}(h:zCW s at_=some n):1<=n/\n<=4:=by
 unfold zCW zIM zPa at h
 split at h
 ·simp at h;omega
 ·split at h
  ·split at h
   ·cases h
   ·split at h
    ·cases h
    ·simp at h;omega
  ·split at h
   ·split at h
    ·cases h
    ·split at h
     ·cases h
     ·simp at h;omega
   ·split at h
    ·split at h
     ·cases h
     ·split at h
      ·cases h
      ·simp at h;omega
    ·cases h
theorem zIE(w:World)(r:Int):Calls Tryz.prog 178 #[.int .i32 r] w fun e w'=>e=.returned (.bool (zB4 r))/\w'=w:=by
 obtain⟨p,hp⟩:∃ p,p=zB4 r:=⟨_,rfl⟩;rw[<-hp];by_cases h1:0<=r
 ·by_cases h2:r<=1114111
  ·by_cases h3:r<55296
   ·have hb:p=true:=by rw[hp];unfold zB4;simp[h1,h2,h3]
    subst hb;clear hp;go_enter Tryz.func178,Tryz.ntmps178
    go_wp2;go_ret;exact⟨rfl,rfl⟩
   ·by_cases h4:57343<r
    ·have hb:p=true:=by rw[hp];unfold zB4;simp[h1,h2,h4]
     subst hb;clear hp;go_enter Tryz.func178,Tryz.ntmps178
     go_wp2;go_ret;exact⟨rfl,rfl⟩
    ·have hb:p=false:=by rw[hp];unfold zB4;simp[h3,h4]
     subst hb;clear hp;go_enter Tryz.func178,Tryz.ntmps178
     go_wp2;go_ret;exact⟨rfl,rfl⟩
  ·have hb:p=false:=by rw[hp];unfold zB4;simp[h2]
   subst hb;clear hp;go_enter Tryz.func178,Tryz.ntmps178
   go_wp2;go_ret;exact⟨rfl,rfl⟩
 ·have hb:p=false:=by rw[hp];unfold zB4;simp[h1]
  subst hb;clear hp;go_enter Tryz.func178,Tryz.ntmps178
  go_wp2;go_ret;exact⟨rfl,rfl⟩
def zCX:Option Int->Value
 | none=>.tuple #[.int .i32 0,.bool false]
 | some b=>.tuple #[.int .i32 b,.bool true]
theorem zHp(w:World)(s:List UInt8)(j:Nat)(hs:s.length<=9223372036854775000):Calls Tryz.prog 177 #[.string (zAc s),.int .i64 (j:Int)] w fun e w'=>e=.returned (zCX (zH0 s j))/\w'=w:=by
 have hsz:(zAc s).size=s.length:=zAg s;by_cases h1:j<s.length
 ·have hI:¬ (s.length:Int)<=(j:Int):=by omega
  have hx:=zAI w s j h1;by_cases h2:bits .and .u8 (ch s j) 192=128
  ·have hq:(bits .and .u8 (ch s j) 192 != 128)=false:=by rw[h2];rfl
   rw[show zH0 s j=some (wrap32 (bits .and .u8 (ch s j) 63)) by unfold zH0;rw[if_pos h1,if_pos h2]];unfold zCX;clear h2 h1;generalize ch s j=c at *;generalize (j:Int)=J at *;generalize zAc s=S at *;go_enter Tryz.func177,Tryz.ntmps177
   go_wp2;exact bodyPost_ret (v:=.tuple #[.int .i32 (wrap32 (bits .and .u8 c 63)),.bool true]) (by simp[results,Tryz.results177,go_sem]) rfl ⟨rfl,rfl⟩
  ·have hq:(bits .and .u8 (ch s j) 192 != 128)=true:=bne_iff_ne.2 h2;rw[show zH0 s j=none by unfold zH0;rw[if_pos h1,if_neg h2]];unfold zCX;clear h2 h1;generalize ch s j=c at *;generalize (j:Int)=J at *;generalize zAc s=S at *;go_enter Tryz.func177,Tryz.ntmps177
   go_wp2;exact bodyPost_ret (v:=.tuple #[.int .i32 0,.bool false]) (by simp[results,Tryz.results177,go_sem]) rfl ⟨rfl,rfl⟩
 ·have hI:(s.length:Int)<=(j:Int):=by omega
  rw[show zH0 s j=none by unfold zH0;rw[if_neg h1]];unfold zCX;clear h1;generalize (j:Int)=J at *;generalize zAc s=S at *;go_enter Tryz.func177,Tryz.ntmps177
  go_wp2;exact bodyPost_ret (v:=.tuple #[.int .i32 0,.bool false]) (by simp[results,Tryz.results177,go_sem]) rfl ⟨rfl,rfl⟩
def zOy(r:Int):Option Nat->Value
 | none=>.tuple #[.int .i32 0,.int .i64 0,.bool false]
 | some n=>.tuple #[.int .i32 r,.int .i64 (n:Int),.bool true]
theorem zIA(w:World)(s:List UInt8)(j:Nat)(hj:j<s.length)(hs:s.length<=9223372036854775000):Calls Tryz.prog 125 #[.string (zAc s),.int .i64 (j:Int)] w fun e w'=>(∃ r,e=.returned (zOy r (zCW s j)))/\w'=w:=by
 have hsz:(zAc s).size=s.length:=zAg s;have hJ0:¬ (j:Int)<0:=by omega
 have hJ1:¬ (s.length:Int)<=(j:Int):=by omega
 have hx:=zAI w s j hj;have HFO:=zz (fun w k=>zHp w s k hs);have HF:=zz (show zCW s j=_ from rfl);have HPO:=zz zIE;obtain⟨c,hc⟩:∃ c,c=ch s j:=⟨_,rfl⟩;have HFI:Hid (zCW s j=if c<128 then some 1 else if bits .and .u8 c 224=192 then zIM s j 2 128 (wrap32 (bits .and .u8 c 31)) else if bits .and .u8 c 240=224 then zIM s j 3 2048 (wrap32 (bits .and .u8 c 15)) else if bits .and .u8 c 248=240 then zIM s j 4 65536 (wrap32 (bits .and .u8 c 7)) else none):=zz (by rw[hc];rfl);rw[<-hc] at hx;have HJL:Hid (j<s.length/\s.length<=9223372036854775000):=zz ⟨hj,hs⟩;have hjl:(j:Int)<9223372036854775000:=by omega
 clear hc HF hj hs;obtain⟨fr,hfr⟩:∃ fr,fr=zCW s j:=⟨_,rfl⟩;rw[<-hfr] at HFI ⊢;clear hfr;by_cases h1:c<128
 ·have HR:Hid (fr=some 1):=zz (by rw[HFI.out,if_pos h1]);clear HFI;go_enter Tryz.func125,Tryz.ntmps125
  go_wp2;refine bodyPost_ret (v:=.tuple #[.int .i32 (wrap32 c),.int .i64 1,.bool true]) (by simp[results,Tryz.results125,go_sem]) rfl ⟨⟨wrap32 c,by rw[HR.out];rfl⟩,rfl⟩
 have q1:(bits .and .u8 c 224 == 192)=decide (bits .and .u8 c 224=192):=by by_cases h:bits .and .u8 c 224=192 <;> simp[h]
 have q2:(bits .and .u8 c 240 == 224)=decide (bits .and .u8 c 240=224):=by by_cases h:bits .and .u8 c 240=224 <;> simp[h]
 have q3:(bits .and .u8 c 248 == 240)=decide (bits .and .u8 c 248=240):=by by_cases h:bits .and .u8 c 248=240 <;> simp[h]
 by_cases k1:bits .and .u8 c 224=192
 ·rw[decide_eq_true k1] at q1;have HR:Hid (fr=zIM s j 2 128 (wrap32 (bits .and .u8 c 31))):=zz (by rw[HFI.out,if_neg h1,if_pos k1]);clear HFI;obtain⟨R,hR⟩:∃ R,R=zB8 s j (2 - 1) 1 (wrap32 (bits .and .u8 c 31)):=⟨_,rfl⟩;have HRR:Hid (fr=zPa 2 128 R):=zz (by rw[HR.out,zIM,<-hR]);have HC0:=zz hR;clear HR hR;go_enter Tryz.func125,Tryz.ntmps125
  go_wp2;go_loopw [4,5,9] (fun rv nv iv wr=>∃ (i:Nat) (r:Int),1<=i/\i<=2/\iv=.int .i64 (i:Int)/\nv=.int .i64 2/\rv=.int .i32 r/\Hid (zB8 s j (2 - i) i r=R)/\wr=w) (fun _ _ iv _=>2 - (intOf iv).toNat)
  case atStart=>exact⟨1,_,by omega,by omega,rfl,rfl,rfl,zz HC0.out.symm,(by first|rfl|trivial)⟩
  case round=>
   obtain⟨i,r,hi1,hi2,rfl,rfl,rfl,HO,rfl⟩:=hrel;by_cases hin:i<2
   ·have hI:(i:Int)<2:=by omega
    have hji:IntKind.i64.wrap ((j:Int)+(i:Int))=((j+i:Nat):Int):=by rw[zY _ (by omega)];omega
    have HFV:=zz (HFO.out wr (j+i));have gi:IntKind.i64.wrap ((i:Int)+1)=(i:Int)+1:=zY _ (by omega);obtain⟨k,hk⟩:∃ k,2 - i=k+1:=⟨2 - i - 1,by omega⟩;have HK:Hid (2 - (i+1)=k):=zz (by omega);have HO2:Hid (R=match zH0 s (j+i) with|none=>none|some b=>zB8 s j k (i+1) (shR r b)):=zz (by rw[<-HO.out,hk,zB8]);clear HO hk
    cases hf:zH0 s (j+i) with
    | none=>
     rw[hf] at HFV HO2;unfold zCX at HFV;have HZ:Hid (fr=none):=zz (by rw[HRR.out,HO2.out];rfl);clear HRR HO2 hf;go_wp2_with fail
     refine HFV.out.mono ?_;rintro e w1 ⟨rfl,rfl⟩;go_wp2
     refine bodyPost_ret (v:=.tuple #[.int .i32 0,.int .i64 0,.bool false]) (by simp[results,Tryz.results125,go_sem]) rfl ⟨⟨0,by rw[HZ.out];rfl⟩,rfl⟩
    | some b=>
     rw[hf] at HFV HO2;unfold zCX at HFV;have HO3:Hid (zB8 s j (2 - (i+1)) (i+1) (shR r b)=R):=zz (by rw[HK.out,HO2.out]);clear HO2 hf;go_wp2_with fail
     refine HFV.out.mono ?_;rintro e w1 ⟨rfl,rfl⟩;go_wp2;go_roundw
     case rel=>exact⟨i+1,shR r b,by omega,by omega,by simp,rfl,by first|rfl|(unfold shR;rfl),HO3,(by first|rfl|trivial)⟩
     case measure=>simp[intOf];omega
   ·obtain rfl:i=2:=by omega
    have hI:¬ ((2:Nat):Int)<2:=by omega
    have HO2:Hid (R=some r):=zz (by rw[<-HO.out,Nat.sub_self,zB8]);have HR2:Hid (fr=if r<128 \/ zB4 r=false then none else some 2):=zz (by rw[HRR.out,HO2.out];rfl);have HP:=zz (HPO.out wr r);clear HO HO2 HRR;by_cases hl:r<128
    ·have HZ:Hid (fr=none):=zz (by rw[HR2.out,if_pos (.inl hl)]);clear HR2;go_wp2;refine bodyPost_ret (v:=.tuple #[.int .i32 0,.int .i64 0,.bool false]) (by simp[results,Tryz.results125,go_sem]) rfl ⟨⟨0,by rw[HZ.out];rfl⟩,rfl⟩
    ·cases hp:zB4 r with
     | false=>
      have HZ:Hid (fr=none):=zz (by rw[HR2.out,if_pos (.inr hp)]);rw[hp] at HP;clear HR2 hp;go_wp2_with fail
      refine HP.out.mono ?_;rintro e w1 ⟨rfl,rfl⟩;go_wp2
      refine bodyPost_ret (v:=.tuple #[.int .i32 0,.int .i64 0,.bool false]) (by simp[results,Tryz.results125,go_sem]) rfl ⟨⟨0,by rw[HZ.out];rfl⟩,rfl⟩
     | true=>
      have HZ:Hid (fr=some 2):=zz (by rw[HR2.out,if_neg (by rw[hp];simp;omega)]);rw[hp] at HP;clear HR2 hp;go_wp2_with fail
      refine HP.out.mono ?_;rintro e w1 ⟨rfl,rfl⟩;go_wp2;refine bodyPost_ret (v:=.tuple #[.int .i32 r,.int .i64 2,.bool true]) (by simp[results,Tryz.results125,go_sem]) rfl ⟨⟨r,by rw[HZ.out];rfl⟩,rfl⟩
 rw[decide_eq_false k1] at q1;by_cases k2:bits .and .u8 c 240=224
 ·rw[decide_eq_true k2] at q2;have HR:Hid (fr=zIM s j 3 2048 (wrap32 (bits .and .u8 c 15))):=zz (by rw[HFI.out,if_neg h1,if_neg k1,if_pos k2]);clear HFI;obtain⟨R,hR⟩:∃ R,R=zB8 s j (3 - 1) 1 (wrap32 (bits .and .u8 c 15)):=⟨_,rfl⟩;have HRR:Hid (fr=zPa 3 2048 R):=zz (by rw[HR.out,zIM,<-hR]);have HC0:=zz hR;clear HR hR;go_enter Tryz.func125,Tryz.ntmps125
  go_wp2;go_loopw [4,5,9] (fun rv nv iv wr=>∃ (i:Nat) (r:Int),1<=i/\i<=3/\iv=.int .i64 (i:Int)/\nv=.int .i64 3/\rv=.int .i32 r/\Hid (zB8 s j (3 - i) i r=R)/\wr=w) (fun _ _ iv _=>3 - (intOf iv).toNat)
  case atStart=>exact⟨1,_,by omega,by omega,rfl,rfl,rfl,zz HC0.out.symm,(by first|rfl|trivial)⟩
  case round=>
   obtain⟨i,r,hi1,hi2,rfl,rfl,rfl,HO,rfl⟩:=hrel;by_cases hin:i<3
   ·have hI:(i:Int)<3:=by omega
    have hji:IntKind.i64.wrap ((j:Int)+(i:Int))=((j+i:Nat):Int):=by rw[zY _ (by omega)];omega
    have HFV:=zz (HFO.out wr (j+i));have gi:IntKind.i64.wrap ((i:Int)+1)=(i:Int)+1:=zY _ (by omega);obtain⟨k,hk⟩:∃ k,3 - i=k+1:=⟨3 - i - 1,by omega⟩;have HK:Hid (3 - (i+1)=k):=zz (by omega);have HO2:Hid (R=match zH0 s (j+i) with|none=>none|some b=>zB8 s j k (i+1) (shR r b)):=zz (by rw[<-HO.out,hk,zB8]);clear HO hk
    cases hf:zH0 s (j+i) with
    | none=>
     rw[hf] at HFV HO2;unfold zCX at HFV;have HZ:Hid (fr=none):=zz (by rw[HRR.out,HO2.out];rfl);clear HRR HO2 hf;go_wp2_with fail
     refine HFV.out.mono ?_;rintro e w1 ⟨rfl,rfl⟩;go_wp2
     refine bodyPost_ret (v:=.tuple #[.int .i32 0,.int .i64 0,.bool false]) (by simp[results,Tryz.results125,go_sem]) rfl ⟨⟨0,by rw[HZ.out];rfl⟩,rfl⟩
    | some b=>
     rw[hf] at HFV HO2;unfold zCX at HFV;have HO3:Hid (zB8 s j (3 - (i+1)) (i+1) (shR r b)=R):=zz (by rw[HK.out,HO2.out]);clear HO2 hf;go_wp2_with fail
     refine HFV.out.mono ?_;rintro e w1 ⟨rfl,rfl⟩;go_wp2;go_roundw
     case rel=>exact⟨i+1,shR r b,by omega,by omega,by simp,rfl,by first|rfl|(unfold shR;rfl),HO3,(by first|rfl|trivial)⟩
     case measure=>simp[intOf];omega
   ·obtain rfl:i=3:=by omega
    have hI:¬ ((3:Nat):Int)<3:=by omega
    have HO2:Hid (R=some r):=zz (by rw[<-HO.out,Nat.sub_self,zB8]);have HR2:Hid (fr=if r<2048 \/ zB4 r=false then none else some 3):=zz (by rw[HRR.out,HO2.out];rfl);have HP:=zz (HPO.out wr r);clear HO HO2 HRR;by_cases hl:r<2048
    ·have HZ:Hid (fr=none):=zz (by rw[HR2.out,if_pos (.inl hl)]);clear HR2;go_wp2;refine bodyPost_ret (v:=.tuple #[.int .i32 0,.int .i64 0,.bool false]) (by simp[results,Tryz.results125,go_sem]) rfl ⟨⟨0,by rw[HZ.out];rfl⟩,rfl⟩
    ·cases hp:zB4 r with
     | false=>
      have HZ:Hid (fr=none):=zz (by rw[HR2.out,if_pos (.inr hp)]);rw[hp] at HP;clear HR2 hp;go_wp2_with fail
      refine HP.out.mono ?_;rintro e w1 ⟨rfl,rfl⟩;go_wp2
      refine bodyPost_ret (v:=.tuple #[.int .i32 0,.int .i64 0,.bool false]) (by simp[results,Tryz.results125,go_sem]) rfl ⟨⟨0,by rw[HZ.out];rfl⟩,rfl⟩
     | true=>
      have HZ:Hid (fr=some 3):=zz (by rw[HR2.out,if_neg (by rw[hp];simp;omega)]);rw[hp] at HP;clear HR2 hp;go_wp2_with fail
      refine HP.out.mono ?_;rintro e w1 ⟨rfl,rfl⟩;go_wp2;refine bodyPost_ret (v:=.tuple #[.int .i32 r,.int .i64 3,.bool true]) (by simp[results,Tryz.results125,go_sem]) rfl ⟨⟨r,by rw[HZ.out];rfl⟩,rfl⟩
 rw[decide_eq_false k2] at q2;by_cases k3:bits .and .u8 c 248=240
 ·rw[decide_eq_true k3] at q3;have HR:Hid (fr=zIM s j 4 65536 (wrap32 (bits .and .u8 c 7))):=zz (by rw[HFI.out,if_neg h1,if_neg k1,if_neg k2,if_pos k3]);clear HFI;obtain⟨R,hR⟩:∃ R,R=zB8 s j (4 - 1) 1 (wrap32 (bits .and .u8 c 7)):=⟨_,rfl⟩;have HRR:Hid (fr=zPa 4 65536 R):=zz (by rw[HR.out,zIM,<-hR]);have HC0:=zz hR;clear HR hR;go_enter Tryz.func125,Tryz.ntmps125
  go_wp2;go_loopw [4,5,9] (fun rv nv iv wr=>∃ (i:Nat) (r:Int),1<=i/\i<=4/\iv=.int .i64 (i:Int)/\nv=.int .i64 4/\rv=.int .i32 r/\Hid (zB8 s j (4 - i) i r=R)/\wr=w) (fun _ _ iv _=>4 - (intOf iv).toNat)
  case atStart=>exact⟨1,_,by omega,by omega,rfl,rfl,rfl,zz HC0.out.symm,(by first|rfl|trivial)⟩
  case round=>
   obtain⟨i,r,hi1,hi2,rfl,rfl,rfl,HO,rfl⟩:=hrel;by_cases hin:i<4
   ·have hI:(i:Int)<4:=by omega
    have hji:IntKind.i64.wrap ((j:Int)+(i:Int))=((j+i:Nat):Int):=by rw[zY _ (by omega)];omega
    have HFV:=zz (HFO.out wr (j+i));have gi:IntKind.i64.wrap ((i:Int)+1)=(i:Int)+1:=zY _ (by omega);obtain⟨k,hk⟩:∃ k,4 - i=k+1:=⟨4 - i - 1,by omega⟩;have HK:Hid (4 - (i+1)=k):=zz (by omega);have HO2:Hid (R=match zH0 s (j+i) with|none=>none|some b=>zB8 s j k (i+1) (shR r b)):=zz (by rw[<-HO.out,hk,zB8]);clear HO hk
    cases hf:zH0 s (j+i) with
    | none=>
     rw[hf] at HFV HO2;unfold zCX at HFV;have HZ:Hid (fr=none):=zz (by rw[HRR.out,HO2.out];rfl);clear HRR HO2 hf;go_wp2_with fail
     refine HFV.out.mono ?_;rintro e w1 ⟨rfl,rfl⟩;go_wp2
     refine bodyPost_ret (v:=.tuple #[.int .i32 0,.int .i64 0,.bool false]) (by simp[results,Tryz.results125,go_sem]) rfl ⟨⟨0,by rw[HZ.out];rfl⟩,rfl⟩
    | some b=>
     rw[hf] at HFV HO2;unfold zCX at HFV;have HO3:Hid (zB8 s j (4 - (i+1)) (i+1) (shR r b)=R):=zz (by rw[HK.out,HO2.out]);clear HO2 hf;go_wp2_with fail
     refine HFV.out.mono ?_;rintro e w1 ⟨rfl,rfl⟩;go_wp2;go_roundw
     case rel=>exact⟨i+1,shR r b,by omega,by omega,by simp,rfl,by first|rfl|(unfold shR;rfl),HO3,(by first|rfl|trivial)⟩
     case measure=>simp[intOf];omega
   ·obtain rfl:i=4:=by omega
    have hI:¬ ((4:Nat):Int)<4:=by omega
    have HO2:Hid (R=some r):=zz (by rw[<-HO.out,Nat.sub_self,zB8]);have HR2:Hid (fr=if r<65536 \/ zB4 r=false then none else some 4):=zz (by rw[HRR.out,HO2.out];rfl);have HP:=zz (HPO.out wr r);clear HO HO2 HRR;by_cases hl:r<65536
    ·have HZ:Hid (fr=none):=zz (by rw[HR2.out,if_pos (.inl hl)]);clear HR2;go_wp2;refine bodyPost_ret (v:=.tuple #[.int .i32 0,.int .i64 0,.bool false]) (by simp[results,Tryz.results125,go_sem]) rfl ⟨⟨0,by rw[HZ.out];rfl⟩,rfl⟩
    ·cases hp:zB4 r with
     | false=>
      have HZ:Hid (fr=none):=zz (by rw[HR2.out,if_pos (.inr hp)]);rw[hp] at HP;clear HR2 hp;go_wp2_with fail
      refine HP.out.mono ?_;rintro e w1 ⟨rfl,rfl⟩;go_wp2
      refine bodyPost_ret (v:=.tuple #[.int .i32 0,.int .i64 0,.bool false]) (by simp[results,Tryz.results125,go_sem]) rfl ⟨⟨0,by rw[HZ.out];rfl⟩,rfl⟩
     | true=>
      have HZ:Hid (fr=some 4):=zz (by rw[HR2.out,if_neg (by rw[hp];simp;omega)]);rw[hp] at HP;clear HR2 hp;go_wp2_with fail
      refine HP.out.mono ?_;rintro e w1 ⟨rfl,rfl⟩;go_wp2;refine bodyPost_ret (v:=.tuple #[.int .i32 r,.int .i64 4,.bool true]) (by simp[results,Tryz.results125,go_sem]) rfl ⟨⟨r,by rw[HZ.out];rfl⟩,rfl⟩
 rw[decide_eq_false k3] at q3;have HZ:Hid (fr=none):=zz (by rw[HFI.out,if_neg h1,if_neg k1,if_neg k2,if_neg k3]);clear HFI;go_enter Tryz.func125,Tryz.ntmps125
 go_wp2;refine bodyPost_ret (v:=.tuple #[.int .i32 0,.int .i64 0,.bool false]) (by simp[results,Tryz.results125,go_sem]) rfl ⟨⟨0,by rw[HZ.out];rfl⟩,rfl⟩
theorem zIa(w:World)(s:List UInt8)(hs:s.length<=4294967296):Calls Tryz.prog 75 #[.string (zAc s)] w fun e w'=>e=.returned (.int .i64 (zFL s s.length 0:Nat))/\w'=w:=by
 have hsz:(zAc s).size=s.length:=zAg s;have HFI:=zz (fun w j hj=>zIA w s j hj (by omega));obtain⟨R,hR⟩:∃ R,R=zFL s s.length 0:=⟨_,rfl⟩;rw[<-hR];have HR:=zz hR;clear hR;obtain⟨n,hn⟩:∃ n,n=s.length:=⟨_,rfl⟩;rw[<-hn] at hsz hs;have HN:=zz hn;clear hn;go_enter Tryz.func75,Tryz.ntmps75
 go_wp2;go_loopw [3] (fun iv wr=>∃ (i k:Nat),i<=n+4/\iv=.int .i64 (i:Int)/\Hid (n<=i+k/\zFL s k i=R)/\wr=w) (fun iv _=>n+5 - (intOf iv).toNat)
 case atStart=>exact⟨0,n,by omega,rfl,zz ⟨by omega,by rw[HR.out,HN.out]⟩,(by first|rfl|trivial)⟩
 case round=>
  obtain⟨i,k,hi,rfl,HO,rfl⟩:=hrel;by_cases h1:i<n
  ·have hI:(i:Int)<(n:Int):=by omega
   have HFV:=zz (HFI.out wr i (by rw[<-HN.out];exact h1));obtain⟨k,rfl⟩:∃ k',k=k'+1:=⟨k - 1,by have:=HO.out.1;omega⟩;have HO2:Hid (n<=i+(k+1)/\R=match zCW s i with|none=>i|some m=>zFL s k (i+m)):=zz ⟨HO.out.1,HO.out.2.symm.trans (zNJ (Nat.lt_of_lt_of_eq h1 HN.out))⟩;clear HO
   cases hf:zCW s i with
   | none=>
    rw[hf] at HFV HO2;unfold zOy at HFV;have HZ:Hid (R=i):=zz HO2.out.2;clear HO2 hf;go_wp2_with fail
    refine HFV.out.mono ?_;rintro e w1 ⟨⟨r,rfl⟩,rfl⟩;go_wp2;go_ret
    exact⟨by rw[HZ.out];rfl,rfl⟩
   | some m=>
    obtain⟨m1,m2⟩:=zKn hf;rw[hf] at HFV HO2;unfold zOy at HFV;have gi:IntKind.i64.wrap ((i:Int)+(m:Int))=((i+m:Nat):Int):=by rw[zY _ (by omega)];omega
    have HO3:Hid (n<=i+m+k/\zFL s k (i+m)=R):=zz ⟨by have:=HO2.out.1;omega,HO2.out.2.symm⟩;clear HO2 hf;go_wp2_with fail
    refine HFV.out.mono ?_;rintro e w1 ⟨⟨r,rfl⟩,rfl⟩;go_wp2;go_roundw
    case rel=>exact⟨i+m,k,by omega,rfl,HO3,(by first|rfl|trivial)⟩
    case measure=>simp[intOf];omega
  ·have hI:¬ (i:Int)<(n:Int):=by omega
   have HZ:Hid (R=i):=zz (HO.out.2.symm.trans (zOM (fun h=>h1 (Nat.lt_of_lt_of_eq h HN.out.symm))));clear HO;go_wp2;go_ret;exact⟨by rw[HZ.out];rfl,rfl⟩
end Go.Proofs.YtcanfakaigpkgaaGreatDoor.D
