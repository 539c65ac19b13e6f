/-
  Of the proof that the law DiagUnlike answers true at every two values: a part, without conditions of its own.
-/
import Derived.Test.YtcanfakaigpkgaaGreatDoorPart26
set_option linter.unusedVariables false
set_option linter.unusedSimpArgs false
set_option maxRecDepth 100000
set_option maxHeartbeats 8000000
namespace Go.Proofs.YtcanfakaigpkgaaGreatDoor.D
open Go Go.RowKit Limb
theorem zNE(n l:Nat)(ev:Bool):(zBo n l<0->zDF n l ev=true)/\(zBo n l=0->zDF n l ev=ev)/\(0<zBo n l->zDF n l ev=false):=by
 unfold zBo zDF;rcases Nat.lt_trichotomy n l with h|h|h
 ·rw[if_pos h];simp[h]
 ·subst h;simp
 ·rw[if_neg (by omega),if_pos h];have h1:¬ n<l:=by omega
  have h2:¬ n=l:=by omega
  simp[h1,h2]
def zCs:Value->Nat|.slice _ n _=>n|_=>0
def byL(l:List Nat):List UInt8:=l.map UInt8.ofNat
theorem zAA(l:List Nat):(byL l).length=l.length:=by simp[byL]
theorem zEi(l:List Nat)(x:Nat)(hx:x<256):Lib.byteCells (byL (l ++ [x]))=Lib.byteCells (byL l) ++ [.int .u8 (x:Int)]:=by
 simp[Lib.byteCells,byL];omega
def upB(r d q:Nat):Bool:=decide (d<r*2) || (decide (r*2=d) && decide (q % 2=1))
theorem zP4(r d q:Nat):(0<zBo (r*2) d->upB r d q=true)/\(zBo (r*2) d=0->upB r d q=decide (q % 2=1))/\(zBo (r*2) d<0->upB r d q=false):=by
 unfold zBo upB;rcases Nat.lt_trichotomy (r*2) d with h|h|h
 ·rw[if_pos h];have h1:¬ d<r*2:=by omega
  have h2:¬ r*2=d:=by omega
  simp[h1,h2]
 ·rw[if_neg (by omega),if_neg (by omega)];subst h;simp
 ·rw[if_neg (by omega),if_pos h];simp[h]
theorem zI3(q:Nat)(h:q<256):bits .and .u8 (q:Int) 1=((q % 2:Nat):Int):=by
 have:bits .and .u8 (q:Int) 1=IntKind.u8.wrap (((BitVec.ofInt 8 (q:Int)) &&& (BitVec.ofInt 8 ((1:Nat):Int)):BitVec 8).toNat:Int):=by rfl
 have e:∀ a:Nat,(BitVec.ofInt 8 (a:Int))=BitVec.ofNat 8 a:=fun a=>by apply BitVec.eq_of_toNat_eq;simp
 rw[this,e,e,BitVec.toNat_and,BitVec.toNat_ofNat,BitVec.toNat_ofNat,Nat.mod_eq_of_lt (by omega),Nat.mod_eq_of_lt (by decide),Nat.and_one_is_mod,IntKind.wrap_u8];omega
theorem zLC{r k:Nat}(h:(zAb r).length<=k):zA7 r<=32*k:=by
 apply zCF;have h1:r<4294967296 ^ k:=Nat.lt_of_lt_of_le (zBn r) (Nat.pow_le_pow_right (by omega) h);rw[show (4294967296:Nat)=2 ^ 32 from rfl,<-Nat.pow_mul] at h1;exact h1
theorem zJp(w:World)(R n d l h:Nat)(ev:Bool)(hR:Rt w R n d l h ev)(hnh:n+h<=d)(hl0:0<l)(hlh:l<=h)(hln:l<n)(hd:(zAb d).length<=3000)(k0:Nat)(hk0:d<=l*10 ^ k0):
  Calls Tryz.prog 138 #[.pointer (some ⟨R,0,none⟩)] w fun e w'=>Ex (fun k=>k=R) w.heap.size w w'/\∃ g cap,e=.returned (.slice (some ⟨g,0,none⟩) (zEJ ev d k0 n l h).length cap)/\w.heap.size<=g/\(zEJ ev d k0 n l h).length<=96000/\Own w.heap.size w' (.slice (some ⟨g,0,none⟩) (zEJ ev d k0 n l h).length cap) (byL (zEJ ev d k0 n l h)):=by
 have HR1:=zz hR;have HLT:=zz hR.lt;have HE1:Hid (Ex (fun k=>k=R) w.heap.size w w):=zz (Ex.refl _ _ _);have HO1:Hid (Own w.heap.size w (.slice none 0 0) (byL [])/\NoU w (.slice none 0 0)):=zz ⟨⟨rfl,.inl ⟨rfl,rfl⟩⟩,NoU.nil w⟩;obtain⟨i0,hi,hz0,hz1,hz2⟩:=zDg;have HI:=zz hi;have HL:Hid (∀ x,x<=d->(zAb x).length<=3000):=zz (fun x hx=>zJ (zBE hx) hd);have HST:Hid (n+h<=d/\0<l/\l<=h/\l<=n/\d<=l*10 ^ k0):=zz ⟨hnh,hl0,hlh,Nat.le_of_lt hln,hk0⟩;have HD:=zz hd;obtain⟨G,hG⟩:∃ G,G=zEJ ev d k0 n l h:=⟨_,rfl⟩;rw[<-hG];have HG:=zz hG;clear hR hi hnh hl0 hlh hln hd hk0 hG;go_enter Tryz.func138,Tryz.ntmps138
 go_wp2;go_step3
 go_wp2;go_step3
 go_wp2;go_loopw [3] (fun sv wr=>∃ (out:List Nat) (k n' l' h':Nat),Hid (n'+h'<=d/\0<l'/\l'<=h'/\l'<=n'/\d<=l'*10 ^ k/\10 ^ out.length<=l'/\out ++ zEJ ev d k n' l' h'=G)/\(∃ b c,sv=.slice b out.length c)/\Hid (Own w.heap.size wr sv (byL out)/\NoU wr sv)/\Hid (Rt wr R n' d l' h' ev)/\Hid (Ex (fun k=>k=R) w.heap.size w wr)) (fun sv _=>G.length - zCs sv)
 case atStart=>
  exact⟨[],k0,n,l,h,zz ⟨HST.out.1,HST.out.2.1,HST.out.2.2.1,HST.out.2.2.2.1,HST.out.2.2.2.2,by simp;exact HST.out.2.1,by rw[HG.out];rfl⟩,⟨_,_,rfl⟩,HO1,HR1,HE1⟩
 case round=>
  clear HR1 HE1 HO1 HG HST;obtain⟨out,k,n,l,h,HS,⟨sb,sc,rfl⟩,HOr,HRr,HEr⟩:=hrel;have HLn:Hid ((zAb n).length<=3000/\(zAb l).length<=3000/\(zAb h).length<=3000):=zz ⟨HL.out _ (by have:=HS.out;omega),HL.out _ (by have:=HS.out;omega),HL.out _ (by have:=HS.out;omega)⟩
  have HLEN:Hid (out.length<96000):=zz (by
   have h1:=HS.out;exact zJR (k:=3000) h1.2.2.2.2.2.1 HLn.out.2.1 (by omega))
  have HK:Hid (∃ k',k=k'+1):=zz (by
   cases k with
   | zero=>
    have h1:=HS.out;rw[Nat.pow_zero,Nat.mul_one] at h1
    omega
   | succ k'=>exact⟨k',rfl⟩)
  obtain⟨k,rfl⟩:=HK.out;clear HK;have HDG:=zz (zEl wr R n d l h ev HRr.out (by have:=HS.out;omega) (by have:=HLn.out;omega) (by have:=HD.out;omega) (by have:=HLn.out;omega) (by have:=HLn.out;omega));obtain⟨q,hq⟩:∃ q,q=n*10 / d:=⟨_,rfl⟩;obtain⟨r,hr⟩:∃ r,r=n*10 % d:=⟨_,rfl⟩;have HQ9:Hid (q<10):=zz (by rw[hq];exact Nat.div_lt_of_lt_mul (by have:=HS.out;rw[Nat.mul_comm d];omega))
  have HRD:Hid (r<d/\(zAb r).length<=3000):=zz (by
   have h1:r<d:=by rw[hr];exact Nat.mod_lt _ (by have:=HS.out;omega)
   exact⟨h1,HL.out _ (Nat.le_of_lt h1)⟩)
  have HGD:Hid (zEJ ev d (k+1) n l h=if zDF r (l*10) ev && zBd r d (h*10) ev then [if upB r d q then q+1 else q] else if zDF r (l*10) ev then [q] else if zBd r d (h*10) ev then [q+1] else q :: zEJ ev d k r (l*10) (h*10)):=zz (by
   rw[hq,hr,zEJ];have e:(upB (n*10 % d) d (n*10 / d)=true) ↔ (d<n*10 % d*2 \/ n*10 % d*2=d/\n*10 / d % 2=1):=by simp[upB]
   simp only[e])
  have HL10:Hid ((zAb (l*10)).length<=3001/\(zAb (h*10)).length<=3001):=zz ⟨zC9 _ _ HLn.out.2.1,zC9 _ _ HLn.out.2.2⟩;rw[<-hq,<-hr] at HDG;clear hq hr;go_wp2_with fail
  refine HDG.out.mono ?_;rintro e w1 ⟨rfl,hR,hE⟩;have HRa:=zz hR;have HEa:=zz (HEr.out.trans (hE.mono HEr.out.size (fun k hk=>hk)));have HOa:=zz (And.intro (HOr.out.1.ex hE HLT.out) (HOr.out.2.ex HOr.out.1 HLT.out hE));clear hR hE HDG HRr HEr HOr;obtain⟨l10,hl10⟩:∃ l10,l10=l*10:=⟨_,rfl⟩;obtain⟨h10,hh10⟩:∃ h10,h10=h*10:=⟨_,rfl⟩;rw[<-hl10,<-hh10] at HRa HGD HL10;have HLH:=zz (And.intro hl10 hh10);clear hl10 hh10;obtain⟨vn,vd,vl,vh,hr⟩:=HRa.out
  have HT1:Hid (∀ w' w'',(w'.cell? ⟨R,0,none⟩=some vn/\w'.cell? ⟨R,2,none⟩=some vl/\RtC w' R vn vd vl vh r d l10 h10 ev/\Below w1.heap.size w1 w')->Hid (Below w'.heap.size w' w'')->(w''.cell? ⟨R,0,none⟩=some vn/\w''.cell? ⟨R,2,none⟩=some vl/\RtC w'' R vn vd vl vh r d l10 h10 ev/\Below w1.heap.size w1 w'')):=zz (fun w' w'' h hk=>by
   obtain⟨_,_,h1,h2⟩:=h;have h3:=h1.below hk.out;exact⟨h3.1.cell 0,h3.1.cell 2,h3,h2.trans (hk.out.mono h2.size)⟩)
  have HS1:Hid (w1.drew.cell? ⟨R,0,none⟩=some vn/\w1.drew.cell? ⟨R,2,none⟩=some vl/\RtC w1.drew R vn vd vl vh r d l10 h10 ev/\Below w1.heap.size w1 w1.drew):=zz (by
   have h3:=hr.below (zAd (zK w1.heap.size w1) 1);exact⟨h3.1.cell 0,h3.1.cell 2,h3,(zAd (zK w1.heap.size w1) 1)⟩)
  have HCM1:Hid (∀ w',(w'.cell? ⟨R,0,none⟩=some vn/\w'.cell? ⟨R,2,none⟩=some vl/\RtC w' R vn vd vl vh r d l10 h10 ev/\Below w1.heap.size w1 w')->Calls Tryz.prog 52 #[vn,vl] w' fun e w''=>e=.returned (.int .i64 (zBo r l10))/\Below w'.heap.size w' w''):=zz (fun w' hs=>by
   have:=zC7 w' vn vl _ _ hs.2.2.1.2.1 hs.2.2.1.2.2.2.1 (by have:=HRD.out;omega) (by have:=HL10.out;omega);rw[zAe,zAe] at this;exact this)
  have HX1:Hid (∀ w',(w'.cell? ⟨R,0,none⟩=some vn/\w'.cell? ⟨R,2,none⟩=some vl/\RtC w' R vn vd vl vh r d l10 h10 ev/\Below w1.heap.size w1 w')->RtC w' R vn vd vl vh r d l10 h10 ev/\Below w1.heap.size w1 w'):=zz (fun w' h=>⟨h.2.2.1,h.2.2.2⟩);have HLC:=zz (zNE r l10 ev);generalize zBo r l10=cm at HCM1 HLC;clear hr;go_upto_region 3 with fail
  go_region_held3 (fun w'=>(w'.cell? ⟨R,0,none⟩=some vn/\w'.cell? ⟨R,2,none⟩=some vl/\RtC w' R vn vd vl vh r d l10 h10 ev/\Below w1.heap.size w1 w'))
   (first
    | exact HS1.out
    | assumption
    | (refine HT1.out _ _ ?_ hb9;assumption))
   ((go_at_call 52;refine (HCM1.out _ (by first|exact HS1.out|assumption)).mono ?_;rintro e w9 ⟨rfl,hb9⟩;replace hb9:=zz hb9))
  have hx:=HX1.out w9 (by assumption);have HRC1:=zz hx.1;have HRb:Hid (Rt w9 R r d l10 h10 ev):=zz ⟨_,_,_,_,hx.1⟩;have HEb:=zz (HEa.out.trans ((Ex.of_below (S:=fun k=>k=R) hx.2).mono HEa.out.size (fun k hk=>hk)));have HOb:=zz (And.intro (HOa.out.1.below hx.2) (HOa.out.2.below hx.2));have x4:=hx.1.1.cell 4;simp only[zAx,zv,zk,zx] at x4;clear hx hb9 HX1 HT1 HS1 HCM1 HRa HEa HOa;go_upto_region 4 with fail
  go_cut [6] from 20 to 31 (fun lv wx=>lv=.bool (zDF r l10 ev)/\wx=w9)
  case first=>
   rcases Int.lt_trichotomy cm 0 with h1|h1|h1
   ·have hlo:=HLC.out.1 h1;clear HLC;go_wp2;go_meet
    exact⟨by rw[hlo],rfl⟩
   ·subst h1;have hlo:=HLC.out.2.1 rfl;clear HLC;go_wp2;go_meet
    exact⟨by rw[hlo],rfl⟩
   ·have hlo:=HLC.out.2.2 h1;have h2:¬ cm<0:=by omega
    have h3:(cm == 0)=false:=beq_eq_false_iff_ne.2 (by omega);clear HLC;go_wp2;go_meet
    exact⟨by rw[hlo],rfl⟩
  case rest=>
  obtain⟨rfl,rfl⟩:=hcut;clear x4 HLC;have HOV:=zz (zB3 wc R _ _ _ _ _ HRb.out (by have:=HRD.out;omega) (by have:=HD.out;omega) (by have:=HL10.out;omega));rw[zDA] at HOV;have HLO:=zz (@id (zDF r l10 ev=zDF r l10 ev) rfl);obtain⟨lo,hlo⟩:∃ lo,lo=zDF r l10 ev:=⟨_,rfl⟩;obtain⟨hi,hhi⟩:∃ hi,hi=zBd r d h10 ev:=⟨_,rfl⟩;rw[<-hlo];rw[<-hhi] at HOV;rw[<-hlo,<-hhi] at HGD;have HLB:Hid (lo=false->l10<=r):=zz (fun e=>(zFh (by rw[<-hlo];exact e)).1);have HHB:Hid (hi=false->r+h10<=d):=zz (fun e=>(zCK (by rw[<-hhi];exact e)).1);clear hlo hhi HLO;go_wp2_with fail
  refine HOV.out.mono ?_;rintro e y1 ⟨rfl,hb⟩;have HRC:=zz (HRC1.out.below hb);have HRc:=zz (HRb.out.below hb);have HEc:=zz (HEb.out.trans ((Ex.of_below (S:=fun k=>k=R) hb).mono HEb.out.size (fun k hk=>hk)));have HOc:=zz (And.intro (HOb.out.1.below hb) (HOb.out.2.below hb));clear hb HRC1 HRb HEb HOb HOV
  cases lo with
  | true=>
   cases hi with
   | true=>
    obtain⟨vn,vd,vl,vh,hr⟩:=HRc.out
    have HT2:Hid (∀ w' w'',(w'.cell? ⟨R,0,none⟩=some vn/\w'.cell? ⟨R,1,none⟩=some vd/\RtC w' R vn vd vl vh r d l10 h10 ev/\Below y1.heap.size y1 w')->Hid (Below w'.heap.size w' w'')->(w''.cell? ⟨R,0,none⟩=some vn/\w''.cell? ⟨R,1,none⟩=some vd/\RtC w'' R vn vd vl vh r d l10 h10 ev/\Below y1.heap.size y1 w'')):=zz (fun w' w'' h hk=>by
     obtain⟨_,_,h1,h2⟩:=h;have h3:=h1.below hk.out;exact⟨h3.1.cell 0,h3.1.cell 1,h3,h2.trans (hk.out.mono h2.size)⟩)
    have HS2:Hid (y1.drew.cell? ⟨R,0,none⟩=some vn/\y1.drew.cell? ⟨R,1,none⟩=some vd/\RtC y1.drew R vn vd vl vh r d l10 h10 ev/\Below y1.heap.size y1 y1.drew):=zz (by
     have h3:=hr.below (zAd (zK y1.heap.size y1) 1);exact⟨h3.1.cell 0,h3.1.cell 1,h3,(zAd (zK y1.heap.size y1) 1)⟩)
    have HSH:Hid (∀ w',(w'.cell? ⟨R,0,none⟩=some vn/\w'.cell? ⟨R,1,none⟩=some vd/\RtC w' R vn vd vl vh r d l10 h10 ev/\Below y1.heap.size y1 w')->Calls Tryz.prog 185 #[vn,.int .i64 1] w' fun e w''=>Below w'.heap.size w' w''/\∃ v,e=.returned v/\zAf w'' v (zAb (r*2))):=zz (fun w' hs=>by
     have:=zB5 w' vn _ 1 hs.2.2.1.2.1 (by have:=HRD.out;omega) (by rw[zAe];have:=zLC HRD.out.2;omega);rw[zAe,Nat.pow_one] at this;exact this)
    have HCM2:Hid (∀ w' v,(w'.cell? ⟨R,0,none⟩=some vn/\w'.cell? ⟨R,1,none⟩=some vd/\RtC w' R vn vd vl vh r d l10 h10 ev/\Below y1.heap.size y1 w')->zAf w' v (zAb (r*2))->Calls Tryz.prog 52 #[v,vd] w' fun e w''=>e=.returned (.int .i64 (zBo (r*2) d))/\Below w'.heap.size w' w''):=zz (fun w' v hs hv=>by
     have h10:(zAb (r*2)).length<=3001:=by rw[Nat.mul_two];exact zCo HRD.out.2 HRD.out.2
     have:=zC7 w' v vd _ _ hv hs.2.2.1.2.2.1 (by omega) (by have:=HD.out;omega);rw[zAe,zAe] at this;exact this)
    have HX2:Hid (∀ w',(w'.cell? ⟨R,0,none⟩=some vn/\w'.cell? ⟨R,1,none⟩=some vd/\RtC w' R vn vd vl vh r d l10 h10 ev/\Below y1.heap.size y1 w')->RtC w' R vn vd vl vh r d l10 h10 ev/\Below y1.heap.size y1 w'):=zz (fun w' h=>⟨h.2.2.1,h.2.2.2⟩);have HUC:=zz (zP4 r d q);generalize zBo (r*2) d=cu at HCM2 HUC;clear hr;go_upto_region 7 with fail
    go_cut [8] from 39 to 48 (fun cv wx=>cv=.int .i64 cu/\Hid (Below y1.heap.size y1 wx))
    case first=>
     go_region_held3 (fun w'=>(w'.cell? ⟨R,0,none⟩=some vn/\w'.cell? ⟨R,1,none⟩=some vd/\RtC w' R vn vd vl vh r d l10 h10 ev/\Below y1.heap.size y1 w'))
      (first
       | exact HS2.out
       | assumption
       | (refine HT2.out _ _ ?_ hb9;assumption))
      ((first
       | (go_at_call 185;refine (HSH.out _ (by first|exact HS2.out|assumption)).mono ?_;rintro e w9 ⟨hb9,v9,rfl,hv9⟩;replace hb9:=zz hb9)
       | (go_at_call 52;refine (HCM2.out _ _ (by first|exact HS2.out|assumption|(refine HT2.out _ _ ?_ (by assumption);first|exact HS2.out|assumption)) (by assumption)).mono ?_;rintro e w9 ⟨rfl,hb9⟩;replace hb9:=zz hb9)))
     all_goals (
      have hx:=HX2.out w9 (by assumption);go_wp2;go_meet
      exact⟨rfl,zz hx.2⟩)
    case rest=>
    obtain⟨rfl,HBB⟩:=hcut;have HEd:=zz (HEc.out.trans ((Ex.of_below (S:=fun k=>k=R) HBB.out).mono HEc.out.size (fun k hk=>hk)));have HOd:=zz (And.intro (HOc.out.1.below HBB.out) (HOc.out.2.below HBB.out));clear HT2 HS2 HSH HCM2 HX2 HBB HEc HOc HRc HRC;go_upto_region 8 with fail
    go_cut [59] from 49 to 58 (fun uv wx=>uv=.bool (upB r d q)/\wx=wc)
    case first=>
     rcases Int.lt_trichotomy cu 0 with h1|h1|h1
     ·have hup:=HUC.out.2.2 h1;have h2:¬ 0<cu:=by omega
      have h3:(cu == 0)=false:=beq_eq_false_iff_ne.2 (by omega);clear HUC;go_wp2;go_meet
      exact⟨by rw[hup],rfl⟩
     ·subst h1;have hup:=HUC.out.2.1 rfl;have ha:=zI3 q (by have:=HQ9.out;omega);clear HUC;rcases Nat.mod_two_eq_zero_or_one q with h4|h4
      ·rw[h4] at ha hup;go_wp2;go_meet
       exact⟨by rw[hup];rfl,rfl⟩
      ·rw[h4] at ha hup;go_wp2;go_meet
       exact⟨by rw[hup];rfl,rfl⟩
     ·have hup:=HUC.out.1 h1;clear HUC;go_wp2;go_meet
      exact⟨by rw[hup],rfl⟩
    case rest=>
    obtain⟨rfl,rfl⟩:=hcut;clear HUC;have HEc:=HEd;have HOc:=HOd;clear HEd HOd;obtain⟨up,hup⟩:∃ up,up=upB r d q:=⟨_,rfl⟩;rw[<-hup];rw[<-hup] at HGD;clear hup
    cases up with
    | true=>
     have gq:IntKind.u8.wrap ((q:Int)+1)=(q:Int)+1:=by rw[IntKind.wrap_u8];have:=HQ9.out;omega
     have hO:=Own.below HOc.out.1 ((zK wc.heap.size wc).alloc (zQ _) (.cells #[.int .u8 ((q:Int)+1)] 5));have hN:=HOc.out.2.below ((zK wc.heap.size wc).alloc (zQ _) (.cells #[.int .u8 ((q:Int)+1)] 5));have hlt:=World.ownsRow.lt hO;have hcc:Lib.byteCells (byL (out ++ [q+1]))=Lib.byteCells (byL out) ++ [.int .u8 ((q:Int)+1)]:=zEi out (q+1) (by have:=HQ9.out;omega);have hlb:=zAA out;have hle:=HLEN.out;have hen:=HEc.out.size;go_wp2_with (at_builtin;go_must (refine zAJ rfl _ _ rfl w.heap.size _ _ rfl hO hN ⟨wc.heap.size,0,none⟩ 1 ((q:Int)+1) rfl (by simp[Addr.add]) (by omega) (by simp;omega) ?_))
     intro v' z1 hown' hgrow hnz;have HEz:=zz (HEc.out.trans (Ex.of_below (S:=fun k=>k=R) (((zK w.heap.size wc).alloc HEc.out.size _).grown hgrow (by have:=HEc.out.size;simp;omega) (fun k hk=>(hlt k hk).1))));have HOz:Hid (Own w.heap.size z1 v' (byL (out ++ [q+1]))/\NoU z1 v'):=zz ⟨by unfold Own;rw[zAA,List.length_append,List.length_singleton,hcc];first|exact hown'|(rw[hlb] at hown';exact hown'),hnz⟩;clear hown' hgrow hO hN hlt hcc hlb hle hen hnz HEc HOc
     obtain⟨rfl,g,cap,hv,hg⟩:G=out ++ [q+1]/\∃ g cap,v'=.slice (some ⟨g,0,none⟩) (out ++ [q+1]).length cap/\w.heap.size<=g:=by
      refine⟨?_,?_⟩
      ·have h1:=HS.out.2.2.2.2.2.2;rw[HGD.out] at h1
       simpa using h1.symm
      ·have h2:=HOz.out.1;unfold Own at h2;obtain⟨_,⟨_,hz⟩|⟨g,cap,cur,hv,hg,_⟩⟩:=h2
       ·simp[byL] at hz
       ·exact⟨g,cap,by rw[hv,zAA],hg⟩
     subst hv;have HGG:=zz hg;clear hg;go_wp2
     try rw[Exit.noGoto_ret]
     go_ret
     exact⟨HEz.out,g,cap,rfl,HGG.out,by have:=HLEN.out;simp;omega,HOz.out.1⟩
    | false=>
     have hO:=Own.below HOc.out.1 ((zK wc.heap.size wc).alloc (zQ _) (.cells #[.int .u8 (q:Int)] 5));have hN:=HOc.out.2.below ((zK wc.heap.size wc).alloc (zQ _) (.cells #[.int .u8 (q:Int)] 5));have hlt:=World.ownsRow.lt hO;have hcc:Lib.byteCells (byL (out ++ [q]))=Lib.byteCells (byL out) ++ [.int .u8 (q:Int)]:=zEi out (q) (by have:=HQ9.out;omega);have hlb:=zAA out;have hle:=HLEN.out;have hen:=HEc.out.size;go_wp2_with (at_builtin;go_must (refine zAJ rfl _ _ rfl w.heap.size _ _ rfl hO hN ⟨wc.heap.size,0,none⟩ 1 (q:Int) rfl (by simp[Addr.add]) (by omega) (by simp;omega) ?_))
     intro v' z1 hown' hgrow hnz;have HEz:=zz (HEc.out.trans (Ex.of_below (S:=fun k=>k=R) (((zK w.heap.size wc).alloc HEc.out.size _).grown hgrow (by have:=HEc.out.size;simp;omega) (fun k hk=>(hlt k hk).1))));have HOz:Hid (Own w.heap.size z1 v' (byL (out ++ [q]))/\NoU z1 v'):=zz ⟨by unfold Own;rw[zAA,List.length_append,List.length_singleton,hcc];first|exact hown'|(rw[hlb] at hown';exact hown'),hnz⟩;clear hown' hgrow hO hN hlt hcc hlb hle hen hnz HEc HOc
     obtain⟨rfl,g,cap,hv,hg⟩:G=out ++ [q]/\∃ g cap,v'=.slice (some ⟨g,0,none⟩) (out ++ [q]).length cap/\w.heap.size<=g:=by
      refine⟨?_,?_⟩
      ·have h1:=HS.out.2.2.2.2.2.2;rw[HGD.out] at h1
       simpa using h1.symm
      ·have h2:=HOz.out.1;unfold Own at h2;obtain⟨_,⟨_,hz⟩|⟨g,cap,cur,hv,hg,_⟩⟩:=h2
       ·simp[byL] at hz
       ·exact⟨g,cap,by rw[hv,zAA],hg⟩
     subst hv;have HGG:=zz hg;clear hg;go_wp2
     try rw[Exit.noGoto_ret]
     go_ret
     exact⟨HEz.out,g,cap,rfl,HGG.out,by have:=HLEN.out;simp;omega,HOz.out.1⟩
   | false=>
    have hO:=Own.below HOc.out.1 ((zK y1.heap.size y1).alloc (zQ _) (.cells #[.int .u8 (q:Int)] 5));have hN:=HOc.out.2.below ((zK y1.heap.size y1).alloc (zQ _) (.cells #[.int .u8 (q:Int)] 5));have hlt:=World.ownsRow.lt hO;have hcc:Lib.byteCells (byL (out ++ [q]))=Lib.byteCells (byL out) ++ [.int .u8 (q:Int)]:=zEi out (q) (by have:=HQ9.out;omega);have hlb:=zAA out;have hle:=HLEN.out;have hen:=HEc.out.size;go_wp2_with (at_builtin;go_must (refine zAJ rfl _ _ rfl w.heap.size _ _ rfl hO hN ⟨y1.heap.size,0,none⟩ 1 (q:Int) rfl (by simp[Addr.add]) (by omega) (by simp;omega) ?_))
    intro v' z1 hown' hgrow hnz;have HEz:=zz (HEc.out.trans (Ex.of_below (S:=fun k=>k=R) (((zK w.heap.size y1).alloc HEc.out.size _).grown hgrow (by have:=HEc.out.size;simp;omega) (fun k hk=>(hlt k hk).1))));have HOz:Hid (Own w.heap.size z1 v' (byL (out ++ [q]))/\NoU z1 v'):=zz ⟨by unfold Own;rw[zAA,List.length_append,List.length_singleton,hcc];first|exact hown'|(rw[hlb] at hown';exact hown'),hnz⟩;clear hown' hgrow hO hN hlt hcc hlb hle hen hnz HRc HEc HOc HRC
    obtain⟨rfl,g,cap,hv,hg⟩:G=out ++ [q]/\∃ g cap,v'=.slice (some ⟨g,0,none⟩) (out ++ [q]).length cap/\w.heap.size<=g:=by
     refine⟨?_,?_⟩
     ·have h1:=HS.out.2.2.2.2.2.2;rw[HGD.out] at h1
      simpa using h1.symm
     ·have h2:=HOz.out.1;unfold Own at h2;obtain⟨_,⟨_,hz⟩|⟨g,cap,cur,hv,hg,_⟩⟩:=h2
      ·simp[byL] at hz
      ·exact⟨g,cap,by rw[hv,zAA],hg⟩
    subst hv;have HGG:=zz hg;clear hg;go_wp2
    try rw[Exit.noGoto_ret]
    go_ret
    exact⟨HEz.out,g,cap,rfl,HGG.out,by have:=HLEN.out;simp;omega,HOz.out.1⟩
  | false=>
   cases hi with
   | true=>
    have gq:IntKind.u8.wrap ((q:Int)+1)=(q:Int)+1:=by rw[IntKind.wrap_u8];have:=HQ9.out;omega
    have hO:=Own.below HOc.out.1 ((zK y1.heap.size y1).alloc (zQ _) (.cells #[.int .u8 ((q:Int)+1)] 5));have hN:=HOc.out.2.below ((zK y1.heap.size y1).alloc (zQ _) (.cells #[.int .u8 ((q:Int)+1)] 5));have hlt:=World.ownsRow.lt hO;have hcc:Lib.byteCells (byL (out ++ [q+1]))=Lib.byteCells (byL out) ++ [.int .u8 ((q:Int)+1)]:=zEi out (q+1) (by have:=HQ9.out;omega);have hlb:=zAA out;have hle:=HLEN.out;have hen:=HEc.out.size;go_wp2_with (at_builtin;go_must (refine zAJ rfl _ _ rfl w.heap.size _ _ rfl hO hN ⟨y1.heap.size,0,none⟩ 1 ((q:Int)+1) rfl (by simp[Addr.add]) (by omega) (by simp;omega) ?_))
    intro v' z1 hown' hgrow hnz;have HEz:=zz (HEc.out.trans (Ex.of_below (S:=fun k=>k=R) (((zK w.heap.size y1).alloc HEc.out.size _).grown hgrow (by have:=HEc.out.size;simp;omega) (fun k hk=>(hlt k hk).1))));have HOz:Hid (Own w.heap.size z1 v' (byL (out ++ [q+1]))/\NoU z1 v'):=zz ⟨by unfold Own;rw[zAA,List.length_append,List.length_singleton,hcc];first|exact hown'|(rw[hlb] at hown';exact hown'),hnz⟩;clear hown' hgrow hO hN hlt hcc hlb hle hen hnz HRc HEc HOc HRC
    obtain⟨rfl,g,cap,hv,hg⟩:G=out ++ [q+1]/\∃ g cap,v'=.slice (some ⟨g,0,none⟩) (out ++ [q+1]).length cap/\w.heap.size<=g:=by
     refine⟨?_,?_⟩
     ·have h1:=HS.out.2.2.2.2.2.2;rw[HGD.out] at h1
      simpa using h1.symm
     ·have h2:=HOz.out.1;unfold Own at h2;obtain⟨_,⟨_,hz⟩|⟨g,cap,cur,hv,hg,_⟩⟩:=h2
      ·simp[byL] at hz
      ·exact⟨g,cap,by rw[hv,zAA],hg⟩
    subst hv;have HGG:=zz hg;clear hg;go_wp2
    try rw[Exit.noGoto_ret]
    go_ret
    exact⟨HEz.out,g,cap,rfl,HGG.out,by have:=HLEN.out;simp;omega,HOz.out.1⟩
   | false=>
    have hO:=Own.below HOc.out.1 ((zK y1.heap.size y1).alloc (zQ _) (.cells #[.int .u8 (q:Int)] 5));have hN:=HOc.out.2.below ((zK y1.heap.size y1).alloc (zQ _) (.cells #[.int .u8 (q:Int)] 5));have hlt:=World.ownsRow.lt hO;have hcc:Lib.byteCells (byL (out ++ [q]))=Lib.byteCells (byL out) ++ [.int .u8 (q:Int)]:=zEi out (q) (by have:=HQ9.out;omega);have hlb:=zAA out;have hle:=HLEN.out;have hen:=HEc.out.size;go_wp2_with (at_builtin;go_must (refine zAJ rfl _ _ rfl w.heap.size _ _ rfl hO hN ⟨y1.heap.size,0,none⟩ 1 (q:Int) rfl (by simp[Addr.add]) (by omega) (by simp;omega) ?_))
    intro v' z1 hown' hgrow hnz;have HEz:=zz (HEc.out.trans (Ex.of_below (S:=fun k=>k=R) (((zK w.heap.size y1).alloc HEc.out.size _).grown hgrow (by have:=HEc.out.size;simp;omega) (fun k hk=>(hlt k hk).1))));have HOz:Hid (Own w.heap.size z1 v' (byL (out ++ [q]))/\NoU z1 v'):=zz ⟨by unfold Own;rw[zAA,List.length_append,List.length_singleton,hcc];first|exact hown'|(rw[hlb] at hown';exact hown'),hnz⟩;have HR2:=zz (Rt.grown (HRc.out.below ((zK y1.heap.size y1).alloc (zQ _) (.cells #[.int .u8 (q:Int)] 5))) hO hN HLT.out hgrow)
    obtain⟨b',c',hv'⟩:∃ b' c',v'=.slice b' (out ++ [q]).length c':=by
     have h2:=HOz.out.1;unfold Own at h2;obtain⟨_,⟨_,hz⟩|⟨g,cap,cur,hv,hg,_⟩⟩:=h2
     ·simp[byL] at hz
     ·exact⟨_,_,by rw[hv,zAA]⟩
    have hlen1:(out ++ [q]).length=out.length+1:=by simp
    rw[hlen1] at hv';subst hv';clear hown' hgrow hO hN hlt hcc hlb hle hen hnz HRc HEc HOc HRC hlen1;go_wp2;go_roundw
    case rel=>
     obtain⟨e1,e2⟩:=HLH.out;have h1:=HS.out;have hlo:=HLB.out (by first|rfl|trivial);have hhi:=HHB.out (by first|rfl|trivial);subst e1;subst e2;refine⟨out ++ [q],k,r,l*10,h*10,zz ⟨hhi,by omega,by omega,hlo,?_,?_,?_⟩,⟨b',c',by simp⟩,HOz,HR2,HEz⟩
     ·have:=h1.2.2.2.2.1;rw[Nat.pow_succ'] at this;rw[Nat.mul_assoc];exact this
     ·have:=h1.2.2.2.2.2.1;simp only[List.length_append,List.length_singleton,Nat.pow_succ];omega
     ·have:=h1.2.2.2.2.2.2;rw[HGD.out] at this
      simpa using this
    case measure=>
     have h1:=HS.out.2.2.2.2.2.2;rw[HGD.out] at h1;have h2:=congrArg List.length h1;simp at h2;simp[zCs];omega
theorem zMa(w:World)(m p q:Nat)(e:Int)(hm:m<18446744073709551616)(he:e=(p:Int) - (q:Int))(hpq:p=0 \/ q=0)(hp:p<=2000)(hq:q<=2000):
  Calls Tryz.prog 135 #[.int .u64 (m:Int),.int .i64 e,.bool true] w fun r w'=>Below w.heap.size w w'/\∃ R,r=.returned (.pointer (some ⟨R,0,none⟩))/\w.heap.size<=R/\Rt w' R (m*2 ^ (2+p)) (1*2 ^ (2+q)) (1*2 ^ p) (2*2 ^ p) (m % 2 == 0):=by
 have HFM:=zz (fun w=>zAH w m hm);have HF1:=zz (fun w=>zAH w 1 (by decide));have HF2:=zz (fun w=>zAH w 2 (by decide));have hmx:max e 0=(p:Int):=by omega
 have hmy:max (-e) 0=(q:Int):=by omega
 have we:IntKind.i64.wrap (-e)=-e:=zY _ (by omega);clear he
 have hev:(bits .and .u64 (m:Int) 1 == 0)=(m % 2 == 0):=by
  have h1:=zDE m 1 hm (by decide);rw[Nat.and_one_is_mod] at h1;rw[show ((1:Nat):Int)=1 from rfl] at h1;rw[h1];rcases Nat.mod_two_eq_zero_or_one m with h2|h2 <;> rw[h2] <;> rfl
 obtain⟨ev,hevv⟩:∃ ev,ev=(m % 2 == 0):=⟨_,rfl⟩;rw[<-hevv] at hev;have HEV:=zz hevv;clear hevv;go_enter Tryz.func135,Tryz.ntmps135
 go_wp2_with fail
 refine (HFM.out w).mono ?_;rintro r w1 ⟨hb1,v1,rfl,hv1⟩;have HB1:=zz hb1;have HV1:=zz hv1;clear hb1 hv1;go_wp2_with fail
 refine (HF1.out w1).mono ?_;rintro r w2 ⟨hb2,v2,rfl,hv2⟩;have HB2:=zz (HB1.out.trans (hb2.mono HB1.out.size));have HV12:=zz (HV1.out.below hb2);have HV2:=zz hv2;clear hb2 hv2 HV1 HB1;go_wp2_with fail
 refine (HF1.out w2).mono ?_;rintro r w3 ⟨hb3,v3,rfl,hv3⟩;have HB3:=zz (HB2.out.trans (hb3.mono HB2.out.size));have HV13:=zz (HV12.out.below hb3);have HV23:=zz (HV2.out.below hb3);have HV3:=zz hv3;clear hb3 hv3 HV12 HV2 HB2;go_wp2_with fail
 refine (HF1.out w3).mono ?_;rintro r w4 ⟨hb4,v4,rfl,hv4⟩;have HB4:=zz (HB3.out.trans (hb4.mono HB3.out.size));obtain⟨a1,c1,rfl⟩:=HV13.out.slice;obtain⟨a2,c2,rfl⟩:=HV23.out.slice;obtain⟨a3,c3,rfl⟩:=HV3.out.slice;obtain⟨a4,c4,rfl⟩:=hv4.slice;obtain⟨lm,hlm⟩:∃ lm,lm=(zAb m).length:=⟨_,rfl⟩;obtain⟨l1,hl1⟩:∃ l1,l1=(zAb 1).length:=⟨_,rfl⟩;rw[<-hlm] at HV13 ⊢;rw[<-hl1] at HV23 HV3 hv4 ⊢
 have hrt:RtC (w4.alloc (.cells (zAx (.slice a1 lm c1) (.slice a2 l1 c2) (.slice a3 l1 c3) (.slice a4 l1 c4) ev) 277)) w4.heap.size (.slice a1 lm c1) (.slice a2 l1 c2) (.slice a3 l1 c3) (.slice a4 l1 c4) m 1 1 1 ev:=by
  have hbn:Below w4.heap.size w4 (w4.alloc (.cells (zAx (.slice a1 lm c1) (.slice a2 l1 c2) (.slice a3 l1 c3) (.slice a4 l1 c4) ev) 277)):=(zK _ _).alloc (zQ _) _;exact⟨Blk.new _ _ _,(HV13.out.below hb4).below hbn,(HV23.out.below hb4).below hbn,(HV3.out.below hb4).below hbn,hv4.below hbn⟩
 have hbn:Below w.heap.size w (w4.alloc (.cells (zAx (.slice a1 lm c1) (.slice a2 l1 c2) (.slice a3 l1 c3) (.slice a4 l1 c4) ev) 277)):=HB4.out.alloc HB4.out.size _;have HRT:=zz hrt;have HBN:=zz hbn;have HRB:Hid (w.heap.size<=w4.heap.size):=zz HB4.out.size;clear hb4 hv4 hlm hl1 HV13 HV23 HV3 HB3 HB4 hrt hbn
 have HSL:Hid (∀ w v,zAf w v (zAb 1)->Calls Tryz.prog 185 #[v,.int .i64 (p:Int)] w fun e w'=>Below w.heap.size w w'/\∃ v',e=.returned v'/\zAf w' v' (zAb (1*2 ^ p))):=zz (fun w v h=>by
  have:=zB5 w v _ p h (by rw[show zAb 1=[1] from Limb.zAu (by decide) (by decide)];decide) (by rw[zAe];have:=zCj (m:=1) (by decide);omega);rw[zAe] at this;exact this)
 have HSL2:Hid (∀ w v,zAf w v (zAb 2)->Calls Tryz.prog 185 #[v,.int .i64 (p:Int)] w fun e w'=>Below w.heap.size w w'/\∃ v',e=.returned v'/\zAf w' v' (zAb (2*2 ^ p))):=zz (fun w v h=>by
  have:=zB5 w v _ p h (by rw[show zAb 2=[2] from Limb.zAu (by decide) (by decide)];decide) (by rw[zAe];have:=zCj (m:=2) (by decide);omega);rw[zAe] at this;exact this)
 have HSD:Hid (∀ w v,zAf w v (zAb 1)->Calls Tryz.prog 185 #[v,.int .i64 ((2+q:Nat):Int)] w fun e w'=>Below w.heap.size w w'/\∃ v',e=.returned v'/\zAf w' v' (zAb (1*2 ^ (2+q)))):=zz (fun w v h=>by
  have:=zB5 w v _ (2+q) h (by rw[show zAb 1=[1] from Limb.zAu (by decide) (by decide)];decide) (by rw[zAe];have:=zCj (m:=1) (by decide);omega);rw[zAe] at this;exact this)
 have HSN:Hid (∀ w v,zAf w v (zAb m)->Calls Tryz.prog 185 #[v,.int .i64 ((2+p:Nat):Int)] w fun e w'=>Below w.heap.size w w'/\∃ v',e=.returned v'/\zAf w' v' (zAb (m*2 ^ (2+p)))):=zz (fun w v h=>by
  have:=zB5 w v _ (2+p) h (by have:=zFe hm;omega) (by rw[zAe];have:=zCj hm;omega);rw[zAe] at this;exact this)
 have wp1:IntKind.i64.wrap (2+(p:Int))=((2+p:Nat):Int):=by rw[zY _ (by omega)];omega
 have wq1:IntKind.i64.wrap (2+(q:Int))=((2+q:Nat):Int):=by rw[zY _ (by omega)];omega
 clear hpq hp hq;go_upto_region 3 with fail
 change Code.wp _ _ _ _ (w4.alloc (.cells (zAx (.slice a1 lm c1) (.slice a2 l1 c2) (.slice a3 l1 c3) (.slice a4 l1 c4) ev) 277));generalize w4.alloc (.cells (zAx (.slice a1 lm c1) (.slice a2 l1 c2) (.slice a3 l1 c3) (.slice a4 l1 c4) ev) 277)=w5 at HRT HBN ⊢;generalize w4.heap.size=R at HRT HRB ⊢;go_wp2_with fail
 refine (HF2.out w5).mono ?_;rintro r wh ⟨hbh,vh,rfl,hvh⟩;obtain⟨ah,ch,hsh⟩:=hvh.slice;obtain⟨lh,hlh⟩:∃ lh,lh=(zAb 2).length:=⟨_,rfl⟩;rw[<-hlh] at hsh;subst hsh;have HRH:=zz (RtC.below HRT.out hbh);have HRT2:=zz (RtC.setH HRH.out hvh);have HBN2:=zz ((HBN.out.trans (hbh.mono HBN.out.size)).setCell (p:=⟨R,3,none⟩) HRB.out (.slice ah lh ch));have x3:=HRH.out.1.cell 3;have f3:=HRH.out.1.free 3;simp only[zAx,zv,zk,zx] at x3;clear hbh hvh hlh HRT HBN;go_upto_region 6 with fail
 clear x3 f3;generalize wh.setCell ⟨R,3,none⟩ (.slice ah lh ch)=w5 at HRT2 HBN2 ⊢;clear HRH;have HRT:=HRT2;have HBN:=HBN2;clear HRT2 HBN2;have x0:=HRT.out.1.cell 0;simp only[zAx,zv,zk] at x0;go_wp2_with fail
 refine (HSN.out w5 _ HRT.out.2.1).mono ?_;rintro r w6 ⟨hb6,v6,rfl,hv6⟩;have HR6:=zz (RtC.below HRT.out hb6);have HB6:=zz (HBN.out.trans (hb6.mono HBN.out.size));obtain⟨a6,c6,hs6⟩:=hv6.slice;obtain⟨l6,hl6⟩:∃ l6,l6=(zAb (m*2 ^ (2+p))).length:=⟨_,rfl⟩;rw[<-hl6] at hs6;subst hs6;have HR7:=zz (RtC.setN HR6.out hv6);have HB7:=zz (HB6.out.setCell (p:=⟨R,0,none⟩) HRB.out (.slice a6 l6 c6));have x0:=HR6.out.1.cell 0;have f0:=HR6.out.1.free 0;simp only[zAx,zv,zk] at x0;clear hb6 hv6 hl6 HRT HBN HSN;go_upto_region 7 with fail
 clear x0 f0;generalize w6.setCell ⟨R,0,none⟩ (.slice a6 l6 c6)=w7 at HR7 HB7 ⊢;obtain⟨w0,hw0⟩:∃ w0,w0=w7.drew:=⟨_,rfl⟩;have HR0:=zz (RtC.below HR7.out (zAd (zK w7.heap.size w7) 1));have HB0:=zz (zAd HB7.out 1);have HW0:=zz hw0;clear HR6 HB6 HR7 HB7;change Hid (RtC w7.drew _ _ _ _ _ _ _ _ _ _) at HR0;change Hid (Below _ _ w7.drew) at HB0;rw[<-hw0] at HR0 HB0;clear hw0;refine wp_region_noPanic ?_;refine zDb (S:=SSt R (.slice a3 l1 c3) (.slice ah lh ch)) (by kernel_rfl) ?_;rw[<-HW0.out];have hH:SSt R (.slice a3 l1 c3) (.slice ah lh ch) (Array.replicate 22 false) w0:=⟨fun _=>HR0.out.1.cell 2,fun _=>HR0.out.1.cell 3⟩;refine zAp (d:=some 36) (hd:=by rfl) (i:=0) (oi:=_) (v:=.pointer (some ⟨R,0,none⟩)) rfl (by kernel_rfl) (by kernel_rfl) (by kernel_rfl) (fun _ _ _ h=>h) (SSt.anti 0 (by decide) (by decide)) (Or.inl ⟨by rfl,fun w' _=>?_⟩) hH (fun hH=>?_)
 ·clear hH;go_simp
 try simp only[Act.put,zy,zq,zj]
 refine zAp (d:=some 37) (hd:=by rfl) (i:=1) (oi:=_) (v:=.pointer (some ⟨R,0,none⟩)) rfl (by kernel_rfl) (by kernel_rfl) (by kernel_rfl) (fun _ _ _ h=>h) (SSt.anti 1 (by decide) (by decide)) (Or.inl ⟨by rfl,fun w' _=>?_⟩) hH (fun hH=>?_)
 ·clear hH;go_simp
 try simp only[Act.put,zy,zq,zj]
 refine zAp (d:=some 38) (hd:=by rfl) (i:=2) (oi:=_) (v:=.pointer (some ⟨R,0,none⟩)) rfl (by kernel_rfl) (by kernel_rfl) (by kernel_rfl) (fun _ _ _ h=>h) (SSt.anti 2 (by decide) (by decide)) (Or.inl ⟨by rfl,fun w' _=>?_⟩) hH (fun hH=>?_)
 ·clear hH;go_simp
 try simp only[Act.put,zy,zq,zj]
 refine zAp (d:=some 39) (hd:=by rfl) (i:=3) (oi:=_) (v:=.pointer (some ⟨R,0,none⟩)) rfl (by kernel_rfl) (by kernel_rfl) (by kernel_rfl) (fun _ _ _ h=>h) (SSt.anti 3 (by decide) (by decide)) (Or.inl ⟨by rfl,fun w' _=>?_⟩) hH (fun hH=>?_)
 ·clear hH;go_simp
 try simp only[Act.put,zy,zq,zj]
 refine zAp (d:=some 40) (hd:=by rfl) (i:=4) (oi:=_) (v:=.pointer (some ⟨R,2,none⟩)) rfl (by kernel_rfl) (by kernel_rfl) (by kernel_rfl) (fun _ _ _ h=>h) (SSt.anti 4 (by decide) (by decide)) (Or.inl ⟨by rfl,fun w' _=>?_⟩) hH (fun hH=>?_)
 ·clear hH;go_simp
 try simp only[Act.put,zy,zq,zj]
 refine zDT (T:=fun w'=>w'.cell? ⟨R,2,none⟩=some (.slice a3 l1 c3)) (d:=some 41) (hd:=by rfl) (i:=5) (k:=8) (oi:=_) (ok:=_) (v:=(.slice a3 l1 c3)) rfl rfl (by kernel_rfl) (by kernel_rfl) (by kernel_rfl) (by kernel_rfl) (by kernel_rfl) (fun _ _ _ h=>h) (SSt.anti 5 (by decide) (by decide)) (fun u w h hs=>hs.c2 h) (Or.inl ⟨by rfl,fun w' hT=>?_⟩) hH (fun hH=>?_)
 ·clear hH;have hT:w'.cell? ⟨R,2,none⟩=some (.slice a3 l1 c3):=hT;go_simp
 try simp only[Act.put,zy,zq,zj]
 refine zAp (d:=some 42) (hd:=by rfl) (i:=6) (oi:=_) (v:=.int .i64 e) rfl (by kernel_rfl) (by kernel_rfl) (by kernel_rfl) (fun _ _ _ h=>h) (SSt.anti 6 (by decide) (by decide)) (Or.inl ⟨by rfl,fun w' _=>?_⟩) hH (fun hH=>?_)
 ·clear hH;go_simp
 try simp only[Act.put,zy,zq,zj]
 refine zAp (d:=some 43) (hd:=by rfl) (i:=7) (oi:=_) (v:=.int .i64 (p:Int)) rfl (by kernel_rfl) (by kernel_rfl) (by kernel_rfl) (fun _ _ _ h=>h) (SSt.anti 7 (by decide) (by decide)) (Or.inl ⟨by rfl,fun w' _=>?_⟩) hH (fun hH=>?_)
 ·clear hH;go_simp
 try simp only[Act.put,zy,zq,zj]
 refine zAp (d:=some 45) (hd:=by rfl) (i:=9) (oi:=_) (v:=.pointer (some ⟨R,0,none⟩)) rfl (by kernel_rfl) (by kernel_rfl) (by kernel_rfl) (fun _ _ _ h=>h) (SSt.anti 9 (by decide) (by decide)) (Or.inl ⟨by rfl,fun w' _=>?_⟩) hH (fun hH=>?_)
 ·clear hH;go_simp
 try simp only[Act.put,zy,zq,zj]
 refine zAp (d:=some 46) (hd:=by rfl) (i:=10) (oi:=_) (v:=.pointer (some ⟨R,0,none⟩)) rfl (by kernel_rfl) (by kernel_rfl) (by kernel_rfl) (fun _ _ _ h=>h) (SSt.anti 10 (by decide) (by decide)) (Or.inl ⟨by rfl,fun w' _=>?_⟩) hH (fun hH=>?_)
 ·clear hH;go_simp
 try simp only[Act.put,zy,zq,zj]
 refine zAp (d:=some 47) (hd:=by rfl) (i:=11) (oi:=_) (v:=.pointer (some ⟨R,3,none⟩)) rfl (by kernel_rfl) (by kernel_rfl) (by kernel_rfl) (fun _ _ _ h=>h) (SSt.anti 11 (by decide) (by decide)) (Or.inl ⟨by rfl,fun w' _=>?_⟩) hH (fun hH=>?_)
 ·clear hH;go_simp
 try simp only[Act.put,zy,zq,zj]
 refine zDT (T:=fun w'=>w'.cell? ⟨R,3,none⟩=some (.slice ah lh ch)) (d:=some 48) (hd:=by rfl) (i:=12) (k:=15) (oi:=_) (ok:=_) (v:=(.slice ah lh ch)) rfl rfl (by kernel_rfl) (by kernel_rfl) (by kernel_rfl) (by kernel_rfl) (by kernel_rfl) (fun _ _ _ h=>h) (SSt.anti 12 (by decide) (by decide)) (fun u w h hs=>hs.c3 h) (Or.inl ⟨by rfl,fun w' hT=>?_⟩) hH (fun hH=>?_)
 ·clear hH;have hT:w'.cell? ⟨R,3,none⟩=some (.slice ah lh ch):=hT;go_simp
 try simp only[Act.put,zy,zq,zj]
 refine zAp (d:=some 49) (hd:=by rfl) (i:=13) (oi:=_) (v:=.int .i64 e) rfl (by kernel_rfl) (by kernel_rfl) (by kernel_rfl) (fun _ _ _ h=>h) (SSt.anti 13 (by decide) (by decide)) (Or.inl ⟨by rfl,fun w' _=>?_⟩) hH (fun hH=>?_)
 ·clear hH;go_simp
 try simp only[Act.put,zy,zq,zj]
 refine zAp (d:=some 50) (hd:=by rfl) (i:=14) (oi:=_) (v:=.int .i64 (p:Int)) rfl (by kernel_rfl) (by kernel_rfl) (by kernel_rfl) (fun _ _ _ h=>h) (SSt.anti 14 (by decide) (by decide)) (Or.inl ⟨by rfl,fun w' _=>?_⟩) hH (fun hH=>?_)
 ·clear hH;go_simp
 try simp only[Act.put,zy,zq,zj]
 refine zBr (i:=8) (o:=_) (by kernel_rfl) rfl (fun K hK=>?_);go_simp;refine (HSL.out w0 _ HR0.out.2.2.2.1).mono ?_;rintro r w1 ⟨hb1,v1,rfl,hv1⟩;obtain⟨sb1,sc1,hs1⟩:=hv1.slice;obtain⟨ln1,hl1⟩:∃ ln,ln=(zAb (1*2 ^ p)).length:=⟨_,rfl⟩;rw[<-hl1] at hs1;subst hs1;have HR1:=zz (RtC.below HR0.out hb1);have HB1:=zz (HB0.out.trans (hb1.mono HB0.out.size));have HL11:=zz hv1;clear hb1 hv1 hl1;go_wp2_with fail
 refine hK.out _ _ ⟨fun _=>HR1.out.1.cell 2,fun _=>HR1.out.1.cell 3⟩ (fun hH=>?_);clear hK K
 try simp only[Act.put,zy,zq,zj]
 refine zBr (i:=15) (o:=_) (by kernel_rfl) rfl (fun K hK=>?_);go_simp;refine (HSL2.out w1 _ HR1.out.2.2.2.2).mono ?_;rintro r w2 ⟨hb2,v2,rfl,hv2⟩;obtain⟨sb2,sc2,hs2⟩:=hv2.slice;obtain⟨ln2,hl2⟩:∃ ln,ln=(zAb (2*2 ^ p)).length:=⟨_,rfl⟩;rw[<-hl2] at hs2;subst hs2;have HR2:=zz (RtC.below HR1.out hb2);have HB2:=zz (HB1.out.trans (hb2.mono HB1.out.size));have HL21:=zz (HL11.out.below hb2);have HL22:=zz hv2;clear hb2 hv2 hl2;go_wp2_with fail
 refine hK.out _ _ ⟨fun _=>HR2.out.1.cell 2,fun _=>HR2.out.1.cell 3⟩ (fun hH=>?_);clear hK K
 try simp only[Act.put,zy,zq,zj]
 have HXa:=zz HR2.out.1;have HEa:=HB2;refine zAp (d:=some 52) (hd:=by rfl) (i:=16) (oi:=_) (v:=.pointer (some ⟨R,0,none⟩)) rfl (by kernel_rfl) (by kernel_rfl) (by kernel_rfl) (fun _ _ _ h=>h) (SSt.anti 16 (by decide) (by decide)) (Or.inl ⟨by rfl,fun w' _=>?_⟩) hH (fun hH=>?_)
 ·clear hH;go_simp
 try simp only[Act.put,zy,zq,zj]
 refine zAp (d:=some 53) (hd:=by rfl) (i:=17) (oi:=_) (v:=.pointer (some ⟨R,2,none⟩)) rfl (by kernel_rfl) (by kernel_rfl) (by kernel_rfl) (fun _ _ _ h=>h) (SSt.anti 17 (by decide) (by decide)) (Or.inl ⟨by rfl,fun w' _=>?_⟩) hH (fun hH=>?_)
 ·clear hH;go_simp
 try simp only[Act.put,zy,zq,zj]
 refine zBr (i:=18) (o:=_) (by kernel_rfl) rfl (fun K hK=>?_);have e2:=HXa.out.cell 2;have f2:=HXa.out.free 2;simp only[zAx,zv,zk,zx] at e2;go_simp;go_wp2_with fail
 clear e2 f2;refine hK.out _ _ ⟨fun h=>absurd h (by decide),fun h=>absurd h (by decide)⟩ (fun hH=>?_);clear hK K
 try simp only[Act.put,zy,zq,zj]
 have HXb:=zz (HXa.out.set 2 (.slice sb1 ln1 sc1));have HEb:=zz (HEa.out.setCell (p:=⟨R,2,none⟩) HRB.out (.slice sb1 ln1 sc1));refine zAp (d:=some 54) (hd:=by rfl) (i:=19) (oi:=_) (v:=.pointer (some ⟨R,0,none⟩)) rfl (by kernel_rfl) (by kernel_rfl) (by kernel_rfl) (fun _ _ _ h=>h) (SSt.anti 19 (by decide) (by decide)) (Or.inl ⟨by rfl,fun w' _=>?_⟩) hH (fun hH=>?_)
 ·clear hH;go_simp
 try simp only[Act.put,zy,zq,zj]
 refine zAp (d:=some 55) (hd:=by rfl) (i:=20) (oi:=_) (v:=.pointer (some ⟨R,3,none⟩)) rfl (by kernel_rfl) (by kernel_rfl) (by kernel_rfl) (fun _ _ _ h=>h) (SSt.anti 20 (by decide) (by decide)) (Or.inl ⟨by rfl,fun w' _=>?_⟩) hH (fun hH=>?_)
 ·clear hH;go_simp
 try simp only[Act.put,zy,zq,zj]
 refine zBr (i:=21) (o:=_) (by kernel_rfl) rfl (fun K hK=>?_);have e3:=HXb.out.cell 3;have f3:=HXb.out.free 3;simp only[zAx,zv,zk,zx] at e3;go_simp;go_wp2_with fail
 clear e3 f3;refine hK.out _ _ ⟨fun h=>absurd h (by decide),fun h=>absurd h (by decide)⟩ (fun hH=>?_);clear hK K
 try simp only[Act.put,zy,zq,zj]
 have HXc:=zz (HXb.out.set 3 (.slice sb2 ln2 sc2));have HEc:=zz (HEb.out.setCell (p:=⟨R,3,none⟩) HRB.out (.slice sb2 ln2 sc2));refine zED (by kernel_rfl) ?_ _;refine NoPanic.normal ?_;have HRa:=zz (RtC.setH (RtC.setL HR2.out HL21.out) (HL22.out.ex HR2.out.1 (RtC.noint HR2.out) ((Ex.refl (fun k=>k=R) _ _).setCell R 2 (Or.inl rfl) (.slice sb1 ln1 sc1))));clear hH;generalize (w2.setCell ⟨R,2,none⟩ (.slice sb1 ln1 sc1)).setCell ⟨R,3,none⟩ (.slice sb2 ln2 sc2)=w8 at HRa HEc ⊢;have x1:=HRa.out.1.cell 1;simp only[zAx,zv,zk,zx] at x1;go_wp2_with fail
 refine (HSD.out w8 _ HRa.out.2.2.1).mono ?_;rintro r w9 ⟨hb9,v9,rfl,hv9⟩;obtain⟨a9,c9,hs9⟩:=hv9.slice;obtain⟨l9,hl9⟩:∃ l9,l9=(zAb (1*2 ^ (2+q))).length:=⟨_,rfl⟩;rw[<-hl9] at hs9;subst hs9;have HR9:=zz (RtC.below HRa.out hb9);have HRz:=zz (RtC.setD HR9.out hv9);have HB9:=zz (HEc.out.trans (hb9.mono HEc.out.size));have HBz:=zz (HB9.out.setCell (p:=⟨R,1,none⟩) HRB.out (.slice a9 l9 c9));have x1:=HR9.out.1.cell 1;have f1:=HR9.out.1.free 1;simp only[zAx,zv,zk,zx] at x1;clear hb9 hv9 hl9 HRa HEc HSD;go_wp2;go_ret;exact⟨HBz.out,R,rfl,HRB.out,⟨_,_,_,_,by rw[<-HEV.out];exact HRz.out⟩⟩
end Go.Proofs.YtcanfakaigpkgaaGreatDoor.D
