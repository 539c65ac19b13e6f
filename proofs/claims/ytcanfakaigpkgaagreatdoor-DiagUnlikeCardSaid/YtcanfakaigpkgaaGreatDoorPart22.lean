/-
  Of the proof that the law DiagUnlike answers true at every two values: a part, without conditions of its own.
-/
import Derived.Test.YtcanfakaigpkgaaGreatDoorPart19
import Derived.Test.YtcanfakaigpkgaaGreatDoorPart16
set_option linter.unusedVariables false
set_option linter.unusedSimpArgs false
set_option maxRecDepth 100000
set_option maxHeartbeats 8000000
namespace Go.Proofs.YtcanfakaigpkgaaGreatDoor.D
open Go Go.RowKit Limb
theorem zC9(n k:Nat)(h:(zAb n).length<=k):(zAb (n*10)).length<=k+1:=by
 apply zAq;have h1:=zBn n;have h3:4294967296 ^ (zAb n).length<=4294967296 ^ k:=Nat.pow_le_pow_right (by decide) h;rw[Nat.pow_succ];generalize 4294967296 ^ k=K at *;omega
def zD0(n d h:Nat)(ev:Bool):Bool:=decide (d<n+h) || (decide (n+h=d) && ev)
theorem zMt(n d h:Nat)(ev:Bool):(0<zBo (n+h) d->zD0 n d h ev=true)/\(zBo (n+h) d=0->zD0 n d h ev=ev)/\(zBo (n+h) d<0->zD0 n d h ev=false):=by
 unfold zBo zD0;rcases Nat.lt_trichotomy (n+h) d with h1|h1|h1
 ·have h2:¬ d<n+h:=by omega
  have h3:¬ n+h=d:=by omega
  simp[h1,h2,h3]
 ·have h2:¬ d<n+h:=by omega
  simp[h1]
 ·have h2:¬ n+h<d:=by omega
  simp[h1,h2]
theorem zCo{a b k:Nat}(ha:(zAb a).length<=k)(hb:(zAb b).length<=k):(zAb (a+b)).length<=k+1:=by
 apply zAq;have h1:=zBn a;have h2:=zBn b;have h3:4294967296 ^ (zAb a).length<=4294967296 ^ k:=Nat.pow_le_pow_right (by omega) ha;have h4:4294967296 ^ (zAb b).length<=4294967296 ^ k:=Nat.pow_le_pow_right (by omega) hb;rw[Nat.pow_succ];omega
theorem zB3(w:World)(R:Nat)(n d l h:Nat)(ev:Bool)(hR:Rt w R n d l h ev)(hn:(zAb n).length<=100000)(hd:(zAb d).length<=100000)(hh:(zAb h).length<=100000):
  Calls Tryz.prog 189 #[.pointer (some ⟨R,0,none⟩)] w fun e w'=>e=.returned (.bool (zD0 n d h ev))/\Below w.heap.size w w':=by
 obtain⟨vn,vd,vl,vh,hr⟩:=hR
 have HT:Hid (∀ w' w'',(w'.cell? ⟨R,0,none⟩=some vn/\w'.cell? ⟨R,1,none⟩=some vd/\w'.cell? ⟨R,3,none⟩=some vh/\RtC w' R vn vd vl vh n d l h ev/\Below w.heap.size w w')->Hid (Below w'.heap.size w' w'')->(w''.cell? ⟨R,0,none⟩=some vn/\w''.cell? ⟨R,1,none⟩=some vd/\w''.cell? ⟨R,3,none⟩=some vh/\RtC w'' R vn vd vl vh n d l h ev/\Below w.heap.size w w'')):=zz (fun w' w'' h hk=>by
  obtain⟨_,_,_,h1,h2⟩:=h;have h3:=h1.below hk.out;exact⟨h3.1.cell 0,h3.1.cell 1,h3.1.cell 3,h3,h2.trans (hk.out.mono h2.size)⟩)
 have HS0:Hid ((w.drew).cell? ⟨R,0,none⟩=some vn/\(w.drew).cell? ⟨R,1,none⟩=some vd/\(w.drew).cell? ⟨R,3,none⟩=some vh/\RtC (w.drew) R vn vd vl vh n d l h ev/\Below w.heap.size w w.drew):=zz (by
  have h3:=hr.below (zAd (zK w.heap.size w) 1);exact⟨h3.1.cell 0,h3.1.cell 1,h3.1.cell 3,h3,(zAd (zK w.heap.size w) 1)⟩)
 have HAD:Hid (∀ w',(w'.cell? ⟨R,0,none⟩=some vn/\w'.cell? ⟨R,1,none⟩=some vd/\w'.cell? ⟨R,3,none⟩=some vh/\RtC w' R vn vd vl vh n d l h ev/\Below w.heap.size w w')->Calls Tryz.prog 224 #[vn,vh] w' fun e w''=>Below w'.heap.size w' w''/\∃ v,e=.returned v/\zAf w'' v (zAb (n+h))):=zz (fun w' hs=>by
  have:=zL3 w' vn vh _ _ hs.2.2.2.1.2.1 hs.2.2.2.1.2.2.2.2 (by omega) (by omega);rw[zAe,zAe] at this;exact this)
 have HCM:Hid (∀ w' v,(w'.cell? ⟨R,0,none⟩=some vn/\w'.cell? ⟨R,1,none⟩=some vd/\w'.cell? ⟨R,3,none⟩=some vh/\RtC w' R vn vd vl vh n d l h ev/\Below w.heap.size w w')->zAf w' v (zAb (n+h))->Calls Tryz.prog 52 #[v,vd] w' fun e w''=>e=.returned (.int .i64 (zBo (n+h) d))/\Below w'.heap.size w' w''):=zz (fun w' v hs hv=>by
  have:=zC7 w' v vd _ _ hv hs.2.2.2.1.2.2.1 (by have:=zCo hn hh;omega) (by omega);rw[zAe,zAe] at this;exact this)
 have HX:Hid (∀ w',(w'.cell? ⟨R,0,none⟩=some vn/\w'.cell? ⟨R,1,none⟩=some vd/\w'.cell? ⟨R,3,none⟩=some vh/\RtC w' R vn vd vl vh n d l h ev/\Below w.heap.size w w')->w'.cell? ⟨R,4,none⟩=some (.bool ev)/\Below w.heap.size w w'):=zz (fun w' h=>⟨h.2.2.2.1.1.cell 4,h.2.2.2.2⟩);have HOV:=zz (zMt n d h ev);clear hr hn hd hh;generalize zD0 n d h ev=bo at HOV ⊢;generalize zBo (n+h) d=cm at HCM HOV;go_enter Tryz.func189,Tryz.ntmps189
 go_upto_region 1 with fail
 go_region_held3 (fun w'=>(w'.cell? ⟨R,0,none⟩=some vn/\w'.cell? ⟨R,1,none⟩=some vd/\w'.cell? ⟨R,3,none⟩=some vh/\RtC w' R vn vd vl vh n d l h ev/\Below w.heap.size w w'))
  (first
   | exact HS0.out
   | assumption
   | (refine HT.out _ _ ?_ hb9;assumption))
  ((first
   | (go_at_call 224;refine (HAD.out _ (by first|exact HS0.out|assumption)).mono ?_;rintro e w9 ⟨hb9,v9,rfl,hv9⟩;replace hb9:=zz hb9)
   | (go_at_call 52;refine (HCM.out _ _ (by first|exact HS0.out|assumption|(refine HT.out _ _ ?_ (by assumption);first|exact HS0.out|assumption)) (by assumption)).mono ?_;rintro e w9 ⟨rfl,hb9⟩;replace hb9:=zz hb9)))
 all_goals (
  have hx:=HX.out w9 (by assumption);have HB:=zz hx.2;have c4:=hx.1;clear hx HX HT HS0 HAD HCM;rcases Int.lt_trichotomy cm 0 with h1|h1|h1
  ·have h2:¬ 0<cm:=by omega
   have h3:(cm == 0)=false:=beq_eq_false_iff_ne.2 (by omega);obtain rfl:=HOV.out.2.2 h1;clear HOV;go_wp2;go_ret;exact⟨rfl,HB.out⟩
  ·subst h1;obtain rfl:=HOV.out.2.1 rfl;clear HOV;go_wp2;go_ret;exact⟨rfl,HB.out⟩
  ·obtain rfl:=HOV.out.1 h1;clear HOV;go_wp2;go_ret;exact⟨rfl,HB.out⟩)
theorem zEl(w:World)(R:Nat)(n d l h:Nat)(ev:Bool)(hR:Rt w R n d l h ev)(hnd:n<d)(hn:(zAb n).length<=99999)(hd:(zAb d).length<=99999)(hl:(zAb l).length<=99999)(hh:(zAb h).length<=99999):
  Calls Tryz.prog 190 #[.pointer (some ⟨R,0,none⟩)] w fun e w'=>e=.returned (.int .u8 ((n*10 / d:Nat):Int))/\Rt w' R (n*10 % d) d (l*10) (h*10) ev/\Ex (fun k=>k=R) w.heap.size w w':=by
 have HF:=zz (zAH w 10 (by decide));have HR:=zz hR;have HN:=zz hn;have HD:=zz hd;have HL:=zz hl;have HH:=zz hh;have h10:(zAb 10).length=1:=by rw[show zAb 10=[10] from Limb.zAu (by decide) (by decide)];rfl
 have hlt:R<w.heap.size:=by obtain⟨_,_,_,_,hr⟩:=hR;exact hr.1.lt
 have HLT:=zz hlt;have HQ:Hid (n*10 / d<10/\d≠0):=zz ⟨Nat.div_lt_of_lt_mul (by rw[Nat.mul_comm d];omega),by omega⟩;clear hR hn hd hl hh hlt hnd;go_enter Tryz.func190,Tryz.ntmps190
 go_wp2_with fail
 refine HF.out.mono ?_;rintro e w1 ⟨hb1,v1,rfl,hv1⟩;have HB1:=zz hb1;have HBY:=zz (zGm w1 R v1 n d l h 10 ev (HR.out.below hb1) hv1 (by have:=HN.out;omega) (by have:=HL.out;omega) (by have:=HH.out;omega) (by omega));have h1s:=hb1.size;clear hb1 hv1 HF HR;go_wp2_with fail
 refine HBY.out.mono ?_;rintro e w2 ⟨rfl,hR2,hE2⟩;have HE2:=zz ((Ex.of_below HB1.out).trans (hE2.mono h1s (fun k hk=>hk)));obtain⟨vn,vd,vl,vh,hr⟩:=hR2;have hlt2:=hr.1.lt;clear hE2 HBY HB1
 have HT:Hid (∀ w' w'',(w'.cell? ⟨R,0,none⟩=some vn/\w'.cell? ⟨R,1,none⟩=some vd/\RtC w' R vn vd vl vh (n*10) d (l*10) (h*10) ev/\Below w2.heap.size w2 w')->Hid (Below w'.heap.size w' w'')->(w''.cell? ⟨R,0,none⟩=some vn/\w''.cell? ⟨R,1,none⟩=some vd/\RtC w'' R vn vd vl vh (n*10) d (l*10) (h*10) ev/\Below w2.heap.size w2 w'')):=zz (fun w' w'' h hk=>by
  obtain⟨_,_,h1,h2⟩:=h;have h3:=h1.below hk.out;exact⟨h3.1.cell 0,h3.1.cell 1,h3,h2.trans (hk.out.mono h2.size)⟩)
 have HS0:Hid ((w2.drew).cell? ⟨R,0,none⟩=some vn/\(w2.drew).cell? ⟨R,1,none⟩=some vd/\RtC (w2.drew) R vn vd vl vh (n*10) d (l*10) (h*10) ev/\Below w2.heap.size w2 w2.drew):=zz (by
  have h3:=hr.below (zAd (zK w2.heap.size w2) 1);exact⟨h3.1.cell 0,h3.1.cell 1,h3,(zAd (zK w2.heap.size w2) 1)⟩)
 have HDV:Hid (∀ w',(w'.cell? ⟨R,0,none⟩=some vn/\w'.cell? ⟨R,1,none⟩=some vd/\RtC w' R vn vd vl vh (n*10) d (l*10) (h*10) ev/\Below w2.heap.size w2 w')->Calls Tryz.prog 212 #[vn,vd] w' fun e w''=>Below w'.heap.size w' w''/\∃ q b c m,e=.returned (.tuple #[q,.slice b m c,.bool true])/\zAf w'' q (zAb (n*10 / d))/\zAf w'' (.slice b m c) (zAb (n*10 % d))):=zz (fun w' hs=>by
  have hnl:(zAb (n*10)).length<=100001:=zC9 n 100000 (Nat.le_succ_of_le HN.out);refine (zOi w' vn vd _ _ hs.2.2.1.2.1 hs.2.2.1.2.2.1 (by omega) (by have:=HD.out;omega) (by rw[zAe];exact HQ.out.2)).mono ?_;rintro e w'' ⟨hb,q,r,rfl,hq,hr⟩;rw[zAe,zAe] at hq hr;obtain⟨b,c,rfl⟩:=hr.slice;exact⟨hb,q,b,c,_,rfl,hq,hr⟩)
 have HX:Hid (∀ w',(w'.cell? ⟨R,0,none⟩=some vn/\w'.cell? ⟨R,1,none⟩=some vd/\RtC w' R vn vd vl vh (n*10) d (l*10) (h*10) ev/\Below w2.heap.size w2 w')->RtC w' R vn vd vl vh (n*10) d (l*10) (h*10) ev/\Below w2.heap.size w2 w'):=zz (fun w' h=>⟨h.2.2.1,h.2.2.2⟩);clear hr;go_upto_region 2 with fail
 go_region_held3 (fun w'=>(w'.cell? ⟨R,0,none⟩=some vn/\w'.cell? ⟨R,1,none⟩=some vd/\RtC w' R vn vd vl vh (n*10) d (l*10) (h*10) ev/\Below w2.heap.size w2 w'))
  (first
   | exact HS0.out
   | assumption
   | (refine HT.out _ _ ?_ hb9;assumption))
  ((go_at_call 212;refine (HDV.out _ (by first|exact HS0.out|assumption)).mono ?_;rintro e w9 ⟨hb9,q9,b9,c9,m9,rfl,hq9,hr9⟩;replace hb9:=zz hb9))
 all_goals (
  have hx:=HX.out w9 (by assumption);have HR9:=zz hx.1;have HB9:=zz hx.2;have hq9':=hq9;have hr9':=hr9;have HQ9:=zz hq9;have HV9:=zz hr9;have c0:=HR9.out.1.cell 0;have f0:=HR9.out.1.free 0;simp only[zAx,zv,zk] at c0;have hE:Ex (fun k=>k=R) w9.heap.size w9 (w9.setCell ⟨R,0,none⟩ (.slice b9 m9 c9)):=(Ex.refl (fun k=>k=R) _ _).setCell R 0 (Or.inl rfl) _;have hni:=RtC.noint HR9.out;have HQz:=zz (HQ9.out.ex HR9.out.1 hni hE);have HVz:=zz (HV9.out.ex HR9.out.1 hni hE);have HDz:=zz (HR9.out.2.2.1.ex HR9.out.1 hni hE);have HLz:=zz (HR9.out.2.2.2.1.ex HR9.out.1 hni hE);have HHz:=zz (HR9.out.2.2.2.2.ex HR9.out.1 hni hE);have HBz:=zz (HR9.out.1.set 0 (.slice b9 m9 c9));have HEz:=zz (HE2.out.trans (((Ex.of_below (S:=fun k=>k=R) HB9.out).setCell R 0 (Or.inl rfl) (.slice b9 m9 c9)).mono HE2.out.size (fun k hk=>hk)));clear hE hni hx hq9 hr9 hq9' hr9' HS0 HT HDV HX hb9 HR9 HQ9 HV9 HB9;have hqv:val (zAb (n*10 / d))=n*10 / d:=zAe _;have HU:=zz (zDn _ q9 _ HQz.out (by rw[hqv];have:=HQ.out.1;omega));rw[hqv] at HU;have hq10:=HQ.out.1;have qw:IntKind.u8.wrap ((n*10 / d:Nat):Int)=((n*10 / d:Nat):Int):=by rw[IntKind.wrap_u8];omega
  have qw2:((n*10 / d:Nat):Int) % 256=((n*10 / d:Nat):Int):=by omega
  obtain⟨q,hqq⟩:∃ q,q=n*10 / d:=⟨_,rfl⟩;rw[<-hqq] at HU qw qw2;have HQE:=zz hqq;clear hqv hq10 HQz hqq;go_wp2_with fail
  refine HU.out.mono ?_;rintro e w10 ⟨rfl,rfl⟩;go_wp2;go_ret;exact⟨by rw[<-HQE.out];rfl,⟨_,_,_,_,HBz.out,HVz.out,HDz.out,HLz.out,HHz.out⟩,HEz.out⟩)
structure SSt (R:Nat) (vl vh:Value) (u:Array Bool) (w:World):Prop where
 c2:u.getD 8 true=false->w.cell? ⟨R,2,none⟩=some vl
 c3:u.getD 15 true=false->w.cell? ⟨R,3,none⟩=some vh
theorem SSt.anti{R:Nat}{vl vh:Value}(i:Nat)(h8:i≠8)(h15:i≠15)(u:Array Bool)(w:World):SSt R vl vh (u.setIfInBounds i true) w ↔ SSt R vl vh u w:=by
 constructor
 ·intro h;exact⟨fun e=>h.c2 (by rw[Go.getD_set_ne true h8];exact e),fun e=>h.c3 (by rw[Go.getD_set_ne true h15];exact e)⟩
 ·intro h;exact⟨fun e=>h.c2 (by rw[Go.getD_set_ne true h8] at e;exact e),fun e=>h.c3 (by rw[Go.getD_set_ne true h15] at e;exact e)⟩
theorem RtC.setN{w:World}{R n d l h n':Nat}{vn vd vl vh v':Value}{ev:Bool}(hr:RtC w R vn vd vl vh n d l h ev)(hv:zAf w v' (zAb n')):RtC (w.setCell ⟨R,0,none⟩ v') R v' vd vl vh n' d l h ev:=by
 have hE:Ex (fun k=>k=R) w.heap.size w (w.setCell ⟨R,0,none⟩ v'):=(Ex.refl (fun k=>k=R) _ _).setCell R 0 (Or.inl rfl) _;have hni:=RtC.noint hr;exact⟨hr.1.set 0 v',hv.ex hr.1 hni hE,hr.2.2.1.ex hr.1 hni hE,hr.2.2.2.1.ex hr.1 hni hE,hr.2.2.2.2.ex hr.1 hni hE⟩
theorem RtC.setD{w:World}{R n d l h d':Nat}{vn vd vl vh v':Value}{ev:Bool}(hr:RtC w R vn vd vl vh n d l h ev)(hv:zAf w v' (zAb d')):RtC (w.setCell ⟨R,1,none⟩ v') R vn v' vl vh n d' l h ev:=by
 have hE:Ex (fun k=>k=R) w.heap.size w (w.setCell ⟨R,1,none⟩ v'):=(Ex.refl (fun k=>k=R) _ _).setCell R 1 (Or.inl rfl) _;have hni:=RtC.noint hr;exact⟨hr.1.set 1 v',hr.2.1.ex hr.1 hni hE,hv.ex hr.1 hni hE,hr.2.2.2.1.ex hr.1 hni hE,hr.2.2.2.2.ex hr.1 hni hE⟩
theorem RtC.setL{w:World}{R n d l h l':Nat}{vn vd vl vh v':Value}{ev:Bool}(hr:RtC w R vn vd vl vh n d l h ev)(hv:zAf w v' (zAb l')):RtC (w.setCell ⟨R,2,none⟩ v') R vn vd v' vh n d l' h ev:=by
 have hE:Ex (fun k=>k=R) w.heap.size w (w.setCell ⟨R,2,none⟩ v'):=(Ex.refl (fun k=>k=R) _ _).setCell R 2 (Or.inl rfl) _;have hni:=RtC.noint hr;exact⟨hr.1.set 2 v',hr.2.1.ex hr.1 hni hE,hr.2.2.1.ex hr.1 hni hE,hv.ex hr.1 hni hE,hr.2.2.2.2.ex hr.1 hni hE⟩
theorem RtC.setH{w:World}{R n d l h h':Nat}{vn vd vl vh v':Value}{ev:Bool}(hr:RtC w R vn vd vl vh n d l h ev)(hv:zAf w v' (zAb h')):RtC (w.setCell ⟨R,3,none⟩ v') R vn vd vl v' n d l h' ev:=by
 have hE:Ex (fun k=>k=R) w.heap.size w (w.setCell ⟨R,3,none⟩ v'):=(Ex.refl (fun k=>k=R) _ _).setCell R 3 (Or.inl rfl) _;have hni:=RtC.noint hr;exact⟨hr.1.set 3 v',hr.2.1.ex hr.1 hni hE,hr.2.2.1.ex hr.1 hni hE,hr.2.2.2.1.ex hr.1 hni hE,hv.ex hr.1 hni hE⟩
theorem zCj{m:Nat}(h:m<18446744073709551616):zA7 m<=64:=zCF (k:=64) h
theorem zFe{m:Nat}(h:m<18446744073709551616):(zAb m).length<=2:=zAq (by rw[show (4294967296:Nat) ^ 2=18446744073709551616 from rfl];exact h)
theorem zJ9(w:World)(m p q:Nat)(e:Int)(hm:m<18446744073709551616)(he:e=(p:Int) - (q:Int))(hpq:p=0 \/ q=0)(hp:p<=2000)(hq:q<=2000):
  Calls Tryz.prog 135 #[.int .u64 (m:Int),.int .i64 e,.bool false] w fun r w'=>Below w.heap.size w w'/\∃ R,r=.returned (.pointer (some ⟨R,0,none⟩))/\w.heap.size<=R/\Rt w' R (m*2 ^ (1+p)) (1*2 ^ (1+q)) (1*2 ^ p) (1*2 ^ p) (m % 2 == 0):=by
 have HFM:=zz (fun w=>zAH w m hm);have HF1:=zz (fun w=>zAH w 1 (by decide));have hmx:max e 0=(p:Int):=by omega
 have hmy:max (-e) 0=(q:Int):=by omega
 have we:IntKind.i64.wrap (-e)=-e:=zY _ (by omega);clear he
 have hev:(bits .and .u64 (m:Int) 1 == 0)=(m % 2 == 0):=by
  have h1:=zDE m 1 hm (by decide);rw[Nat.and_one_is_mod] at h1;rw[show ((1:Nat):Int)=1 from rfl] at h1;rw[h1];rcases Nat.mod_two_eq_zero_or_one m with h2|h2 <;> rw[h2] <;> rfl
 obtain⟨ev,hevv⟩:∃ ev,ev=(m % 2 == 0):=⟨_,rfl⟩;rw[<-hevv] at hev;have HEV:=zz hevv;clear hevv;go_enter Tryz.func135,Tryz.ntmps135
 go_wp2_with fail
 refine (HFM.out w).mono ?_;rintro r w1 ⟨hb1,v1,rfl,hv1⟩;have HB1:=zz hb1;have HV1:=zz hv1;clear hb1 hv1;go_wp2_with fail
 refine (HF1.out w1).mono ?_;rintro r w2 ⟨hb2,v2,rfl,hv2⟩;have HB2:=zz (HB1.out.trans (hb2.mono HB1.out.size));have HV12:=zz (HV1.out.below hb2);have HV2:=zz hv2;clear hb2 hv2 HV1 HB1;go_wp2_with fail
 refine (HF1.out w2).mono ?_;rintro r w3 ⟨hb3,v3,rfl,hv3⟩;have HB3:=zz (HB2.out.trans (hb3.mono HB2.out.size));have HV13:=zz (HV12.out.below hb3);have HV23:=zz (HV2.out.below hb3);have HV3:=zz hv3;clear hb3 hv3 HV12 HV2 HB2;go_wp2_with fail
 refine (HF1.out w3).mono ?_;rintro r w4 ⟨hb4,v4,rfl,hv4⟩;have HB4:=zz (HB3.out.trans (hb4.mono HB3.out.size));obtain⟨a1,c1,rfl⟩:=HV13.out.slice;obtain⟨a2,c2,rfl⟩:=HV23.out.slice;obtain⟨a3,c3,rfl⟩:=HV3.out.slice;obtain⟨a4,c4,rfl⟩:=hv4.slice;obtain⟨lm,hlm⟩:∃ lm,lm=(zAb m).length:=⟨_,rfl⟩;obtain⟨l1,hl1⟩:∃ l1,l1=(zAb 1).length:=⟨_,rfl⟩;rw[<-hlm] at HV13 ⊢;rw[<-hl1] at HV23 HV3 hv4 ⊢
 have hrt:RtC (w4.alloc (.cells (zAx (.slice a1 lm c1) (.slice a2 l1 c2) (.slice a3 l1 c3) (.slice a4 l1 c4) ev) 277)) w4.heap.size (.slice a1 lm c1) (.slice a2 l1 c2) (.slice a3 l1 c3) (.slice a4 l1 c4) m 1 1 1 ev:=by
  have hbn:Below w4.heap.size w4 (w4.alloc (.cells (zAx (.slice a1 lm c1) (.slice a2 l1 c2) (.slice a3 l1 c3) (.slice a4 l1 c4) ev) 277)):=(zK _ _).alloc (zQ _) _;exact⟨Blk.new _ _ _,(HV13.out.below hb4).below hbn,(HV23.out.below hb4).below hbn,(HV3.out.below hb4).below hbn,hv4.below hbn⟩
 have hbn:Below w.heap.size w (w4.alloc (.cells (zAx (.slice a1 lm c1) (.slice a2 l1 c2) (.slice a3 l1 c3) (.slice a4 l1 c4) ev) 277)):=HB4.out.alloc HB4.out.size _;have HRT:=zz hrt;have HBN:=zz hbn;have HRB:Hid (w.heap.size<=w4.heap.size):=zz HB4.out.size;clear hb4 hv4 hlm hl1 HV13 HV23 HV3 HB3 HB4 hrt hbn
 have HSL:Hid (∀ w v,zAf w v (zAb 1)->Calls Tryz.prog 185 #[v,.int .i64 (p:Int)] w fun e w'=>Below w.heap.size w w'/\∃ v',e=.returned v'/\zAf w' v' (zAb (1*2 ^ p))):=zz (fun w v h=>by
  have:=zB5 w v _ p h (by rw[show zAb 1=[1] from Limb.zAu (by decide) (by decide)];decide) (by rw[zAe];have:=zCj (m:=1) (by decide);omega);rw[zAe] at this;exact this)
 have HSD:Hid (∀ w v,zAf w v (zAb 1)->Calls Tryz.prog 185 #[v,.int .i64 ((1+q:Nat):Int)] w fun e w'=>Below w.heap.size w w'/\∃ v',e=.returned v'/\zAf w' v' (zAb (1*2 ^ (1+q)))):=zz (fun w v h=>by
  have:=zB5 w v _ (1+q) h (by rw[show zAb 1=[1] from Limb.zAu (by decide) (by decide)];decide) (by rw[zAe];have:=zCj (m:=1) (by decide);omega);rw[zAe] at this;exact this)
 have HSN:Hid (∀ w v,zAf w v (zAb m)->Calls Tryz.prog 185 #[v,.int .i64 ((1+p:Nat):Int)] w fun e w'=>Below w.heap.size w w'/\∃ v',e=.returned v'/\zAf w' v' (zAb (m*2 ^ (1+p)))):=zz (fun w v h=>by
  have:=zB5 w v _ (1+p) h (by have:=zFe hm;omega) (by rw[zAe];have:=zCj hm;omega);rw[zAe] at this;exact this)
 have wp1:IntKind.i64.wrap (1+(p:Int))=((1+p:Nat):Int):=by rw[zY _ (by omega)];omega
 have wq1:IntKind.i64.wrap (1+(q:Int))=((1+q:Nat):Int):=by rw[zY _ (by omega)];omega
 clear hpq hp hq;go_upto_region 3 with fail
 change Code.wp _ _ _ _ (w4.alloc (.cells (zAx (.slice a1 lm c1) (.slice a2 l1 c2) (.slice a3 l1 c3) (.slice a4 l1 c4) ev) 277));generalize w4.alloc (.cells (zAx (.slice a1 lm c1) (.slice a2 l1 c2) (.slice a3 l1 c3) (.slice a4 l1 c4) ev) 277)=w5 at HRT HBN ⊢;generalize w4.heap.size=R at HRT HRB ⊢;have x0:=HRT.out.1.cell 0;simp only[zAx,zv,zk] at x0;go_wp2_with fail
 refine (HSN.out w5 _ HRT.out.2.1).mono ?_;rintro r w6 ⟨hb6,v6,rfl,hv6⟩;have HR6:=zz (RtC.below HRT.out hb6);have HB6:=zz (HBN.out.trans (hb6.mono HBN.out.size));obtain⟨a6,c6,hs6⟩:=hv6.slice;obtain⟨l6,hl6⟩:∃ l6,l6=(zAb (m*2 ^ (1+p))).length:=⟨_,rfl⟩;rw[<-hl6] at hs6;subst hs6;have HR7:=zz (RtC.setN HR6.out hv6);have HB7:=zz (HB6.out.setCell (p:=⟨R,0,none⟩) HRB.out (.slice a6 l6 c6));have x0:=HR6.out.1.cell 0;have f0:=HR6.out.1.free 0;simp only[zAx,zv,zk] at x0;clear hb6 hv6 hl6 HRT HBN HSN;go_upto_region 7 with fail
 clear x0 f0;generalize w6.setCell ⟨R,0,none⟩ (.slice a6 l6 c6)=w7 at HR7 HB7 ⊢;obtain⟨w0,hw0⟩:∃ w0,w0=w7.drew:=⟨_,rfl⟩;have HR0:=zz (RtC.below HR7.out (zAd (zK w7.heap.size w7) 1));have HB0:=zz (zAd HB7.out 1);have HW0:=zz hw0;clear HR6 HB6 HR7 HB7;change Hid (RtC w7.drew _ _ _ _ _ _ _ _ _ _) at HR0;change Hid (Below _ _ w7.drew) at HB0;rw[<-hw0] at HR0 HB0;clear hw0;refine wp_region_noPanic ?_;refine zDb (S:=SSt R (.slice a3 l1 c3) (.slice a4 l1 c4)) (by kernel_rfl) ?_;rw[<-HW0.out];have hH:SSt R (.slice a3 l1 c3) (.slice a4 l1 c4) (Array.replicate 22 false) w0:=⟨fun _=>HR0.out.1.cell 2,fun _=>HR0.out.1.cell 3⟩;refine zAp (d:=some 36) (hd:=by rfl) (i:=0) (oi:=_) (v:=.pointer (some ⟨R,0,none⟩)) rfl (by kernel_rfl) (by kernel_rfl) (by kernel_rfl) (fun _ _ _ h=>h) (SSt.anti 0 (by decide) (by decide)) (Or.inl ⟨by rfl,fun w' _=>?_⟩) hH (fun hH=>?_)
 ·clear hH;go_simp
 try simp only[Act.put,zy,zq,zj]
 refine zAp (d:=some 37) (hd:=by rfl) (i:=1) (oi:=_) (v:=.pointer (some ⟨R,0,none⟩)) rfl (by kernel_rfl) (by kernel_rfl) (by kernel_rfl) (fun _ _ _ h=>h) (SSt.anti 1 (by decide) (by decide)) (Or.inl ⟨by rfl,fun w' _=>?_⟩) hH (fun hH=>?_)
 ·clear hH;go_simp
 try simp only[Act.put,zy,zq,zj]
 refine zAp (d:=some 38) (hd:=by rfl) (i:=2) (oi:=_) (v:=.pointer (some ⟨R,0,none⟩)) rfl (by kernel_rfl) (by kernel_rfl) (by kernel_rfl) (fun _ _ _ h=>h) (SSt.anti 2 (by decide) (by decide)) (Or.inl ⟨by rfl,fun w' _=>?_⟩) hH (fun hH=>?_)
 ·clear hH;go_simp
 try simp only[Act.put,zy,zq,zj]
 refine zAp (d:=some 39) (hd:=by rfl) (i:=3) (oi:=_) (v:=.pointer (some ⟨R,0,none⟩)) rfl (by kernel_rfl) (by kernel_rfl) (by kernel_rfl) (fun _ _ _ h=>h) (SSt.anti 3 (by decide) (by decide)) (Or.inl ⟨by rfl,fun w' _=>?_⟩) hH (fun hH=>?_)
 ·clear hH;go_simp
 try simp only[Act.put,zy,zq,zj]
 refine zAp (d:=some 40) (hd:=by rfl) (i:=4) (oi:=_) (v:=.pointer (some ⟨R,2,none⟩)) rfl (by kernel_rfl) (by kernel_rfl) (by kernel_rfl) (fun _ _ _ h=>h) (SSt.anti 4 (by decide) (by decide)) (Or.inl ⟨by rfl,fun w' _=>?_⟩) hH (fun hH=>?_)
 ·clear hH;go_simp
 try simp only[Act.put,zy,zq,zj]
 refine zDT (T:=fun w'=>w'.cell? ⟨R,2,none⟩=some (.slice a3 l1 c3)) (d:=some 41) (hd:=by rfl) (i:=5) (k:=8) (oi:=_) (ok:=_) (v:=(.slice a3 l1 c3)) rfl rfl (by kernel_rfl) (by kernel_rfl) (by kernel_rfl) (by kernel_rfl) (by kernel_rfl) (fun _ _ _ h=>h) (SSt.anti 5 (by decide) (by decide)) (fun u w h hs=>hs.c2 h) (Or.inl ⟨by rfl,fun w' hT=>?_⟩) hH (fun hH=>?_)
 ·clear hH;have hT:w'.cell? ⟨R,2,none⟩=some (.slice a3 l1 c3):=hT;go_simp
 try simp only[Act.put,zy,zq,zj]
 refine zAp (d:=some 42) (hd:=by rfl) (i:=6) (oi:=_) (v:=.int .i64 e) rfl (by kernel_rfl) (by kernel_rfl) (by kernel_rfl) (fun _ _ _ h=>h) (SSt.anti 6 (by decide) (by decide)) (Or.inl ⟨by rfl,fun w' _=>?_⟩) hH (fun hH=>?_)
 ·clear hH;go_simp
 try simp only[Act.put,zy,zq,zj]
 refine zAp (d:=some 43) (hd:=by rfl) (i:=7) (oi:=_) (v:=.int .i64 (p:Int)) rfl (by kernel_rfl) (by kernel_rfl) (by kernel_rfl) (fun _ _ _ h=>h) (SSt.anti 7 (by decide) (by decide)) (Or.inl ⟨by rfl,fun w' _=>?_⟩) hH (fun hH=>?_)
 ·clear hH;go_simp
 try simp only[Act.put,zy,zq,zj]
 refine zAp (d:=some 45) (hd:=by rfl) (i:=9) (oi:=_) (v:=.pointer (some ⟨R,0,none⟩)) rfl (by kernel_rfl) (by kernel_rfl) (by kernel_rfl) (fun _ _ _ h=>h) (SSt.anti 9 (by decide) (by decide)) (Or.inl ⟨by rfl,fun w' _=>?_⟩) hH (fun hH=>?_)
 ·clear hH;go_simp
 try simp only[Act.put,zy,zq,zj]
 refine zAp (d:=some 46) (hd:=by rfl) (i:=10) (oi:=_) (v:=.pointer (some ⟨R,0,none⟩)) rfl (by kernel_rfl) (by kernel_rfl) (by kernel_rfl) (fun _ _ _ h=>h) (SSt.anti 10 (by decide) (by decide)) (Or.inl ⟨by rfl,fun w' _=>?_⟩) hH (fun hH=>?_)
 ·clear hH;go_simp
 try simp only[Act.put,zy,zq,zj]
 refine zAp (d:=some 47) (hd:=by rfl) (i:=11) (oi:=_) (v:=.pointer (some ⟨R,3,none⟩)) rfl (by kernel_rfl) (by kernel_rfl) (by kernel_rfl) (fun _ _ _ h=>h) (SSt.anti 11 (by decide) (by decide)) (Or.inl ⟨by rfl,fun w' _=>?_⟩) hH (fun hH=>?_)
 ·clear hH;go_simp
 try simp only[Act.put,zy,zq,zj]
 refine zDT (T:=fun w'=>w'.cell? ⟨R,3,none⟩=some (.slice a4 l1 c4)) (d:=some 48) (hd:=by rfl) (i:=12) (k:=15) (oi:=_) (ok:=_) (v:=(.slice a4 l1 c4)) rfl rfl (by kernel_rfl) (by kernel_rfl) (by kernel_rfl) (by kernel_rfl) (by kernel_rfl) (fun _ _ _ h=>h) (SSt.anti 12 (by decide) (by decide)) (fun u w h hs=>hs.c3 h) (Or.inl ⟨by rfl,fun w' hT=>?_⟩) hH (fun hH=>?_)
 ·clear hH;have hT:w'.cell? ⟨R,3,none⟩=some (.slice a4 l1 c4):=hT;go_simp
 try simp only[Act.put,zy,zq,zj]
 refine zAp (d:=some 49) (hd:=by rfl) (i:=13) (oi:=_) (v:=.int .i64 e) rfl (by kernel_rfl) (by kernel_rfl) (by kernel_rfl) (fun _ _ _ h=>h) (SSt.anti 13 (by decide) (by decide)) (Or.inl ⟨by rfl,fun w' _=>?_⟩) hH (fun hH=>?_)
 ·clear hH;go_simp
 try simp only[Act.put,zy,zq,zj]
 refine zAp (d:=some 50) (hd:=by rfl) (i:=14) (oi:=_) (v:=.int .i64 (p:Int)) rfl (by kernel_rfl) (by kernel_rfl) (by kernel_rfl) (fun _ _ _ h=>h) (SSt.anti 14 (by decide) (by decide)) (Or.inl ⟨by rfl,fun w' _=>?_⟩) hH (fun hH=>?_)
 ·clear hH;go_simp
 try simp only[Act.put,zy,zq,zj]
 refine zBr (i:=8) (o:=_) (by kernel_rfl) rfl (fun K hK=>?_);go_simp;refine (HSL.out w0 _ HR0.out.2.2.2.1).mono ?_;rintro r w1 ⟨hb1,v1,rfl,hv1⟩;obtain⟨sb1,sc1,hs1⟩:=hv1.slice;obtain⟨ln1,hl1⟩:∃ ln,ln=(zAb (1*2 ^ p)).length:=⟨_,rfl⟩;rw[<-hl1] at hs1;subst hs1;have HR1:=zz (RtC.below HR0.out hb1);have HB1:=zz (HB0.out.trans (hb1.mono HB0.out.size));have HL11:=zz hv1;clear hb1 hv1 hl1;go_wp2_with fail
 refine hK.out _ _ ⟨fun _=>HR1.out.1.cell 2,fun _=>HR1.out.1.cell 3⟩ (fun hH=>?_);clear hK K
 try simp only[Act.put,zy,zq,zj]
 refine zBr (i:=15) (o:=_) (by kernel_rfl) rfl (fun K hK=>?_);go_simp;refine (HSL.out w1 _ HR1.out.2.2.2.2).mono ?_;rintro r w2 ⟨hb2,v2,rfl,hv2⟩;obtain⟨sb2,sc2,hs2⟩:=hv2.slice;obtain⟨ln2,hl2⟩:∃ ln,ln=(zAb (1*2 ^ p)).length:=⟨_,rfl⟩;rw[<-hl2] at hs2;subst hs2;have HR2:=zz (RtC.below HR1.out hb2);have HB2:=zz (HB1.out.trans (hb2.mono HB1.out.size));have HL21:=zz (HL11.out.below hb2);have HL22:=zz hv2;clear hb2 hv2 hl2;go_wp2_with fail
 refine hK.out _ _ ⟨fun _=>HR2.out.1.cell 2,fun _=>HR2.out.1.cell 3⟩ (fun hH=>?_);clear hK K
 try simp only[Act.put,zy,zq,zj]
 have HXa:=zz HR2.out.1;have HEa:=HB2;refine zAp (d:=some 52) (hd:=by rfl) (i:=16) (oi:=_) (v:=.pointer (some ⟨R,0,none⟩)) rfl (by kernel_rfl) (by kernel_rfl) (by kernel_rfl) (fun _ _ _ h=>h) (SSt.anti 16 (by decide) (by decide)) (Or.inl ⟨by rfl,fun w' _=>?_⟩) hH (fun hH=>?_)
 ·clear hH;go_simp
 try simp only[Act.put,zy,zq,zj]
 refine zAp (d:=some 53) (hd:=by rfl) (i:=17) (oi:=_) (v:=.pointer (some ⟨R,2,none⟩)) rfl (by kernel_rfl) (by kernel_rfl) (by kernel_rfl) (fun _ _ _ h=>h) (SSt.anti 17 (by decide) (by decide)) (Or.inl ⟨by rfl,fun w' _=>?_⟩) hH (fun hH=>?_)
 ·clear hH;go_simp
 try simp only[Act.put,zy,zq,zj]
 refine zBr (i:=18) (o:=_) (by kernel_rfl) rfl (fun K hK=>?_);have e2:=HXa.out.cell 2;have f2:=HXa.out.free 2;simp only[zAx,zv,zk,zx] at e2;go_simp;go_wp2_with fail
 clear e2 f2;refine hK.out _ _ ⟨fun h=>absurd h (by decide),fun h=>absurd h (by decide)⟩ (fun hH=>?_);clear hK K
 try simp only[Act.put,zy,zq,zj]
 have HXb:=zz (HXa.out.set 2 (.slice sb1 ln1 sc1));have HEb:=zz (HEa.out.setCell (p:=⟨R,2,none⟩) HRB.out (.slice sb1 ln1 sc1));refine zAp (d:=some 54) (hd:=by rfl) (i:=19) (oi:=_) (v:=.pointer (some ⟨R,0,none⟩)) rfl (by kernel_rfl) (by kernel_rfl) (by kernel_rfl) (fun _ _ _ h=>h) (SSt.anti 19 (by decide) (by decide)) (Or.inl ⟨by rfl,fun w' _=>?_⟩) hH (fun hH=>?_)
 ·clear hH;go_simp
 try simp only[Act.put,zy,zq,zj]
 refine zAp (d:=some 55) (hd:=by rfl) (i:=20) (oi:=_) (v:=.pointer (some ⟨R,3,none⟩)) rfl (by kernel_rfl) (by kernel_rfl) (by kernel_rfl) (fun _ _ _ h=>h) (SSt.anti 20 (by decide) (by decide)) (Or.inl ⟨by rfl,fun w' _=>?_⟩) hH (fun hH=>?_)
 ·clear hH;go_simp
 try simp only[Act.put,zy,zq,zj]
 refine zBr (i:=21) (o:=_) (by kernel_rfl) rfl (fun K hK=>?_);have e3:=HXb.out.cell 3;have f3:=HXb.out.free 3;simp only[zAx,zv,zk,zx] at e3;go_simp;go_wp2_with fail
 clear e3 f3;refine hK.out _ _ ⟨fun h=>absurd h (by decide),fun h=>absurd h (by decide)⟩ (fun hH=>?_);clear hK K
 try simp only[Act.put,zy,zq,zj]
 have HXc:=zz (HXb.out.set 3 (.slice sb2 ln2 sc2));have HEc:=zz (HEb.out.setCell (p:=⟨R,3,none⟩) HRB.out (.slice sb2 ln2 sc2));refine zED (by kernel_rfl) ?_ _;refine NoPanic.normal ?_;have HRa:=zz (RtC.setH (RtC.setL HR2.out HL21.out) (HL22.out.ex HR2.out.1 (RtC.noint HR2.out) ((Ex.refl (fun k=>k=R) _ _).setCell R 2 (Or.inl rfl) (.slice sb1 ln1 sc1))));clear hH;generalize (w2.setCell ⟨R,2,none⟩ (.slice sb1 ln1 sc1)).setCell ⟨R,3,none⟩ (.slice sb2 ln2 sc2)=w8 at HRa HEc ⊢;have x1:=HRa.out.1.cell 1;simp only[zAx,zv,zk,zx] at x1;go_wp2_with fail
 refine (HSD.out w8 _ HRa.out.2.2.1).mono ?_;rintro r w9 ⟨hb9,v9,rfl,hv9⟩;obtain⟨a9,c9,hs9⟩:=hv9.slice;obtain⟨l9,hl9⟩:∃ l9,l9=(zAb (1*2 ^ (1+q))).length:=⟨_,rfl⟩;rw[<-hl9] at hs9;subst hs9;have HR9:=zz (RtC.below HRa.out hb9);have HRz:=zz (RtC.setD HR9.out hv9);have HB9:=zz (HEc.out.trans (hb9.mono HEc.out.size));have HBz:=zz (HB9.out.setCell (p:=⟨R,1,none⟩) HRB.out (.slice a9 l9 c9));have x1:=HR9.out.1.cell 1;have f1:=HR9.out.1.free 1;simp only[zAx,zv,zk,zx] at x1;clear hb9 hv9 hl9 HRa HEc HSD;go_wp2;go_ret;exact⟨HBz.out,R,rfl,HRB.out,⟨_,_,_,_,by rw[<-HEV.out];exact HRz.out⟩⟩
theorem zCh(w:World):Calls Tryz.prog 184 #[] w fun e w'=>e=.returned (.tuple #[.int .i64 52,.int .i64 (-1074)])/\w'=w:=by
 have e1:(bits BinOp.xor IntKind.u64 IntKind.u64.max 0 == 65535)=false:=by decide
 have e2:(bits BinOp.xor IntKind.u64 IntKind.u64.max 0 == 4294967295)=false:=by decide
 have e3:(bits BinOp.xor IntKind.u64 (if IntKind.u64.signed=true then -1 else IntKind.u64.max) 0 == 65535)=false:=by decide
 have e4:(bits BinOp.xor IntKind.u64 (if IntKind.u64.signed=true then -1 else IntKind.u64.max) 0 == 4294967295)=false:=by decide
 go_enter Tryz.func184,Tryz.ntmps184
 go_wp2;go_ret2
 exact⟨rfl,rfl⟩
theorem zLy(w:World):Calls Tryz.prog 134 #[.int .u64 zBz] w fun e w'=>e=.returned (.tuple #[.int .u64 6755399441055744,.int .i64 (-52),.bool false])/\w'=w:=by
 unfold zBz;have e1:bits .and .u64 4609434218613702656 4503599627370495=2251799813685248:=by decide
 have e2:bits .or .u64 2251799813685248 4503599627370496=6755399441055744:=by decide
 go_enter Tryz.func134,Tryz.ntmps134
 go_wp2_with fail
 refine (zCh w).mono ?_;rintro e w1 ⟨rfl,rfl⟩;go_wp2;exact bodyPost_ret (v:=.tuple #[.int .u64 6755399441055744,.int .i64 (-52),.bool false]) (by simp[results,Tryz.results134,go_sem]) rfl ⟨rfl,rfl⟩
theorem zAj{x:Nat}(h:x<18446744073709551616)(k:Nat)(hk:2<=k):(zAb x).length<=k:=zJ (zFe h) hk
theorem Rt.eq{w:World}{R n d l h n' d' l' h':Nat}{ev:Bool}(hr:Rt w R n d l h ev)(h1:n=n')(h2:d=d')(h3:l=l')(h4:h=h'):Rt w R n' d' l' h' ev:=by subst h1;subst h2;subst h3;subst h4;exact hr
theorem Rt.lt{w:World}{R n d l h:Nat}{ev:Bool}(hr:Rt w R n d l h ev):R<w.heap.size:=by obtain⟨_,_,_,_,h⟩:=hr;exact h.1.lt
theorem zJW(w:World)(hG:GW w)(R:Nat)(hR:Rt w R 13510798882111488 9007199254740992 1 1 true):
  Calls Tryz.prog 136 #[.pointer (some ⟨R,0,none⟩),.int .i64 1] w fun e w'=>e=.returned (.int .i64 1)/\Rt w' R 13510798882111488 90071992547409920 1 1 true/\Ex (fun k=>k=R) w.heap.size w w':=by
 have HT0:=zz (zP2 w hG);have HR:=zz hR;have HG:=zz hG;clear hR hG;go_enter Tryz.func136,Tryz.ntmps136
 go_wp2_with fail
 refine HT0.out.mono ?_;rintro e w1 ⟨hb1,v1,rfl,hv1⟩;have HBY:=zz (zGm w1 R v1 _ _ _ _ 1 true (HR.out.below hb1) hv1 (zAj (by decide) _ (by decide)) (zAj (by decide) _ (by decide)) (zAj (by decide) _ (by decide)) (zAj (by decide) _ (by decide)));have HE1:=zz (Ex.of_below (S:=fun k=>k=R) hb1);clear hb1 hv1 HT0;go_wp2_with fail
 refine HBY.out.mono ?_;rintro e w2 ⟨rfl,hR2,hE2⟩;have HR2:=zz (hR2.eq (n':=13510798882111488) (d':=9007199254740992) (l':=1) (h':=1) rfl rfl rfl rfl);have HE2:=zz (HE1.out.trans (hE2.mono HE1.out.size (fun k hk=>hk)));clear hR2 hE2 HBY HE1;go_wp2_with fail
 refine (zAH w2 10 (by decide)).mono ?_;rintro e w3 ⟨hb3,v3,rfl,hv3⟩;have HR3:=zz (HR2.out.below hb3);have HE3:=zz (HE2.out.trans ((Ex.of_below (S:=fun k=>k=R) hb3).mono HE2.out.size (fun k hk=>hk)));have HV3:=zz hv3;clear hb3 hv3 HR2 HE2;go_wp2;refine wp_loop_rounds 2 ?_;rw[rounds_succ];have HOV:=zz (zB3 w3 R _ _ _ _ _ HR3.out (zAj (by decide) _ (by decide)) (zAj (by decide) _ (by decide)) (zAj (by decide) _ (by decide)));rw[show zD0 13510798882111488 9007199254740992 1 true=true by decide] at HOV;go_wp2_with fail
 refine HOV.out.mono ?_;rintro e w4 ⟨rfl,hb4⟩;have HR4:=zz (HR3.out.below hb4);have HE4:=zz (HE3.out.trans ((Ex.of_below (S:=fun k=>k=R) hb4).mono HE3.out.size (fun k hk=>hk)));have HV4:=zz (HV3.out.below hb4);clear hb4 HR3 HE3 HV3 HOV;obtain⟨vn,vd,vl,vh,hr4⟩:=HR4.out;obtain⟨d1,d2,rfl⟩:=hr4.2.2.1.slice;have x1:=hr4.1.cell 1;simp only[zAx,zv,zk,zx] at x1;have hml:=zCp w4 _ v3 _ _ hr4.2.2.1 HV4.out (zAj (by decide) _ (by decide)) (zAj (by decide) _ (by decide));rw[zAe,zAe,show 9007199254740992*10=90071992547409920 from rfl] at hml;have HML:=zz hml;have HRC4:=zz hr4;generalize (zAb 9007199254740992).length=ln at x1 HML HRC4;clear hr4 hml HR4;go_wp2_with fail
 refine HML.out.mono ?_;rintro e w5 ⟨hb5,v5,rfl,hv5⟩;obtain⟨a5,c5,hs5⟩:=hv5.slice;obtain⟨l5,hl5⟩:∃ l5,l5=(zAb 90071992547409920).length:=⟨_,rfl⟩;rw[<-hl5] at hs5;subst hs5;have HR5:=zz (RtC.below HRC4.out hb5);have HE5:=zz (HE4.out.trans ((Ex.of_below (S:=fun k=>k=R) hb5).mono HE4.out.size (fun k hk=>hk)));have HV5:=zz (HV4.out.below hb5);have HR6:=zz (RtC.setD HR5.out hv5);have HE6:=zz (HE5.out.setCell R 1 (Or.inl rfl) (.slice a5 l5 c5));have HV6:=zz (HV5.out.ex HR5.out.1 (RtC.noint HR5.out) ((Ex.refl (fun k=>k=R) _ _).setCell R 1 (Or.inl rfl) (.slice a5 l5 c5)));have x1:=HR5.out.1.cell 1;have f1:=HR5.out.1.free 1;simp only[zAx,zv,zk,zx] at x1;clear hb5 hv5 hl5 HML HRC4 HE4 HV4 HE5 HV5;go_wp2;clear x1 f1;generalize w5.setCell ⟨R,1,none⟩ (.slice a5 l5 c5)=w6 at HR6 HE6 HV6 ⊢;clear HR5;have HRt6:Hid (Rt w6 R 13510798882111488 90071992547409920 1 1 true):=zz ⟨_,_,_,_,HR6.out⟩;rw[rounds_succ];have HOV:=zz (zB3 w6 R _ _ _ _ _ HRt6.out (zAj (by decide) _ (by decide)) (zAj (by decide) _ (by decide)) (zAj (by decide) _ (by decide)));rw[show zD0 13510798882111488 90071992547409920 1 true=false by decide] at HOV;go_wp2_with fail
 refine HOV.out.mono ?_;rintro e w7 ⟨rfl,hb7⟩;have HR7:=zz (HRt6.out.below hb7);have HE7:=zz (HE6.out.trans ((Ex.of_below (S:=fun k=>k=R) hb7).mono HE6.out.size (fun k hk=>hk)));have HV7:=zz (HV6.out.below hb7);clear hb7 HR6 HRt6 HE6 HV6 HOV;go_wp2;refine wp_loop_rounds 1 ?_;rw[rounds_succ];obtain⟨vn,vd,vl,vh,hr7⟩:=HR7.out;have HR7C:=zz hr7;obtain⟨n1,n2,rfl⟩:=hr7.2.1.slice;obtain⟨e1,e2,rfl⟩:=hr7.2.2.1.slice;obtain⟨g1,g2,rfl⟩:=hr7.2.2.2.1.slice;obtain⟨i1,i2,rfl⟩:=hr7.2.2.2.2.slice;have x0:=hr7.1.cell 0;have x1:=hr7.1.cell 1;have x2:=hr7.1.cell 2;have x3:=hr7.1.cell 3;have x4:=hr7.1.cell 4;simp only[zAx,zv,zk,zx] at x0 x1 x2 x3 x4;clear hr7;generalize (zAb 13510798882111488).length=q1 at x0 HR7C;generalize (zAb 90071992547409920).length=q2 at x1 HR7C;generalize (zAb 1).length=q3 at x2 x3 HR7C;have hlt7:=HR7C.out.1.lt;obtain⟨w8,hw8⟩:∃ w8,w8=w7.alloc (.cells (zAx (.slice n1 q1 n2) (.slice e1 q2 e2) (.slice g1 q3 g2) (.slice i1 q3 i2) true) 277):=⟨_,rfl⟩;have hb8:Below w7.heap.size w7 w8:=by rw[hw8];exact (zK _ _).alloc (zQ _) _
 have hr8:RtC w8 w7.heap.size (.slice n1 q1 n2) (.slice e1 q2 e2) (.slice g1 q3 g2) (.slice i1 q3 i2) 13510798882111488 90071992547409920 1 1 true:=
  ⟨by rw[hw8];exact Blk.new _ _ _,HR7C.out.2.1.below hb8,HR7C.out.2.2.1.below hb8,HR7C.out.2.2.2.1.below hb8,HR7C.out.2.2.2.2.below hb8⟩
 have HBY2:=zz (zGm w8 w7.heap.size v3 _ _ _ _ 10 true ⟨_,_,_,_,hr8⟩ (HV7.out.below hb8) (zAj (by decide) _ (by decide)) (zAj (by decide) _ (by decide)) (zAj (by decide) _ (by decide)) (zAj (by decide) _ (by decide)));have HW8:=zz hw8;have HB8:=zz hb8;clear hw8 hb8 hr8;go_wp2_with fail
 change Calls _ _ _ (w7.alloc (.cells (zAx (.slice n1 q1 n2) (.slice e1 q2 e2) (.slice g1 q3 g2) (.slice i1 q3 i2) true) 277)) _;rw[<-HW8.out];refine HBY2.out.mono ?_;rintro e w9 ⟨rfl,hR9,hE9⟩;have HR9:=zz (hR9.eq (n':=135107988821114880) (d':=90071992547409920) (l':=10) (h':=10) rfl rfl rfl rfl);have HB9:=zz (HB8.out.trans (hE9.below (B':=w7.heap.size) HB8.out.size (fun k hk=>by omega)));clear x0 x1 x2 x3 x4 hR9 hE9 HBY2;have HOV:=zz (zB3 w9 w7.heap.size _ _ _ _ _ HR9.out (zAj (by decide) _ (by decide)) (zAj (by decide) _ (by decide)) (zAj (by decide) _ (by decide)));rw[show zD0 135107988821114880 90071992547409920 10 true=true by decide] at HOV;go_wp2_with fail
 refine HOV.out.mono ?_;rintro e wa ⟨rfl,hba⟩;have HBa:=zz (HB9.out.trans (hba.mono HB9.out.size));clear hba HOV;have HRz:=zz (HR7.out.below HBa.out);have HEz:=zz (HE7.out.trans ((Ex.of_below (S:=fun k=>k=R) HBa.out).mono HE7.out.size (fun k hk=>hk)));go_wp2;go_ret;exact⟨rfl,HRz.out,HEz.out⟩
theorem zL6(w:World)(hG:GW w)(n:Nat)(hn:n<=400):
  Calls Tryz.prog 187 #[.int .i64 (n:Int)] w fun e w'=>Below w.heap.size w w'/\∃ v',e=.returned v'/\zAf w' v' (zAb (10 ^ n)):=by
 have HS:=zz (zN9 w hG n hn);clear hG;go_enter Tryz.func187,Tryz.ntmps187
 go_wp2_with fail
 refine HS.out.mono ?_;rintro e w2 ⟨hb2,v2,rfl,h2⟩;have HB2:=zz hb2;have H2:=zz h2;clear hb2 h2;go_wp2;go_ret;exact⟨HB2.out,_,rfl,H2.out⟩
end Go.Proofs.YtcanfakaigpkgaaGreatDoor.D
