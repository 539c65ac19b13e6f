/-
  Of the proof that the law DiagUnlike answers true at every two values: a part, without conditions of its own.
-/
import Derived.Test.YtcanfakaigpkgaaGreatDoorPart22
import Derived.Test.YtcanfakaigpkgaaGreatDoorPart07
set_option linter.unusedVariables false
set_option linter.unusedSimpArgs false
set_option maxRecDepth 100000
set_option maxHeartbeats 8000000
namespace Go.Proofs.YtcanfakaigpkgaaGreatDoor.D
open Go Go.RowKit Limb
theorem Own.ex{B R:Nat}{w w':World}{v:Value}{L:List UInt8}(h:Own B w v L)(he:Ex (fun k=>k=R) w.heap.size w w')(hR:R<B):Own B w' v L:=by
 obtain⟨hl,h0|⟨g,cap,cur,hv,hBg,hg,r⟩⟩:=h
 ·exact⟨hl,.inl h0⟩
 ·exact⟨hl,.inr ⟨g,cap,cur,hv,hBg,by rw[he.block g (Array.getElem?_eq_some_iff.1 hg).1 (by omega)];exact hg,r⟩⟩
theorem zKk(w:World)(R:Nat)(hR:Rt w R 13510798882111488 90071992547409920 1 1 true):
  Calls Tryz.prog 138 #[.pointer (some ⟨R,0,none⟩)] w fun e w'=>Ex (fun k=>k=R) w.heap.size w w'/\∃ g cap,e=.returned (.slice (some ⟨g,0,none⟩) 2 cap)/\w.heap.size<=g/\Own w.heap.size w' (.slice (some ⟨g,0,none⟩) 2 cap) [1,5]:=by
 have HR1:=zz hR;have HLT:=zz hR.lt;have HE1:Hid (Ex (fun k=>k=R) w.heap.size w w):=zz (Ex.refl _ _ _);have HO1:Hid (Own w.heap.size w (.slice none 0 0) []):=zz ⟨rfl,.inl ⟨rfl,rfl⟩⟩;obtain⟨i0,hi,hz0,hz1,hz2⟩:=zDg;have HI:=zz hi;clear hR hi;go_enter Tryz.func138,Tryz.ntmps138
 go_wp2;go_step3
 go_wp2;go_step3
 go_wp2;refine wp_loop_rounds 3 ?_;rw[rounds_succ];have HDG1:=zz (zEl w R 13510798882111488 90071992547409920 1 1 true HR1.out (by decide) (zAj (by decide) _ (by decide)) (zAj (by decide) _ (by decide)) (zAj (by decide) _ (by decide)) (zAj (by decide) _ (by decide)));rw[show 13510798882111488*10 / 90071992547409920=1 from by decide,show 13510798882111488*10 % 90071992547409920=45035996273704960 from by decide] at HDG1;have HDG1:Hid (Calls Tryz.prog 190 #[.pointer (some ⟨R,0,none⟩)] w fun e w'=>e=.returned (.int .u8 1)/\Rt w' R 45035996273704960 90071992547409920 (1*10) (1*10) true/\Ex (fun k=>k=R) w.heap.size w w'):=HDG1;go_wp2_with fail
 refine HDG1.out.mono ?_;rintro e u1 ⟨rfl,hR,hE⟩;have HRa1:=zz (hR.eq (n':=45035996273704960) (d':=90071992547409920) (l':=10) (h':=10) rfl rfl rfl rfl);have HEa1:=zz (HE1.out.trans (hE.mono HE1.out.size (fun k hk=>hk)));have HOa1:=zz (HO1.out.ex hE HLT.out);clear hR hE HDG1;obtain⟨vn,vd,vl,vh,hr⟩:=HRa1.out
 have HT1:Hid (∀ w' w'',(w'.cell? ⟨R,0,none⟩=some vn/\w'.cell? ⟨R,2,none⟩=some vl/\RtC w' R vn vd vl vh 45035996273704960 90071992547409920 10 10 true/\Below u1.heap.size u1 w')->Hid (Below w'.heap.size w' w'')->(w''.cell? ⟨R,0,none⟩=some vn/\w''.cell? ⟨R,2,none⟩=some vl/\RtC w'' R vn vd vl vh 45035996273704960 90071992547409920 10 10 true/\Below u1.heap.size u1 w'')):=zz (fun w' w'' h hk=>by
  obtain⟨_,_,h1,h2⟩:=h;have h3:=h1.below hk.out;exact⟨h3.1.cell 0,h3.1.cell 2,h3,h2.trans (hk.out.mono h2.size)⟩)
 have HS1:Hid ((u1.drew).cell? ⟨R,0,none⟩=some vn/\(u1.drew).cell? ⟨R,2,none⟩=some vl/\RtC (u1.drew) R vn vd vl vh 45035996273704960 90071992547409920 10 10 true/\Below u1.heap.size u1 u1.drew):=zz (by
  have h3:=hr.below (zAd (zK u1.heap.size u1) 1);exact⟨h3.1.cell 0,h3.1.cell 2,h3,(zAd (zK u1.heap.size u1) 1)⟩)
 have HCM1:Hid (∀ w',(w'.cell? ⟨R,0,none⟩=some vn/\w'.cell? ⟨R,2,none⟩=some vl/\RtC w' R vn vd vl vh 45035996273704960 90071992547409920 10 10 true/\Below u1.heap.size u1 w')->Calls Tryz.prog 52 #[vn,vl] w' fun e w''=>e=.returned (.int .i64 (1))/\Below w'.heap.size w' w''):=zz (fun w' hs=>by
  have:=zC7 w' vn vl _ _ hs.2.2.1.2.1 hs.2.2.1.2.2.2.1 (zAj (by decide) _ (by decide)) (zAj (by decide) _ (by decide));rw[zAe,zAe,show zBo 45035996273704960 10=1 from by decide] at this;exact this)
 have HX1:Hid (∀ w',(w'.cell? ⟨R,0,none⟩=some vn/\w'.cell? ⟨R,2,none⟩=some vl/\RtC w' R vn vd vl vh 45035996273704960 90071992547409920 10 10 true/\Below u1.heap.size u1 w')->RtC w' R vn vd vl vh 45035996273704960 90071992547409920 10 10 true/\Below u1.heap.size u1 w'):=zz (fun w' h=>⟨h.2.2.1,h.2.2.2⟩);clear hr;go_upto_region 3 with fail
 go_region_held3 (fun w'=>(w'.cell? ⟨R,0,none⟩=some vn/\w'.cell? ⟨R,2,none⟩=some vl/\RtC w' R vn vd vl vh 45035996273704960 90071992547409920 10 10 true/\Below u1.heap.size u1 w'))
  (first
   | exact HS1.out
   | assumption
   | (refine HT1.out _ _ ?_ hb9;assumption))
  ((go_at_call 52;refine (HCM1.out _ (by first|exact HS1.out|assumption)).mono ?_;rintro e w9 ⟨rfl,hb9⟩;replace hb9:=zz hb9))
 have hx:=HX1.out w9 (by assumption);have HRC1:=zz hx.1;have HRb1:Hid (Rt w9 R 45035996273704960 90071992547409920 10 10 true):=zz ⟨_,_,_,_,hx.1⟩;have HEb1:=zz (HEa1.out.trans ((Ex.of_below (S:=fun k=>k=R) hx.2).mono HEa1.out.size (fun k hk=>hk)));have HOb1:=zz (HOa1.out.below hx.2);have x4:=hx.1.1.cell 4;simp only[zAx,zv,zk,zx] at x4;clear hx hb9 HX1 HT1 HS1 HCM1 HRa1 HEa1 HOa1;have HOV1:=zz (zB3 w9 R _ _ _ _ _ HRb1.out (zAj (by decide) _ (by decide)) (zAj (by decide) _ (by decide)) (zAj (by decide) _ (by decide)));rw[show zD0 45035996273704960 90071992547409920 10 true=false by decide] at HOV1;go_wp2_with fail
 refine HOV1.out.mono ?_;rintro e y1 ⟨rfl,hb⟩;have HRc1:=zz (HRb1.out.below hb);have HEc1:=zz (HEb1.out.trans ((Ex.of_below (S:=fun k=>k=R) hb).mono HEb1.out.size (fun k hk=>hk)));have HOc1:=zz (HOb1.out.below hb);clear hb x4 HRb1 HEb1 HOb1 HOV1 HRC1;have hO:=HOc1.out;have hlt:=World.ownsRow.lt hO;have hcc:Lib.byteCells (([]:List UInt8) ++ [1])=Lib.byteCells ([]:List UInt8) ++ [.int .u8 1]:=rfl;go_wp2_with (at_builtin;refine wpList_append_own _ rfl _ _ 47 rfl w.heap.size 5 i0 (.int .u8 0) 1 1 Tryz.underlying47 HI.out hz0 hz1 hz2 rfl (by decide) _ _ _ rfl (World.ownsRow.alloc hO _) ⟨y1.heap.size,0,none⟩ 1 1 [.int .u8 1] rfl rfl ?c1 ?c2 ?c3 ?c4 ?c5 ?_)
 case c1=>
  intro j u hj
  match j,hj with
  | 0,hj=>simp at hj;subst hj;simp[Addr.add]
 case c2=>intro u hu;simp at hu;subst hu;rfl
 case c3=>unfold maxLen;simp
 case c4=>simp
 case c5=>have:=HEc1.out.size;simp;omega
 intro v' z1 hown' hgrow _;have HEz1:=zz (HEc1.out.trans (Ex.of_below (S:=fun k=>k=R) (((zK w.heap.size y1).alloc HEc1.out.size _).grown hgrow (by have:=HEc1.out.size;simp;omega) (fun k hk=>(hlt k hk).1))));have HO2:Hid (Own w.heap.size z1 v' (([]:List UInt8) ++ [1])):=zz (by unfold Own;rw[hcc];exact hown');have HR2:=zz (HRc1.out.below (((zK y1.heap.size y1).alloc (zQ _) _).trans ⟨hgrow.os,hgrow.tape,hgrow.output,hgrow.size,fun k hk=>hgrow.block k (by simp;omega) (fun e=>by simp[Value.ownBlock] at e)⟩));have HE2:=HEz1;clear hown' hgrow hO hlt HRc1 HEc1 HOc1 hcc;go_wp2;rw[rounds_succ];have HDG2:=zz (zEl z1 R 45035996273704960 90071992547409920 10 10 true HR2.out (by decide) (zAj (by decide) _ (by decide)) (zAj (by decide) _ (by decide)) (zAj (by decide) _ (by decide)) (zAj (by decide) _ (by decide)));rw[show 45035996273704960*10 / 90071992547409920=5 from by decide,show 45035996273704960*10 % 90071992547409920=0 from by decide] at HDG2;have HDG2:Hid (Calls Tryz.prog 190 #[.pointer (some ⟨R,0,none⟩)] z1 fun e w'=>e=.returned (.int .u8 5)/\Rt w' R 0 90071992547409920 (10*10) (10*10) true/\Ex (fun k=>k=R) z1.heap.size z1 w'):=HDG2;go_wp2_with fail
 refine HDG2.out.mono ?_;rintro e u2 ⟨rfl,hR,hE⟩;have HRa2:=zz (hR.eq (n':=0) (d':=90071992547409920) (l':=100) (h':=100) rfl rfl rfl rfl);have HEa2:=zz (HE2.out.trans (hE.mono HE2.out.size (fun k hk=>hk)));have HOa2:=zz (HO2.out.ex hE HLT.out);clear hR hE HDG2;obtain⟨vn,vd,vl,vh,hr⟩:=HRa2.out
 have HT2:Hid (∀ w' w'',(w'.cell? ⟨R,0,none⟩=some vn/\w'.cell? ⟨R,2,none⟩=some vl/\RtC w' R vn vd vl vh 0 90071992547409920 100 100 true/\Below u2.heap.size u2 w')->Hid (Below w'.heap.size w' w'')->(w''.cell? ⟨R,0,none⟩=some vn/\w''.cell? ⟨R,2,none⟩=some vl/\RtC w'' R vn vd vl vh 0 90071992547409920 100 100 true/\Below u2.heap.size u2 w'')):=zz (fun w' w'' h hk=>by
  obtain⟨_,_,h1,h2⟩:=h;have h3:=h1.below hk.out;exact⟨h3.1.cell 0,h3.1.cell 2,h3,h2.trans (hk.out.mono h2.size)⟩)
 have HS2:Hid ((u2.drew).cell? ⟨R,0,none⟩=some vn/\(u2.drew).cell? ⟨R,2,none⟩=some vl/\RtC (u2.drew) R vn vd vl vh 0 90071992547409920 100 100 true/\Below u2.heap.size u2 u2.drew):=zz (by
  have h3:=hr.below (zAd (zK u2.heap.size u2) 1);exact⟨h3.1.cell 0,h3.1.cell 2,h3,(zAd (zK u2.heap.size u2) 1)⟩)
 have HCM2:Hid (∀ w',(w'.cell? ⟨R,0,none⟩=some vn/\w'.cell? ⟨R,2,none⟩=some vl/\RtC w' R vn vd vl vh 0 90071992547409920 100 100 true/\Below u2.heap.size u2 w')->Calls Tryz.prog 52 #[vn,vl] w' fun e w''=>e=.returned (.int .i64 (-1))/\Below w'.heap.size w' w''):=zz (fun w' hs=>by
  have:=zC7 w' vn vl _ _ hs.2.2.1.2.1 hs.2.2.1.2.2.2.1 (zAj (by decide) _ (by decide)) (zAj (by decide) _ (by decide));rw[zAe,zAe,show zBo 0 100=-1 from by decide] at this;exact this)
 have HX2:Hid (∀ w',(w'.cell? ⟨R,0,none⟩=some vn/\w'.cell? ⟨R,2,none⟩=some vl/\RtC w' R vn vd vl vh 0 90071992547409920 100 100 true/\Below u2.heap.size u2 w')->RtC w' R vn vd vl vh 0 90071992547409920 100 100 true/\Below u2.heap.size u2 w'):=zz (fun w' h=>⟨h.2.2.1,h.2.2.2⟩);clear hr;go_upto_region 3 with fail
 go_region_held3 (fun w'=>(w'.cell? ⟨R,0,none⟩=some vn/\w'.cell? ⟨R,2,none⟩=some vl/\RtC w' R vn vd vl vh 0 90071992547409920 100 100 true/\Below u2.heap.size u2 w'))
  (first
   | exact HS2.out
   | assumption
   | (refine HT2.out _ _ ?_ hb9;assumption))
  ((go_at_call 52;refine (HCM2.out _ (by first|exact HS2.out|assumption)).mono ?_;rintro e w9 ⟨rfl,hb9⟩;replace hb9:=zz hb9))
 have hx:=HX2.out w9 (by assumption);have HRC2:=zz hx.1;have HRb2:Hid (Rt w9 R 0 90071992547409920 100 100 true):=zz ⟨_,_,_,_,hx.1⟩;have HEb2:=zz (HEa2.out.trans ((Ex.of_below (S:=fun k=>k=R) hx.2).mono HEa2.out.size (fun k hk=>hk)));have HOb2:=zz (HOa2.out.below hx.2);have x4:=hx.1.1.cell 4;simp only[zAx,zv,zk,zx] at x4;clear hx hb9 HX2 HT2 HS2 HCM2 HRa2 HEa2 HOa2;have HOV2:=zz (zB3 w9 R _ _ _ _ _ HRb2.out (zAj (by decide) _ (by decide)) (zAj (by decide) _ (by decide)) (zAj (by decide) _ (by decide)));rw[show zD0 0 90071992547409920 100 true=false by decide] at HOV2;go_wp2_with fail
 refine HOV2.out.mono ?_;rintro e y2 ⟨rfl,hb⟩;have HRc2:=zz (HRb2.out.below hb);have HEc2:=zz (HEb2.out.trans ((Ex.of_below (S:=fun k=>k=R) hb).mono HEb2.out.size (fun k hk=>hk)));have HOc2:=zz (HOb2.out.below hb);clear hb x4 HRb2 HEb2 HOb2 HOV2 HRC2;have hO:=HOc2.out;have hlt:=World.ownsRow.lt hO;have hcc:Lib.byteCells (([1]:List UInt8) ++ [5])=Lib.byteCells ([1]:List UInt8) ++ [.int .u8 5]:=rfl;go_wp2_with (at_builtin;refine wpList_append_own _ rfl _ _ 47 rfl w.heap.size 5 i0 (.int .u8 0) 1 1 Tryz.underlying47 HI.out hz0 hz1 hz2 rfl (by decide) _ _ _ rfl (World.ownsRow.alloc hO _) ⟨y2.heap.size,0,none⟩ 1 1 [.int .u8 5] rfl rfl ?c1 ?c2 ?c3 ?c4 ?c5 ?_)
 case c1=>
  intro j u hj
  match j,hj with
  | 0,hj=>simp at hj;subst hj;simp[Addr.add]
 case c2=>intro u hu;simp at hu;subst hu;rfl
 case c3=>unfold maxLen;simp
 case c4=>simp
 case c5=>have:=HEc2.out.size;simp;omega
 intro v'' z2 hown' hgrow _;have HEz2:=zz (HEc2.out.trans (Ex.of_below (S:=fun k=>k=R) (((zK w.heap.size y2).alloc HEc2.out.size _).grown hgrow (by have:=HEc2.out.size;simp;omega) (fun k hk=>(hlt k hk).1))));have HO3:Hid (Own w.heap.size z2 v'' (([1]:List UInt8) ++ [5])):=zz (by unfold Own;rw[hcc];exact hown')
 obtain⟨g,cap,hv,hg⟩:∃ g cap,v''=.slice (some ⟨g,0,none⟩) 2 cap/\w.heap.size<=g:=by
  rcases hown'.2 with ⟨_,h0⟩|⟨g,cap,cur,hv,hg,_⟩
  ·simp at h0
  ·exact⟨g,cap,hv,hg⟩
 subst hv;have HG:=zz hg;clear hown' hgrow hO hlt HRc2 HEc2 HOc2 hcc hg;go_wp2
 try rw[Exit.noGoto_ret]
 go_ret;exact⟨HEz2.out,g,cap,rfl,HG.out,HO3.out⟩
theorem zEw{a b i j:Nat}(ha:(zAb a).length<=i)(hb:(zAb b).length<=j):(zAb (a*b)).length<=i+j:=by
 apply zAq;have h1:a<4294967296 ^ i:=Nat.lt_of_lt_of_le (zBn a) (Nat.pow_le_pow_right (by omega) ha);have h2:b<4294967296 ^ j:=Nat.lt_of_lt_of_le (zBn b) (Nat.pow_le_pow_right (by omega) hb);rw[Nat.pow_add];exact Nat.mul_lt_mul'' h1 h2
theorem zCL(n:Nat):(zAb (10 ^ n)).length<=n+1:=by
 apply zAq;have h1:10 ^ n<=4294967296 ^ n:=Nat.pow_le_pow_left (by omega) n;have h2:4294967296 ^ n<4294967296 ^ (n+1):=Nat.pow_lt_pow_right (by omega) (by omega);omega
theorem zJR{j x k:Nat}(h:10 ^ j<=x)(hx:(zAb x).length<=k)(hk:0<k):j<32*k:=by
 have h1:x<4294967296 ^ k:=Nat.lt_of_lt_of_le (zBn x) (Nat.pow_le_pow_right (by omega) hx);have h2:2 ^ j<=10 ^ j:=Nat.pow_le_pow_left (by omega) j;rw[show (4294967296:Nat)=2 ^ 32 from rfl,<-Nat.pow_mul] at h1;exact (Nat.pow_lt_pow_iff_right (by omega)).1 (Nat.lt_of_le_of_lt h2 (Nat.lt_of_le_of_lt h h1))
theorem zDA(n d h:Nat)(ev:Bool):zD0 n d h ev=zBd n d h ev:=rfl
theorem zJf(ev:Bool)(n d l h:Nat)(q:Int):
  ∃ u v D N L H,u=upC ev (n*10 ^ (-q).toNat) (h*10 ^ (-q).toNat) (n*10 ^ (-q).toNat+h*10 ^ (-q).toNat) (d*10 ^ q.toNat)/\D=d*10 ^ q.toNat*10 ^ u/\v=dnC ev D D (n*10 ^ (-q).toNat) (h*10 ^ (-q).toNat) /\
   N=n*10 ^ (-q).toNat*10 ^ v/\L=l*10 ^ (-q).toNat*10 ^ v/\H=h*10 ^ (-q).toNat*10 ^ v/\(zGh ev n d l h q).1=zEJ ev D D N L H/\(zGh ev n d l h q).2=q+u - v:=
 ⟨_,_,_,_,_,_,rfl,rfl,rfl,rfl,rfl,rfl,rfl,rfl⟩
structure SMu (R:Nat) (vd:Value) (u:Array Bool) (w:World):Prop where
 c1:u.getD 7 true=false->w.cell? ⟨R,1,none⟩=some vd
theorem SMu.anti{R:Nat}{vd:Value}(i:Nat)(h7:i≠7)(u:Array Bool)(w:World):SMu R vd (u.setIfInBounds i true) w ↔ SMu R vd u w:=by
 constructor
 ·intro h;exact⟨fun e=>h.c1 (by rw[Go.getD_set_ne true h7];exact e)⟩
 ·intro h;exact⟨fun e=>h.c1 (by rw[Go.getD_set_ne true h7] at e;exact e)⟩
theorem zIs(w:World)(hG:GW w)(R n d l h:Nat)(ev:Bool)(top q:Int)(ht:-1200<=top)(ht2:top<=1200)(hq:q=Int.tdiv (top*30103) 100000)(hR:Rt w R n d l h ev)(hn0:0<n)(hd0:0<d)(hl0:0<l)(hlh:l<=h)(hln:l<n)
  (hn:(zAb n).length<=100) (hd:(zAb d).length<=100) (hh:(zAb h).length<=100) :
  Calls Tryz.prog 136 #[.pointer (some ⟨R,0,none⟩),.int .i64 top] w fun e w'=>e=.returned (.int .i64 (zGh ev n d l h q).2)/\(∃ N D L H,Rt w' R N D L H ev/\(zGh ev n d l h q).1=zEJ ev D D N L H/\N+H<=D/\0<L/\L<=H/\L<N/\(zAb D).length<=2000)/\(-20400<=(zGh ev n d l h q).2/\(zGh ev n d l h q).2<=20400)/\Ex (fun k=>k=R) w.heap.size w w':=by
 have hll:(zAb l).length<=100:=zJ (zBE hlh) hh
 have hq1:-400<=q/\q<=400:=by
  rw[hq];rcases Int.le_total 0 (top*30103) with h|h
  ·rw[Int.tdiv_eq_ediv_of_nonneg h];omega
  ·obtain⟨z,hz⟩:∃ z,z=-(top*30103):=⟨_,rfl⟩;rw[show top*30103=-z by omega,Int.neg_tdiv,Int.tdiv_eq_ediv_of_nonneg (by omega)];omega
 have HT0:Hid (∀ k:Nat,k<=400->∀ w',Below w.heap.size w w'->Calls Tryz.prog 187 #[.int .i64 (k:Int)] w' fun e w''=>Below w'.heap.size w' w''/\∃ v',e=.returned v'/\zAf w'' v' (zAb (10 ^ k))):=zz (fun k hk w' hb=>zL6 w' (hG.step hb) k hk);have HGW:=zz hG;have HR:=zz hR;have g1:IntKind.i64.wrap (top*30103)=top*30103:=zY _ (by omega);have g3:IntKind.i64.wrap q=q:=zY _ (by omega);obtain⟨u,v,D,N,L,H,e1,e2,e3,e4,e5,e6,e7,e8⟩:=zJf ev n d l h q;have g2:(top*30103).tdiv 100000=q:=hq.symm;obtain⟨a,ha⟩:∃ a,a=(-q).toNat:=⟨_,rfl⟩;obtain⟨b,hb⟩:∃ b,b=q.toNat:=⟨_,rfl⟩;rw[<-ha,<-hb] at e1;rw[<-hb] at e2;rw[<-ha] at e3 e4 e5 e6;have HE:Hid (u=upC ev (n*10 ^ a) (h*10 ^ a) (n*10 ^ a+h*10 ^ a) (d*10 ^ b)/\D=d*10 ^ b*10 ^ u/\v=dnC ev D D (n*10 ^ a) (h*10 ^ a)/\N=n*10 ^ a*10 ^ v/\L=l*10 ^ a*10 ^ v/\H=h*10 ^ a*10 ^ v/\(zGh ev n d l h q).1=zEJ ev D D N L H/\(zGh ev n d l h q).2=q+u - v):=zz ⟨e1,e2,e3,e4,e5,e6,e7,e8⟩;have hab:a<=400/\b<=400:=by omega
 have HAB:Hid (a=(-q).toNat/\b=q.toNat):=zz ⟨ha,hb⟩;clear ha hb;clear hG hR hq e1 e2 e3 e4 e5 e6 e7 e8 ht ht2;go_enter Tryz.func136,Tryz.ntmps136
 go_upto_if 12 with fail
 go_cut [5] from 12 to 27 (fun pv wx=>pv=.int .i64 q/\Hid (Rt wx R (n*10 ^ a) (d*10 ^ b) (l*10 ^ a) (h*10 ^ a) ev)/\Hid (Ex (fun k=>k=R) w.heap.size w wx))
 case first=>
  by_cases hp:0<q
  ·obtain rfl:a=0:=by have:=HAB.out;omega
   obtain rfl:q=(b:Int):=by have:=HAB.out;omega
   clear HAB;have hm1:(10:Nat) ^ 0=1:=Nat.pow_zero 10;rw[hm1] at HE;go_upto_region 3 with fail
   obtain⟨w0,hw0⟩:∃ w0,w0=w.drew:=⟨_,rfl⟩;obtain⟨vn,vd,vl,vh,hr⟩:=HR.out;have HR0:Hid (RtC w0 R vn vd vl vh n d l h ev):=zz (by rw[hw0];exact hr.below (zAd (zK w.heap.size w) 1));have HB0:Hid (Below w.heap.size w w0):=zz (by rw[hw0];exact (zAd (zK w.heap.size w) 1));have HW:=zz hw0;clear hr hw0;refine wp_region_noPanic ?_;refine zDb (S:=SMu R vd) (by kernel_rfl) ?_;rw[<-HW.out];have hH:SMu R vd (Array.replicate 11 false) w0:=⟨fun _=>HR0.out.1.cell 1⟩;refine zAp (d:=some 13) (hd:=by rfl) (i:=0) (oi:=_) (v:=.pointer (some ⟨R,0,none⟩)) rfl (by kernel_rfl) (by kernel_rfl) (by kernel_rfl) (fun _ _ _ h=>h) (SMu.anti 0 (by decide)) (Or.inl ⟨by rfl,fun w' _=>?_⟩) hH (fun hH=>?_)
   ·clear hH;go_simp
   try simp only[Act.put,zy,zq,zj]
   refine zAp (d:=some 14) (hd:=by rfl) (i:=1) (oi:=_) (v:=.pointer (some ⟨R,0,none⟩)) rfl (by kernel_rfl) (by kernel_rfl) (by kernel_rfl) (fun _ _ _ h=>h) (SMu.anti 1 (by decide)) (Or.inl ⟨by rfl,fun w' _=>?_⟩) hH (fun hH=>?_)
   ·clear hH;go_simp
   try simp only[Act.put,zy,zq,zj]
   refine zAp (d:=some 15) (hd:=by rfl) (i:=2) (oi:=_) (v:=.pointer (some ⟨R,0,none⟩)) rfl (by kernel_rfl) (by kernel_rfl) (by kernel_rfl) (fun _ _ _ h=>h) (SMu.anti 2 (by decide)) (Or.inl ⟨by rfl,fun w' _=>?_⟩) hH (fun hH=>?_)
   ·clear hH;go_simp
   try simp only[Act.put,zy,zq,zj]
   refine zAp (d:=some 16) (hd:=by rfl) (i:=3) (oi:=_) (v:=.pointer (some ⟨R,1,none⟩)) rfl (by kernel_rfl) (by kernel_rfl) (by kernel_rfl) (fun _ _ _ h=>h) (SMu.anti 3 (by decide)) (Or.inl ⟨by rfl,fun w' _=>?_⟩) hH (fun hH=>?_)
   ·clear hH;go_simp
   try simp only[Act.put,zy,zq,zj]
   refine zDT (T:=fun w'=>w'.cell? ⟨R,1,none⟩=some vd) (d:=some 17) (hd:=by rfl) (i:=4) (k:=7) (oi:=_) (ok:=_) (v:=vd) rfl rfl (by kernel_rfl) (by kernel_rfl) (by kernel_rfl) (by kernel_rfl) (by kernel_rfl) (fun _ _ _ h=>h) (SMu.anti 4 (by decide)) (fun u w h hs=>hs.c1 h) (Or.inl ⟨by rfl,fun w' hT=>?_⟩) hH (fun hH=>?_)
   ·clear hH;have hT:w'.cell? ⟨R,1,none⟩=some vd:=hT;go_simp
   try simp only[Act.put,zy,zq,zj]
   refine zAp (d:=some 18) (hd:=by rfl) (i:=5) (oi:=_) (v:=.int .i64 (b:Int)) rfl (by kernel_rfl) (by kernel_rfl) (by kernel_rfl) (fun _ _ _ h=>h) (SMu.anti 5 (by decide)) (Or.inl ⟨by rfl,fun w' _=>?_⟩) hH (fun hH=>?_)
   ·clear hH;go_simp
   try simp only[Act.put,zy,zq,zj]
   refine zBr (i:=6) (o:=_) (by kernel_rfl) rfl (fun K hK=>?_);go_simp;refine (HT0.out b hab.2 w0 HB0.out).mono ?_;rintro e w1 ⟨hb1,v1,rfl,hv1⟩;have HR1:=zz (HR0.out.below hb1);have HB1:=zz (HB0.out.trans (hb1.mono HB0.out.size));have HL11:=zz hv1;clear hb1 hv1;go_wp2_with fail
   refine hK.out _ _ ⟨fun _=>HR1.out.1.cell 1⟩ (fun hH=>?_);clear hK K
   try simp only[Act.put,zy,zq,zj]
   refine zBr (i:=7) (o:=_) (by kernel_rfl) rfl (fun K hK=>?_);go_simp;refine (zCp w1 vd v1 _ _ HR1.out.2.2.1 HL11.out (zJ hd (by omega)) (zJ (zCL b) (by omega))).mono ?_;rintro e w2 ⟨hb2,v2,rfl,hv2⟩;rw[zAe,zAe] at hv2;obtain⟨sb2,sc2,hs2⟩:=hv2.slice;obtain⟨ln2,hl2⟩:∃ ln,ln=(zAb (d*10 ^ b)).length:=⟨_,rfl⟩;rw[<-hl2] at hs2;subst hs2;have HR2:=zz (HR1.out.below hb2);have HB2:=zz (HB1.out.trans (hb2.mono HB1.out.size));have HL2:=zz hv2;clear hb2 hv2 hl2;go_wp2_with fail
   refine hK.out _ _ ⟨fun h=>absurd h (by decide)⟩ (fun hH=>?_);clear hK K
   try simp only[Act.put,zy,zq,zj]
   refine zAp (d:=some 21) (hd:=by rfl) (i:=8) (oi:=_) (v:=.pointer (some ⟨R,0,none⟩)) rfl (by kernel_rfl) (by kernel_rfl) (by kernel_rfl) (fun _ _ _ h=>h) (SMu.anti 8 (by decide)) (Or.inl ⟨by rfl,fun w' _=>?_⟩) hH (fun hH=>?_)
   ·clear hH;go_simp
   try simp only[Act.put,zy,zq,zj]
   refine zAp (d:=some 22) (hd:=by rfl) (i:=9) (oi:=_) (v:=.pointer (some ⟨R,1,none⟩)) rfl (by kernel_rfl) (by kernel_rfl) (by kernel_rfl) (fun _ _ _ h=>h) (SMu.anti 9 (by decide)) (Or.inl ⟨by rfl,fun w' _=>?_⟩) hH (fun hH=>?_)
   ·clear hH;go_simp
   try simp only[Act.put,zy,zq,zj]
   refine zBr (i:=10) (o:=_) (by kernel_rfl) rfl (fun K hK=>?_);have e1:=HR2.out.1.cell 1;have f1:=HR2.out.1.free 1;simp only[zAx,zv,zk,zx] at e1;go_simp;go_wp2_with fail
   clear e1 f1;refine hK.out _ _ ⟨fun h=>absurd h (by decide)⟩ (fun hH=>?_);clear hK K
   try simp only[Act.put,zy,zq,zj]
   refine zED (by kernel_rfl) ?_ _;have HRz:=zz (RtC.setD HR2.out HL2.out);have HEz:=zz ((Ex.of_below (S:=fun k=>k=R) HB2.out).setCell R 1 (Or.inl rfl) (.slice sb2 ln2 sc2));clear hH;go_wp2;refine Met.intro ?_;go_step;go_meet
   have hRt:Rt (w2.setCell ⟨R,1,none⟩ (.slice sb2 ln2 sc2)) R n (d*10 ^ b) l h ev:=⟨_,_,_,_,HRz.out⟩;exact⟨rfl,zz (hRt.eq (by rw[Nat.pow_zero,Nat.mul_one]) rfl (by rw[Nat.pow_zero,Nat.mul_one]) (by rw[Nat.pow_zero,Nat.mul_one])),HEz⟩
  ·obtain rfl:b=0:=by have:=HAB.out;omega
   have hqa:IntKind.i64.wrap (-q)=(a:Int):=by rw[show -q=(a:Int) by have:=HAB.out;omega];exact zY _ (by omega)
   clear HAB;go_wp2_with fail
   refine (HT0.out a hab.1 w (zK _ _)).mono ?_;rintro e w1 ⟨hb1,v1,rfl,hv1⟩;have HBY:=zz (zGm w1 R v1 _ _ _ _ (10 ^ a) ev (HR.out.below hb1) hv1 (zJ hn (by omega)) (zJ hll (by omega)) (zJ hh (by omega)) (zJ (zCL a) (by omega)));have HE1:=zz (Ex.of_below (S:=fun k=>k=R) hb1);clear hb1 hv1;go_wp2_with fail
   refine HBY.out.mono ?_;rintro e w2 ⟨rfl,hR2,hE2⟩;have HR2:=zz hR2;have HE2:=zz (HE1.out.trans (hE2.mono HE1.out.size (fun k hk=>hk)));clear hR2 hE2 HBY HE1;go_wp2;go_meet
   refine⟨rfl,zz ?_,HE2⟩;rw[Nat.pow_zero,Nat.mul_one];exact HR2.out
 case rest=>
  obtain⟨rfl,HR1,HE1⟩:=hcut;have hl1:(zAb (n*10 ^ a)).length<=501:=zJ (zEw hn (zCL a)) (by omega);have hl2:(zAb (d*10 ^ b)).length<=501:=zJ (zEw hd (zCL b)) (by omega);have hl3:(zAb (l*10 ^ a)).length<=501:=zJ (zEw hll (zCL a)) (by omega);have hl4:(zAb (h*10 ^ a)).length<=501:=zJ (zEw hh (zCL a)) (by omega);have p1:0<n*10 ^ a:=Nat.mul_pos hn0 (Nat.pow_pos (by omega));have p2:0<d*10 ^ b:=Nat.mul_pos hd0 (Nat.pow_pos (by omega));have p3:0<l*10 ^ a:=Nat.mul_pos hl0 (Nat.pow_pos (by omega));have p4:l*10 ^ a<=h*10 ^ a:=Nat.mul_le_mul_right _ hlh;have p5:l*10 ^ a<n*10 ^ a:=Nat.mul_lt_mul_of_pos_right hln (Nat.pow_pos (by omega));clear hn hd hh hll hab HAB hn0 hd0 hl0 hlh hln HR HT0 g1 g2 g3;generalize n*10 ^ a=n1 at *;generalize d*10 ^ b=d1 at *;generalize l*10 ^ a=l1 at *;generalize h*10 ^ a=h1 at *;go_wp2_with fail
  refine (zAH wc 10 (by decide)).mono ?_;rintro e w3 ⟨hb3,v3,rfl,hv3⟩;have HR3:=zz (HR1.out.below hb3);have HE3:=zz (HE1.out.trans ((Ex.of_below (S:=fun k=>k=R) hb3).mono HE1.out.size (fun k hk=>hk)));have HV3:=zz hv3;clear hb3 hv3 HR1 HE1;have HK:Hid (∀ x:Nat,x<=n1+h1->(zAb x).length<=502):=zz (fun x hx=>zJ (zBE hx) (zCo hl1 hl4));go_wp2;go_loopw [5] (fun pv wr=>∃ (j k dc:Nat),pv=.int .i64 (q+(j:Int))/\j<=20000/\Hid (0<dc/\dc=d1*10 ^ j/\(zAb dc).length<=600)/\Hid (n1+h1<dc*10 ^ k/\j+upC ev n1 h1 k dc=u/\dc*10 ^ upC ev n1 h1 k dc=D)/\Hid (Rt wr R n1 dc l1 h1 ev)/\Hid (zAf wr v3 (zAb 10))/\Hid (Ex (fun k=>k=R) w.heap.size w wr)) (fun pv _=>(q+u - intOf pv).toNat)
  case atStart=>
   exact⟨0,n1+h1,d1,by simp,by omega,zz ⟨p2,by simp,by omega⟩,zz ⟨zE7 _ _ p2,by have:=HE.out.1;omega,by rw[<-HE.out.1];exact HE.out.2.1.symm⟩,HR3,HV3,HE3⟩
  case round=>
   clear HR3 HE3 HV3;obtain⟨j,k,dc,rfl,hj,HD,HU,HRr,HVr,HEr⟩:=hrel;have HOV:=zz (zB3 wr R _ _ _ _ _ HRr.out (by omega) (zJ HD.out.2.2 (by omega)) (by omega));by_cases hov:zBd n1 dc h1 ev=true
   ·rw[zDA,hov] at HOV
    have HB:Hid (dc<=n1+h1/\j<19264/\(zAb (dc*10)).length<=600/\∃ k',k=k'+1/\upC ev n1 h1 k dc=upC ev n1 h1 k' (dc*10)+1):=zz (by
     have h1':=(zGk hov).1;refine⟨h1',?_,?_,?_⟩
     ·refine zJR (x:=dc) (k:=602) ?_ (zJ HD.out.2.2 (by omega)) (by omega);rw[HD.out.2.1];exact Nat.le_mul_of_pos_left _ p2
     ·exact zJ (zC9 dc 502 (HK.out dc h1')) (by omega)
     ·cases k with
      | zero=>
       have:=HU.out.1;rw[Nat.pow_zero,Nat.mul_one] at this
       omega
      | succ k'=>exact⟨k',rfl,by rw[upC,if_pos hov]⟩)
    clear hov;go_wp2_with fail
    refine HOV.out.mono ?_;rintro e w4 ⟨rfl,hb4⟩;have HR4:=zz (HRr.out.below hb4);have HE4:=zz (HEr.out.trans ((Ex.of_below (S:=fun k=>k=R) hb4).mono HEr.out.size (fun k hk=>hk)));have HV4:=zz (HVr.out.below hb4);clear hb4 HRr HEr HVr HOV;obtain⟨vn,vd,vl,vh,hr4⟩:=HR4.out;obtain⟨z1,z2,rfl⟩:=hr4.2.2.1.slice;have x1:=hr4.1.cell 1;simp only[zAx,zv,zk,zx] at x1;have hml:=zCp w4 _ v3 _ _ hr4.2.2.1 HV4.out (zJ HD.out.2.2 (by omega)) (zAj (by decide) _ (by decide));rw[zAe,zAe] at hml;have HML:=zz hml;have HRC4:=zz hr4;generalize (zAb dc).length=ln at x1 HML HRC4;clear hr4 hml HR4;go_wp2_with fail
    refine HML.out.mono ?_;rintro e w5 ⟨hb5,v5,rfl,hv5⟩;obtain⟨a5,c5,hs5⟩:=hv5.slice;obtain⟨l5,hl5⟩:∃ l5,l5=(zAb (dc*10)).length:=⟨_,rfl⟩;rw[<-hl5] at hs5;subst hs5;have HR5:=zz (RtC.below HRC4.out hb5);have HE5:=zz (HE4.out.trans ((Ex.of_below (S:=fun k=>k=R) hb5).mono HE4.out.size (fun k hk=>hk)));have HV5:=zz (HV4.out.below hb5);have HR6:=zz (RtC.setD HR5.out hv5);have HE6:=zz (HE5.out.setCell R 1 (Or.inl rfl) (.slice a5 l5 c5));have HV6:=zz (HV5.out.ex HR5.out.1 (RtC.noint HR5.out) ((Ex.refl (fun k=>k=R) _ _).setCell R 1 (Or.inl rfl) (.slice a5 l5 c5)));have x1:=HR5.out.1.cell 1;have f1:=HR5.out.1.free 1;simp only[zAx,zv,zk,zx] at x1;have gj:IntKind.i64.wrap (q+(j:Int)+1)=q+(j:Int)+1:=zY _ (by omega);clear hb5 hv5 hl5 HML HRC4 HE4 HV4 HE5 HV5;go_wp2;go_roundw
    case rel=>
     obtain⟨b1,b2,b3,k',rfl,b4⟩:=HB.out;refine⟨j+1,k',dc*10,by push_cast;congr 1;omega,by omega,zz ⟨by have:=HD.out.1;omega,by rw[HD.out.2.1,Nat.pow_succ,Nat.mul_assoc],b3⟩,zz ⟨?_,?_,?_⟩,zz ⟨_,_,_,_,HR6.out⟩,HV6,HE6⟩
     ·have:=HU.out.1;rw[Nat.pow_succ'] at this;rw[Nat.mul_assoc];exact this
     ·have:=HU.out.2.1;rw[b4] at this;omega
     ·have:=HU.out.2.2;rw[b4,Nat.pow_succ'] at this;rw[Nat.mul_assoc];exact this
    case measure=>
     have h9:=HU.out.2.1;obtain⟨b1,b2,b3,k',e9,b4⟩:=HB.out;rw[b4] at h9;simp[intOf];omega
   ·have hov':zBd n1 dc h1 ev=false:=by simpa using hov
    rw[zDA,hov'] at HOV
    have HZ:Hid (dc=D/\j=u):=zz (by
     have:upC ev n1 h1 k dc=0:=by
      cases k with
      | zero=>rfl
      | succ k'=>rw[upC,if_neg hov]
     have h1':=HU.out;rw[this,Nat.pow_zero,Nat.mul_one] at h1';exact⟨h1'.2.2,by omega⟩)
    obtain⟨rfl,rfl⟩:=HZ.out;clear HZ HU hov;have HNO:=zz hov';clear hov';go_wp2_with fail
    refine HOV.out.mono ?_;rintro e w7 ⟨rfl,hb7⟩;have HR7:=zz (HRr.out.below hb7);have HE7:=zz (HEr.out.trans ((Ex.of_below (S:=fun k=>k=R) hb7).mono HEr.out.size (fun k hk=>hk)));have HV7:=zz (HVr.out.below hb7);clear hb7 HRr HEr HVr HOV;have HP0:Hid (0<dc/\(zAb dc).length<=600):=zz ⟨HD.out.1,HD.out.2.2⟩;clear HD;go_wp2;go_loopw [5] (fun pv wr=>∃ (i k:Nat),pv=.int .i64 (q+(j:Int) - (i:Int))/\i<=20000/\Hid (v=i+dnC ev dc k (n1*10 ^ i) (h1*10 ^ i)/\zBd (n1*10 ^ i) dc (h1*10 ^ i) ev=false/\dc<=n1*10 ^ i*10 ^ k)/\Hid (Rt wr R (n1*10 ^ i) dc (l1*10 ^ i) (h1*10 ^ i) ev)/\Hid (zAf wr v3 (zAb 10))/\Hid (Ex (fun k=>k=R) w.heap.size w wr)) (fun pv _=>(intOf pv - (q+(j:Int) - (v:Int))).toNat)
    case atStart=>
     refine⟨0,dc,by simp,by omega,zz ⟨?_,?_,?_⟩,zz ?_,HV7,HE7⟩
     ·simp only[Nat.pow_zero,Nat.mul_one];have:=HE.out.2.2.1;omega
     ·simp only[Nat.pow_zero,Nat.mul_one];exact HNO.out
     ·simp only[Nat.pow_zero,Nat.mul_one];exact Nat.le_of_lt (zE7 _ _ p1)
     ·simp only[Nat.pow_zero,Nat.mul_one];exact HR7.out
    case round=>
     clear HR7 HE7 HV7;obtain⟨i,k,rfl,hi,HU,HRr,HVr,HEr⟩:=hrel;have HB:Hid (n1*10 ^ i+h1*10 ^ i<=dc/\l1*10 ^ i<=h1*10 ^ i/\0<l1*10 ^ i/\l1*10 ^ i<n1*10 ^ i):=zz ⟨(zCK HU.out.2.1).1,Nat.mul_le_mul_right _ p4,Nat.mul_pos p3 (Nat.pow_pos (by omega)),Nat.mul_lt_mul_of_pos_right p5 (Nat.pow_pos (by omega))⟩;have HL:Hid (∀ x,x<=dc->(zAb x).length<=600):=zz (fun x hx=>zJ (zBE hx) HP0.out.2)
     have HI:Hid (i<19264):=zz (by
      refine zJR (x:=dc) (k:=602) ?_ (zJ HP0.out.2 (by omega)) (by omega);have h1':10 ^ i<=n1*10 ^ i:=Nat.le_mul_of_pos_left _ p1;have:=HB.out.1;omega)
     obtain⟨N1,hN1⟩:∃ N1,N1=n1*10 ^ i:=⟨_,rfl⟩;obtain⟨L1,hL1⟩:∃ L1,L1=l1*10 ^ i:=⟨_,rfl⟩;obtain⟨H1,hH1⟩:∃ H1,H1=h1*10 ^ i:=⟨_,rfl⟩;have HN:Hid (N1=n1*10 ^ i/\L1=l1*10 ^ i/\H1=h1*10 ^ i):=zz ⟨hN1,hL1,hH1⟩;rw[<-hN1,<-hH1] at HU;rw[<-hN1,<-hL1,<-hH1] at HRr HB;clear hN1 hL1 hH1;have hlN:(zAb N1).length<=600:=HL.out N1 (by have:=HB.out;omega);have hlL:(zAb L1).length<=600:=HL.out L1 (by have:=HB.out;omega);have hlH:(zAb H1).length<=600:=HL.out H1 (by have:=HB.out;omega);have HLL:Hid ((zAb (N1*10)).length<=601/\(zAb (L1*10)).length<=601/\(zAb (H1*10)).length<=601):=zz ⟨zC9 _ 600 hlN,zC9 _ 600 hlL,zC9 _ 600 hlH⟩;obtain⟨vn,vd,vl,vh,hr7⟩:=HRr.out;have HR7C:=zz hr7;obtain⟨n1',n2',rfl⟩:=hr7.2.1.slice;obtain⟨e1',e2',rfl⟩:=hr7.2.2.1.slice;obtain⟨g1',g2',rfl⟩:=hr7.2.2.2.1.slice;obtain⟨i1',i2',rfl⟩:=hr7.2.2.2.2.slice;have x0:=hr7.1.cell 0;have x1:=hr7.1.cell 1;have x2:=hr7.1.cell 2;have x3:=hr7.1.cell 3;have x4:=hr7.1.cell 4;simp only[zAx,zv,zk,zx] at x0 x1 x2 x3 x4;have hlt7:=hr7.1.lt;obtain⟨w8,hw8⟩:∃ w8,w8=wr.alloc (.cells (zAx (.slice n1' (zAb N1).length n2') (.slice e1' (zAb dc).length e2') (.slice g1' (zAb L1).length g2') (.slice i1' (zAb H1).length i2') ev) 277):=⟨_,rfl⟩;have hb8:Below wr.heap.size wr w8:=by rw[hw8];exact (zK _ _).alloc (zQ _) _
     have hr8:RtC w8 wr.heap.size (.slice n1' (zAb N1).length n2') (.slice e1' (zAb dc).length e2') (.slice g1' (zAb L1).length g2') (.slice i1' (zAb H1).length i2') N1 dc L1 H1 ev:=
      ⟨by rw[hw8];exact Blk.new _ _ _,hr7.2.1.below hb8,hr7.2.2.1.below hb8,hr7.2.2.2.1.below hb8,hr7.2.2.2.2.below hb8⟩
     have HBY2:=zz (zGm w8 wr.heap.size v3 _ _ _ _ 10 ev ⟨_,_,_,_,hr8⟩ (HVr.out.below hb8) (zJ hlN (by omega)) (zJ hlL (by omega)) (zJ hlH (by omega)) (zAj (by decide) _ (by decide)));have HW8:=zz hw8;have HB8:=zz hb8;clear hw8 hb8 hr8 hr7;generalize (zAb N1).length=q1 at x0 HR7C HW8;generalize (zAb dc).length=q2 at x1 HR7C HW8;generalize (zAb L1).length=q3 at x2 HR7C HW8;generalize (zAb H1).length=q4 at x3 HR7C HW8;go_wp2_with fail
     change Calls _ _ _ (wr.alloc (.cells (zAx (.slice n1' q1 n2') (.slice e1' q2 e2') (.slice g1' q3 g2') (.slice i1' q4 i2') ev) 277)) _;rw[<-HW8.out];refine HBY2.out.mono ?_;rintro e w9 ⟨rfl,hR9,hE9⟩;have HR9:=zz hR9;have HB9:=zz (HB8.out.trans (hE9.below (B':=wr.heap.size) HB8.out.size (fun k hk=>by omega)));clear x0 x1 x2 x3 x4 hR9 hE9 HBY2;have HOV:=zz (zB3 w9 wr.heap.size _ _ _ _ _ HR9.out (by have:=HLL.out;omega) (zJ HP0.out.2 (by omega)) (by have:=HLL.out;omega))
     have HKK:Hid (∃ k',k=k'+1/\dnC ev dc k N1 H1=if zBd (N1*10) dc (H1*10) ev=true then 0 else dnC ev dc k' (N1*10) (H1*10)+1):=zz (by
      cases k with
      | zero=>
       have h1':=HU.out.2.2;rw[Nat.pow_zero,Nat.mul_one] at h1';have:=HB.out
       omega
      | succ k'=>exact⟨k',rfl,by rw[dnC]⟩)
     rw[zDA] at HOV;by_cases hov:zBd (N1*10) dc (H1*10) ev=true
     ·rw[hov] at HOV
      have HV:Hid (v=i):=zz (by
       obtain⟨k',_,h2⟩:=HKK.out;rw[if_pos hov] at h2;have:=HU.out.1;omega)
      clear hov HKK HLL hlN hlL hlH;go_wp2_with fail
      refine HOV.out.mono ?_;rintro e wa ⟨rfl,hba⟩;have HBa:=zz (HB9.out.trans (hba.mono HB9.out.size));clear hba HOV;have HRz:=zz (HRr.out.below HBa.out);have HEz:=zz (HEr.out.trans ((Ex.of_below (S:=fun k=>k=R) HBa.out).mono HEr.out.size (fun k hk=>hk)));go_wp2;go_ret;obtain⟨_,_,_,e4,e5,e6,e7,e8⟩:=HE.out;obtain⟨m1,m2,m3⟩:=HN.out;refine⟨?_,⟨N1,dc,L1,H1,HRz.out,?_,HB.out.1,HB.out.2.2.1,HB.out.2.1,HB.out.2.2.2,zJ HP0.out.2 (by omega)⟩,?_,HEz.out⟩
      ·rw[e8,HV.out];rfl
      ·rw[e7,e4,e5,e6,HV.out,<-m1,<-m2,<-m3]
      ·rw[e8,HV.out];omega
     ·have hov':zBd (N1*10) dc (H1*10) ev=false:=by simpa using hov
      rw[hov'] at HOV;have HNO2:=zz hov'
      have HV:Hid (∃ k',k=k'+1/\v=i+1+dnC ev dc k' (N1*10) (H1*10)):=zz (by
       obtain⟨k',h1',h2⟩:=HKK.out;rw[if_neg hov] at h2;have:=HU.out.1;exact⟨k',h1',by omega⟩)
      clear hov hov' HKK HLL hlN hlL hlH;go_wp2_with fail
      refine HOV.out.mono ?_;rintro e wa ⟨rfl,hba⟩;have HBa:=zz (HB9.out.trans (hba.mono HB9.out.size));have HRz:=zz (HR7C.out.below HBa.out);have HEz:=zz (HEr.out.trans ((Ex.of_below (S:=fun k=>k=R) HBa.out).mono HEr.out.size (fun k hk=>hk)));have HVz:=zz (HVr.out.below HBa.out);obtain⟨yn,yd,yl,yh,hy⟩:=HR9.out.below hba;have HY:=zz hy;obtain⟨n1',n2',rfl⟩:=hy.2.1.slice;obtain⟨e1',e2',rfl⟩:=hy.2.2.1.slice;obtain⟨g1',g2',rfl⟩:=hy.2.2.2.1.slice;obtain⟨i1',i2',rfl⟩:=hy.2.2.2.2.slice;generalize (zAb (N1*10)).length=q1 at HY;generalize (zAb dc).length=q2 at HY;generalize (zAb (L1*10)).length=q3 at HY;generalize (zAb (H1*10)).length=q4 at HY;clear hba HOV hy HEr HVr HR9 HB9 HRr HR7C;obtain⟨xs,hxs⟩:∃ xs,xs=zAx (.slice n1' q1 n2') (.slice e1' q2 e2') (.slice g1' q3 g2') (.slice i1' q4 i2') ev:=⟨_,rfl⟩;have HXS:=zz hxs;clear hxs;go_upto_region 13 with fail
      refine wp_region_lit ?_;iterate 3 go_step
      have hbS:Blk wa wr.heap.size xs 277:=by rw[HXS.out];exact HY.out.1
      refine wpList_load_row rfl 277 _ rfl wr.heap.size rfl 277 _ (0,0) _ hbS Tryz.underlying277 rfl (by rw[HXS.out];kernel_rfl) ?_;iterate 3 go_step
      have ho:=HRz.out;refine wpList_store_row rfl 277 _ _ rfl R xs rfl rfl 277 _ ho.1 (by rw[HXS.out];kernel_rfl) (by rw[HXS.out];simp[zAx]) (by rw[HXS.out];simp[zAx,Value.oneCell']) ?_
      have HRn:Hid (RtC (wa.setRow R xs) R (.slice n1' q1 n2') (.slice e1' q2 e2') (.slice g1' q3 g2') (.slice i1' q4 i2') (N1*10) dc (L1*10) (H1*10) ev):=zz
       ⟨by rw[<-HXS.out];exact setRow_heap _ _ _ _ _ _ ho.1,HY.out.2.1.setRow ho.1 (RtC.noint ho) xs,HY.out.2.2.1.setRow ho.1 (RtC.noint ho) xs,HY.out.2.2.2.1.setRow ho.1 (RtC.noint ho) xs,HY.out.2.2.2.2.setRow ho.1 (RtC.noint ho) xs⟩
      have HVn:=zz (HVz.out.setRow ho.1 (RtC.noint ho) xs);have HEn:Hid (Ex (fun k=>k=R) w.heap.size w (wa.setRow R xs)):=zz (HEz.out.trans ⟨rfl,rfl,rfl,by simp,fun k _ hk=>setRow_other _ _ _ _ hk⟩);have hI:=HI.out;have gj:IntKind.i64.wrap (q+(j:Int) - (i:Int) - 1)=q+(j:Int) - (i:Int) - 1:=zY _ (by omega);clear ho hbS HY HXS HRz HVz HEz;go_wp2;go_roundw
      case rel=>
       obtain⟨k',rfl,hv⟩:=HV.out;obtain⟨m1,m2,m3⟩:=HN.out;have hm:∀ x:Nat,x*10 ^ (i+1)=x*10 ^ i*10:=fun x=>by rw[Nat.pow_succ,Nat.mul_assoc]
       refine⟨i+1,k',by push_cast;congr 1;omega,by omega,zz ⟨?_,?_,?_⟩,zz ?_,HVn,HEn⟩
       ·rw[hm,hm,<-m1,<-m3];exact hv
       ·rw[hm,hm,<-m1,<-m3];exact HNO2.out
       ·have:=HU.out.2.2;rw[hm,<-m1,Nat.mul_assoc,<-Nat.pow_succ'];exact this
       ·rw[hm,hm,hm,<-m1,<-m2,<-m3];exact⟨_,_,_,_,HRn.out⟩
      case measure=>
       obtain⟨k',e9,hv⟩:=HV.out;simp[intOf];omega
end Go.Proofs.YtcanfakaigpkgaaGreatDoor.D
