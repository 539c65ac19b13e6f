/-
  Of the proof that the law DiagUnlike answers true at every two values: a part, without conditions of its own.
-/
import Derived.Test.YtcanfakaigpkgaaGreatDoorPart27
import Derived.Test.YtcanfakaigpkgaaGreatDoorPart29
import Derived.Test.YtcanfakaigpkgaaGreatDoorPart25
set_option linter.unusedVariables false
set_option linter.unusedSimpArgs false
set_option maxRecDepth 100000
set_option maxHeartbeats 8000000
namespace Go.Proofs.YtcanfakaigpkgaaGreatDoor.D
open Go Go.RowKit Limb
attribute [local go_sem high] zAI zAg zBv zAz
theorem zPi{c:UInt8}(h:48<=c.toNat/\c.toNat<=57):c ∈ zK2:=by
 have h2:dig (c.toNat - 48)=c:=by
  unfold dig;rw[show 48+(c.toNat - 48)=c.toNat by omega];exact UInt8.ofNat_toNat
 rw[<-h2];exact zK0 _ (by omega)
theorem zIR(S:List UInt8)(a b e0 ar:Nat)(D:List UInt8)(f:F)(d:Nat)(hD:Dg D)(hDS:sub S a b=D)(hn:dec D D.length≠2/\dec D D.length≠3)(hab:b=a+D.length)(hb1:b<S.length)(hS:S.length<=1099511627776)(hcb:S.getD b 0=40)(hL:zId 105 [.int .u64 (dec D D.length:Nat),.int .i64 (a:Int),.int .i64 (ar:Int)] S b e0 f d false false):
  zId 64 [.int .i64 (ar:Int)] S a e0 f d false false:=by
 intro w p hG hp hr
 have HC0:Hid (S.getD a 0≠45/\S.getD a 0≠48):=zz (by
  have hdn:=hD.hd 0 (by have:=hD.h1;omega);have hd0:=hD.h0;have hc:S.getD a 0=D.getD 0 0:=by rw[<-hDS,zEa S a b 0 (by have:=hD.h1;omega)];rfl
  rw[hc];constructor <;> (intro e;rw[e] at hdn hd0;simp at hdn hd0))
 obtain⟨w0,hw0⟩:∃ w0,w0=w.alloc (.cells zAr 31):=⟨_,rfl⟩;have hb:Below w.heap.size w w0:=by rw[hw0];exact (zK _ _).alloc (zQ _) _
 have hX:Blk w0 w.heap.size zAr 31:=by rw[hw0];exact Blk.new _ _ _
 have hr0:Rd w0 p S a false:=Blk.below hr hb (Blk.lt hr);have hpX:w.heap.size≠p:=by have:=Blk.lt hr;omega
 have hE0:Ex (fun k=>k=p) w.heap.size w w0:=Ex.of_below hb;have hsz0:w.heap.size<w0.heap.size:=hX.lt;have c1:=hr0.at1;have HG0:=zz hG;have HW0:=zz hw0;have HR0:=zz hr0;have HX0:=zz hX;have HE0:=zz hE0;have hle:a<=b:=by omega
 have HAB:=zz hab;have hl1:b<=S.length:=Nat.le_of_lt hb1;have HSUB:=zz hDS;have HDG:=zz hD;have HL:=zz hL;have HHN:=zz hn;have HCB:=zz hcb;clear hG hw0 hb hX hr0 hr hE0 hD hDS hL hn hcb hab;show Calls _ _ #[_,_] _ _;go_enter Tryz.func64,Tryz.ntmps64
 go_upto_region 1 with fail
 change Code.wp _ _ _ _ (w.alloc (.cells zAr 31));rw[<-HW0.out];go_wp2_with fail
 refine (zDV w0 p S a false HR0.out 45 (fun _=>zEL (c:=45) HC0.out.1)).mono ?_;rintro e w1 ⟨rfl,n1,rfl⟩;have HR1:=zz (HR0.out.drewN n1);have HX1:=zz (HX0.out.drewN n1);have HE1:=zz (HE0.out.drewN n1);have hsz1:w.heap.size<(w0.drewN n1).heap.size:=hsz0;generalize w0.drewN n1=w1 at HR1 HX1 HE1 hsz1 ⊢;clear HR0 HX0 HE0 hsz0 HW0 c1;have c1:=HR1.out.at1;go_wp2_with fail
 clear c1;refine (zDV w1 p S a false HR1.out 48 (fun _=>zEL (c:=48) HC0.out.2)).mono ?_;rintro e w2 ⟨rfl,n2,rfl⟩;have HR2:=zz (HR1.out.drewN n2);have HX2:=zz (HX1.out.drewN n2);have HE2:=zz (HE1.out.drewN n2);have hsz2:w.heap.size<(w1.drewN n2).heap.size:=hsz1;generalize w1.drewN n2=w2 at HR2 HX2 HE2 hsz2 ⊢;clear HR1 HX1 HE1 hsz1;go_wp2_with fail
 refine (zBq w2 p S a b false HR2.out zK2 hle hl1 hS (fun i h1 h2=>by
  have h3:=HDG.out.hd (i - a) (by have:=HAB.out;omega);rw[<-HSUB.out,zEa S a b (i - a) (by have:=HAB.out;omega),show a+(i - a)=i by omega] at h3;exact zPi h3) (fun h h'=>by rw[HCB.out] at h';revert h';decide) 1 (by have:=HAB.out;have:=HDG.out.h1;omega)).mono ?_
 rintro e w3 ⟨rfl,hr3⟩;have HR3:=zz hr3.1;have HX3:=zz (hr3.2.blk HX2.out hsz2 hpX);have HE3:=zz (HE2.out.trans (hr3.2.mono (by omega) (fun _ h=>h)));have hsz3:w.heap.size<w3.heap.size:=HX3.out.lt;clear hr3 HR2 HX2 HE2 hsz2;have c0:=HR3.out.at0;have c1:=HR3.out.at1;go_upto_region 11 with fail
 have HT:Hid (∀ w,Calls Tryz.prog 104 #[.string (zAc (sub S a b))] w fun e w'=>e=.returned (.tuple #[.int .u64 (dec D D.length:Nat),.bool true])/\Below w.heap.size w w'):=zz (by
  intro w;rw[HSUB.out];exact zCT w D HDG.out HHN.out)
 generalize dec D D.length=n at HT HL;go_region_with (go_at_call 104;go_must (refine (HT.out _).mono ?_;rintro e w9 ⟨rfl,hb9⟩;have HB9:=zz hb9;clear hb9))
 all_goals (
  have hb:Below w3.heap.size w3 w9:=(zAd (zK w3.heap.size w3) 1).trans HB9.out;have HR9:Hid (Rd w9 p S b false):=zz (Blk.below HR3.out hb (Blk.lt HR3.out));have HX9:=zz (HX3.out.below hb hsz3);have HE9:=zz (HE3.out.trans (Ex.of_below (hb.mono (Nat.le_of_lt hsz3))));have hsz9:w.heap.size<w9.heap.size:=HX9.out.lt;clear hb HB9 HR3 HX3 HE3 hsz3 c0 c1 HT;go_wp2_with fail
  refine (zBu w9 p S b false HR9.out [40] hb1 (by rw[HCB.out];decide)).mono ?_;rintro e wa ⟨rfl,na,rfl⟩;have HRa:=zz (HR9.out.drewN na);have HXa:=zz (HX9.out.drewN na);have HEa:=zz (HE9.out.drewN na);have hsza:w.heap.size<(w9.drewN na).heap.size:=hsz9;generalize w9.drewN na=wa at HRa HXa HEa hsza ⊢;clear HR9 HX9 HE9 hsz9;have HQ:=zz (HL.out wa p (HG0.out.ex HEa.out hp) hp HRa.out);clear HL;go_wp2_with fail
  refine HQ.out.mono ?_;rintro e w4 ⟨hr4,v4,rfl,hT4⟩;obtain⟨k1,k2,k3,k4,k5,k6,k7,k8,k9,k10,k11,rfl⟩:=hT4.row;have hX4:=hr4.2.blk HXa.out hsza hpX;have HE4:=zz (HEa.out.trans (hr4.2.mono (by omega) (fun _ h=>h)));have hlt4:w.heap.size<w4.heap.size:=hX4.lt;have hsz3:wa.heap.size<=w4.heap.size:=hr4.2.size;have HX4:=zz hX4;have HR4:=zz hr4.1;have HT4:=zz hT4;clear hr4 hX4 hT4 HQ HRa HXa HEa;dsimp only;go_step;refine wpList_store_row rfl 31 _ _ rfl w.heap.size (zAa k1 k2 false (.slice k3 k4 k5) k6 k7 (zAc k8) (.slice k9 k10 k11)) rfl rfl 31 _ HX4.out (by kernel_rfl) rfl (zAo _ _ _ _ _ _ _ _ rfl rfl) ?_;have hfin:Blk (w4.setRow w.heap.size (zAa k1 k2 false (.slice k3 k4 k5) k6 k7 (zAc k8) (.slice k9 k10 k11))) w.heap.size (zAa k1 k2 false (.slice k3 k4 k5) k6 k7 (zAc k8) (.slice k9 k10 k11)) 31:=setRow_heap _ _ _ _ _ _ HX4.out;have HFIN:=zz hfin;clear hfin;go_wp2;refine bodyPost_ret (v:=.agg (zAa k1 k2 false (.slice k3 k4 k5) k6 k7 (zAc k8) (.slice k9 k10 k11))) (results_cell_row rfl _ _ w.heap.size 31 _ (0,0) _ rfl HFIN.out Tryz.underlying31 rfl (by kernel_rfl)) rfl ⟨Rs.setRow ⟨HR4.out,HE4.out⟩ (zQ _) hpX _,_,rfl,zAm.same (fun k hk _=>setRow_other _ _ _ _ (by omega)) (fun k hk _=>by omega) _ _ _ HT4.out⟩)
end Go.Proofs.YtcanfakaigpkgaaGreatDoor.D
namespace Go.Proofs.YtcanfakaigpkgaaGreatDoor.D
open Go Go.RowKit Limb
theorem zEZ(w:World)(s:Nat)(hs:s<9223372036854775808):Calls Tryz.prog 134 #[.int .u64 (s:Int)] w fun e w'=>e=.returned (.tuple #[.int .u64 (sM s:Int),.int .i64 ((sK s:Int) - 1074),.bool (decide (zBb s))])/\w'=w:=by
 have ha:=zHw (b:=s) (by omega);by_cases hk:s<4503599627370496
 ·have e1:sM s=s:=by unfold sM;rw[if_pos hk]
  have e2:(sK s:Int) - 1074=-1074:=by unfold sK;rw[if_pos hk];rfl
  have e3:decide (zBb s)=false:=decide_eq_false (by unfold zBb;omega);rw[e1,e2,e3];have hm:((s % 4503599627370496:Nat):Int)=(s:Int):=by omega
  rw[hm] at ha;have hex:(s:Int) / 4503599627370496=0:=by omega
  clear hk hs e1 e2 e3 hm;generalize (s:Int)=Z at *;go_enter Tryz.func134,Tryz.ntmps134
  go_wp2_with fail
  refine (zCh w).mono ?_;rintro e w1 ⟨rfl,rfl⟩;go_wp2;exact bodyPost_ret (v:=.tuple #[.int .u64 Z,.int .i64 (-1074),.bool false]) (by simp[results,Tryz.results134,go_sem]) rfl ⟨rfl,rfl⟩
 ·obtain⟨ex,hexd⟩:∃ ex,ex=s / 4503599627370496:=⟨_,rfl⟩;obtain⟨fr,hfrd⟩:∃ fr,fr=s % 4503599627370496:=⟨_,rfl⟩;rw[<-hfrd] at ha;have e1:sM s=4503599627370496+fr:=by unfold sM;rw[if_neg hk,hfrd]
  have e2:(sK s:Int) - 1074=-1074+(ex:Int) - 1:=by unfold sK;rw[if_neg hk,<-hexd];omega
  have ho:=zKt (b:=fr) (by omega);rw[e1,e2];have hex:(s:Int) / 4503599627370496=(ex:Int):=by omega
  have hex0:((ex:Int) == 0)=false:=beq_eq_false_iff_ne.2 (by omega);have hexl:ex<2048:=by omega
  have x3:IntKind.i64.wrap (ex:Int)=(ex:Int):=zY _ (by omega);have x4:IntKind.i64.wrap (-1074+(ex:Int))=-1074+(ex:Int):=zY _ (by omega);have x5:IntKind.i64.wrap (-1074+(ex:Int) - 1)=-1074+(ex:Int) - 1:=zY _ (by omega);generalize hM:((4503599627370496+fr:Nat):Int)=M at *;by_cases hf:fr=0
  ·have hfz:((fr:Int) == 0)=true:=beq_iff_eq.2 (by omega);by_cases h1:1<ex
   ·have e3:decide (zBb s)=true:=decide_eq_true (by unfold zBb;omega);have h1':(1:Int)<(ex:Int):=by omega
    rw[e3];clear hk hs e1 e2 e3 hexd hfrd hf h1 hM hexl;generalize (s:Int)=Z at *;generalize (fr:Int)=FR at *;generalize (ex:Int)=EX at *;go_enter Tryz.func134,Tryz.ntmps134
    go_wp2_with fail
    refine (zCh w).mono ?_;rintro e w1 ⟨rfl,rfl⟩;go_wp2;exact bodyPost_ret (v:=.tuple #[.int .u64 M,.int .i64 (-1074+EX - 1),.bool true]) (by simp[results,Tryz.results134,go_sem]) rfl ⟨rfl,rfl⟩
   ·have e3:decide (zBb s)=false:=decide_eq_false (by unfold zBb;omega);have h1':¬ (1:Int)<(ex:Int):=by omega
    rw[e3];clear hk hs e1 e2 e3 hexd hfrd hf h1 hM hexl;generalize (s:Int)=Z at *;generalize (fr:Int)=FR at *;generalize (ex:Int)=EX at *;have HH:Hid (EX<=1):=zz (by omega);go_enter Tryz.func134,Tryz.ntmps134
    go_wp2_with fail
    refine (zCh w).mono ?_;rintro e w1 ⟨rfl,rfl⟩;go_wp2;exact bodyPost_ret (v:=.tuple #[.int .u64 M,.int .i64 (-1074+EX - 1),.bool false]) (by simp[results,Tryz.results134,go_sem];exact HH.out) rfl ⟨rfl,rfl⟩
  ·have hfz:((fr:Int) == 0)=false:=beq_eq_false_iff_ne.2 (by omega);have e3:decide (zBb s)=false:=decide_eq_false (by unfold zBb;omega);rw[e3];clear hk hs e1 e2 e3 hexd hfrd hf hM hexl;generalize (s:Int)=Z at *;generalize (fr:Int)=FR at *;generalize (ex:Int)=EX at *;go_enter Tryz.func134,Tryz.ntmps134
   go_wp2_with fail
   refine (zCh w).mono ?_;rintro e w1 ⟨rfl,rfl⟩;go_wp2;exact bodyPost_ret (v:=.tuple #[.int .u64 M,.int .i64 (-1074+EX - 1),.bool false]) (by simp[results,Tryz.results134,go_sem]) rfl ⟨rfl,rfl⟩
theorem zFt{x k j:Nat}(h:x<2 ^ k)(hk:k<=32*j):(zAb x).length<=j:=by
 apply zAq;rw[show (4294967296:Nat)=2 ^ 32 from rfl,<-Nat.pow_mul];exact Nat.lt_of_lt_of_le h (Nat.pow_le_pow_right (by omega) hk)
theorem zOD(w:World)(s:Nat)(h0:0<s)(hs:s<9218868437227405312):
  Calls Tryz.prog 135 #[.int .u64 (sM s:Int),.int .i64 ((sK s:Int) - 1074),.bool (decide (zBb s))] w fun r w'=>Below w.heap.size w w'/\∃ R,r=.returned (.pointer (some ⟨R,0,none⟩))/\w.heap.size<=R/\Rt w' R (sM s*zBV s*2 ^ (sK s - 1074)) (zBV s*2 ^ (1074 - sK s)) (2 ^ (sK s - 1074)) (zFy s*2 ^ (sK s - 1074)) (decide (s % 2=0)):=by
 have hK:sK s<=2046:=by unfold sK;split <;> omega
 have hev:(sM s % 2 == 0)=decide (s % 2=0):=by
  have:sM s % 2=s % 2:=by unfold sM;split <;> omega
  rw[this];rcases Nat.mod_two_eq_zero_or_one s with h|h <;> rw[h] <;> rfl
 have hm:=Nat.lt_trans (zJk s) (show 9007199254740992<18446744073709551616 by decide);by_cases hE:zBb s
 ·rw[decide_eq_true hE];refine (zMa w (sM s) (sK s - 1074) (1074 - sK s) _ hm (by omega) (by omega) (by omega) (by omega)).mono ?_;rintro r w' ⟨h1,R,h2,h3,h4⟩;rw[hev] at h4;refine⟨h1,R,h2,h3,h4.eq ?_ ?_ ?_ ?_⟩
  ·unfold zBV;rw[if_pos hE,Nat.pow_add,Nat.mul_assoc]
  ·unfold zBV;rw[if_pos hE,Nat.pow_add,Nat.one_mul]
  ·rw[Nat.one_mul]
  ·unfold zFy;rw[if_pos hE]
 ·rw[decide_eq_false hE];refine (zJ9 w (sM s) (sK s - 1074) (1074 - sK s) _ hm (by omega) (by omega) (by omega) (by omega)).mono ?_;rintro r w' ⟨h1,R,h2,h3,h4⟩;rw[hev] at h4;refine⟨h1,R,h2,h3,h4.eq ?_ ?_ ?_ ?_⟩
  ·unfold zBV;rw[if_neg hE,Nat.pow_add,Nat.mul_assoc,Nat.pow_one]
  ·unfold zBV;rw[if_neg hE,Nat.pow_add,Nat.one_mul,Nat.pow_one]
  ·rw[Nat.one_mul]
  ·unfold zFy;rw[if_neg hE]
def ltr(G:List Nat)(i j:Nat):Int:=if j<i then (48+G.getD j 0:Nat) else (G.getD j 0:Nat)
theorem zIm(w:World)(hG:GV w)(b:Nat)(hb:b<18446744073709551616)(h0:0<b % 9223372036854775808)(hs:b % 9223372036854775808<9218868437227405312):
  Calls Tryz.prog 83 #[.int .u64 (b:Int)] w fun e w'=>e=.returned (.tuple #[.agg #[.bool (decide (9223372036854775808<=b)),.string (zAc ((zDv 1075 (b % 9223372036854775808)).1.map dig)),.int .i64 (zDv 1075 (b % 9223372036854775808)).2],.bool true])/\Below w.heap.size w w'/\(zDv 1075 (b % 9223372036854775808)).1.length<=96000/\-20400<=(zDv 1075 (b % 9223372036854775808)).2/\(zDv 1075 (b % 9223372036854775808)).2<=20400:=by
 obtain⟨s,es⟩:∃ s,s=b % 9223372036854775808:=⟨_,rfl⟩;rw[<-es] at h0 hs ⊢;obtain⟨ng,hng⟩:∃ ng,ng=decide (9223372036854775808<=b):=⟨_,rfl⟩;rw[<-hng];obtain⟨w1,hw1⟩:∃ w1,w1=w.alloc (.cells #[.bool false,.string ⟨#[]⟩,.int .i64 0] 130):=⟨_,rfl⟩;have hb1:Below w.heap.size w w1:=by rw[hw1];exact (zK _ _).alloc (zQ _) _
 have hB1:Blk w1 w.heap.size #[.bool false,.string ⟨#[]⟩,.int .i64 0] 130:=by rw[hw1];exact Blk.new _ _ _
 have HG1:=zz (hG.step hb1);have HB1:=zz hb1;have HBL1:=zz hB1;have HW1:=zz hw1
 obtain⟨c,n1,hcn⟩:∃ c:Int,bits .and .u64 (b:Int) 9223372036854775808=c/\(c != 0)=ng:=by
  have:=zKc hb;unfold zDe at this;refine⟨_,this,?_⟩;rw[hng];by_cases h:9223372036854775808<=b
  ·rw[if_pos h,decide_eq_true h];rfl
  ·rw[if_neg h,decide_eq_false h];rfl
 have n2:bits .andNot .u64 (b:Int) 9223372036854775808=(s:Int):=by rw[es];exact zE1 hb
 have x1:bits BinOp.xor IntKind.u64 IntKind.u64.max 0=18446744073709551615:=by decide
 have x2:IntKind.u64.wrap (18446744073709551615 - 18446744073709551615 / 2)=9223372036854775808:=by decide
 have x3:IntKind.u64.wrap 9223372036854775808=9223372036854775808:=by decide
 obtain⟨cl,hcl⟩:∃ cl,cl=zCV s:=⟨_,rfl⟩;have hc5:(cl == 5)=false:=beq_eq_false_iff_ne.2 (by rw[hcl];unfold zCV;rw[if_neg (by omega),if_neg (by omega)];split <;> (try split) <;> decide);have hc4:(cl == 4)=false:=beq_eq_false_iff_ne.2 (by rw[hcl];unfold zCV;rw[if_neg (by omega),if_neg (by omega)];split <;> (try split) <;> decide);have hc1:(cl == 1)=false:=beq_eq_false_iff_ne.2 (by rw[hcl];unfold zCV;rw[if_neg (by omega),if_neg (by omega),if_neg (by omega)];split <;> decide);have HCL:=zz (zEC w1 HG1.out.g.s b hb);rw[<-es,<-hcl] at HCL;have HS:Hid (0<s/\s<9218868437227405312):=zz ⟨h0,hs⟩;obtain⟨fR,hfR⟩:∃ fR,fR=zDv 1075 s:=⟨_,rfl⟩;have HD9:Hid (∀ x ∈ fR.1,x<=9):=zz (by rw[hfR];exact (zFl 1075 s (by omega) h0).1.1);rw[<-hfR];have HFR:=zz hfR;have hsp:=zEZ w s (by omega);clear hG hb1 hB1 hw1 hcl es hng hb hfR hsp;have HM:Hid (sM s<18446744073709551616/\sK s<=2046):=zz ⟨Nat.lt_trans (zJk s) (by decide),by unfold sK;split <;> omega⟩;have HSP:Hid (∀ w,Calls Tryz.prog 134 #[.int .u64 (s:Int)] w fun e w'=>e=.returned (.tuple #[.int .u64 (sM s:Int),.int .i64 ((sK s:Int) - 1074),.bool (decide (zBb s))])/\w'=w):=zz (fun w=>zEZ w s (by omega));have HSET:Hid (∀ w,Calls Tryz.prog 135 #[.int .u64 (sM s:Int),.int .i64 ((sK s:Int) - 1074),.bool (decide (zBb s))] w fun r w'=>Below w.heap.size w w'/\∃ R,r=.returned (.pointer (some ⟨R,0,none⟩))/\w.heap.size<=R/\Rt w' R (sM s*zBV s*2 ^ (sK s - 1074)) (zBV s*2 ^ (1074 - sK s)) (2 ^ (sK s - 1074)) (zFy s*2 ^ (sK s - 1074)) (decide (s % 2=0))):=zz (fun w=>zOD w s h0 hs);clear h0 hs;generalize (b:Int)=B at *;generalize decide (zBb s)=eg at HSP HSET;go_enter Tryz.func83,Tryz.ntmps83
 go_wp2_with fail
 change Calls _ _ _ (w.alloc (.cells #[.bool false,.string ⟨#[]⟩,.int .i64 0] 130)) _;rw[<-HW1.out];refine HCL.out.mono ?_;rintro e w2 ⟨rfl,hb2⟩;have HB2:=zz (HB1.out.trans (hb2.mono HB1.out.size));have HBL2:=zz (HBL1.out.below hb2 HBL1.out.lt);have HG2:=zz (HG1.out.step hb2);clear hb2 HCL HB1 HBL1 HG1;go_wp2_with fail
 refine (HSP.out w2).mono ?_;rintro e w3 ⟨rfl,rfl⟩;go_wp2_with fail
 refine (HSET.out w3).mono ?_;rintro e w4 ⟨hb4,R,rfl,hR,hRt⟩;have HB4:=zz (HB2.out.trans (hb4.mono HB2.out.size));have HBL4:=zz (HBL2.out.below hb4 HBL2.out.lt);have HG4:=zz (HG2.out.step hb4);have HR4:=zz hRt;have HRW:Hid (w.heap.size<R):=zz (by have:=HBL2.out.lt;omega);clear hb4 hR hRt HSET HSP HB2 HBL2 HG2;have HFM:=zz (zAH w4 (sM s) HM.out.1);go_wp2_with fail
 refine HFM.out.mono ?_;rintro e w5 ⟨hb5,v5,rfl,hv5⟩;have HB5:=zz (HB4.out.trans (hb5.mono HB4.out.size));have HBL5:=zz (HBL4.out.below hb5 HBL4.out.lt);have HG5:=zz (HG4.out.step hb5);have HR5:=zz (HR4.out.below hb5);have hlen:=zBs w5 v5 _ hv5 (zAj HM.out.1 _ (by decide));rw[zAe] at hlen;have HLEN:=zz hlen;have hbl:=zCj HM.out.1;obtain⟨top,htop⟩:∃ top,top=(sK s:Int) - 1074+((zA7 (sM s):Nat):Int):=⟨_,rfl⟩;have htw:IntKind.i64.wrap ((sK s:Int) - 1074+((zA7 (sM s):Nat):Int))=top:=by rw[htop];exact zY _ (by have:=HM.out;omega)
 have HTOP:Hid (-1200<=top/\top<=1200/\top=(sK s:Int) - 1074+((zA7 (sM s):Nat):Int)):=zz ⟨by omega,by have:=HM.out;have:=HS.out;have:sK s<=2045:=(by unfold sK;split <;> omega);omega,htop⟩;clear hb5 hv5 hlen hbl htop HFM HB4 HBL4 HG4 HR4;go_wp2_with fail
 refine HLEN.out.mono ?_;rintro e w6 ⟨rfl,rfl⟩;obtain⟨q,hq⟩:∃ q,q=Int.tdiv (top*30103) 100000:=⟨_,rfl⟩;have hMl:sM s<2 ^ 53:=zJk s;have hup:1<=zBV s/\zBV s<=4:=by unfold zBV;split <;> omega
 have hhi:1<=zFy s/\zFy s<=2:=by unfold zFy;split <;> omega
 have hM0:=zFW HS.out.1;have hpp:0<2 ^ (sK s - 1074):=Nat.two_pow_pos _;have hqq:0<2 ^ (1074 - sK s):=Nat.two_pow_pos _
 have hm4:sM s*zBV s<2 ^ 56:=by
  have:sM s*zBV s<=sM s*4:=Nat.mul_le_mul_left _ hup.2;omega
 have HSC:=zz (zIs w6 HG5.out.g R _ _ _ _ _ top q HTOP.out.1 HTOP.out.2.1 hq HR5.out (Nat.mul_pos (Nat.mul_pos hM0 (by omega)) hpp) (Nat.mul_pos (by omega) hqq) hpp (Nat.le_mul_of_pos_left _ (by omega)) ?_ ?_ ?_ ?_)
 rotate_left
 ·have h1:1*2<=sM s*zBV s:=Nat.mul_le_mul hM0 (by unfold zBV;split <;> omega);have:=Nat.mul_lt_mul_of_pos_right (show 1<sM s*zBV s by omega) hpp;omega
 ·obtain⟨q9,hq9⟩:∃ q,q=972:=⟨_,rfl⟩;refine zFt (k:=56+q9) ?_ (by omega);rw[Nat.pow_add];exact Nat.mul_lt_mul'' hm4 (Nat.pow_lt_pow_right (by omega) (by have:=HS.out;unfold sK;split <;> omega))
 ·obtain⟨q9,hq9⟩:∃ q,q=1075:=⟨_,rfl⟩;refine zFt (k:=3+q9) ?_ (by omega);rw[Nat.pow_add];exact Nat.mul_lt_mul'' (by omega) (Nat.pow_lt_pow_right (by omega) (by omega))
 ·obtain⟨q9,hq9⟩:∃ q,q=972:=⟨_,rfl⟩;refine zFt (k:=3+q9) ?_ (by omega);rw[Nat.pow_add];exact Nat.mul_lt_mul'' (by omega) (Nat.pow_lt_pow_right (by omega) (by have:=HS.out;unfold sK;split <;> omega))
 have HF2:Hid (zGh (decide (s % 2=0)) (sM s*zBV s*2 ^ (sK s - 1074)) (zBV s*2 ^ (1074 - sK s)) (2 ^ (sK s - 1074)) (zFy s*2 ^ (sK s - 1074)) q=fR):=zz (by
  rw[HFR.out,hq,HTOP.out.2.2];rfl)
 rw[HF2.out] at HSC;clear hq hMl hup hhi hM0 hpp hqq hm4 HF2 HFR;go_wp2_with fail
 refine HSC.out.mono ?_;rintro e w7 ⟨rfl,⟨N,D,L,H,hR7,hgen,hNH,hL0,hLH,hLN,hDl⟩,hPB,hE7⟩;have HB7:=zz (HB5.out.trans (hE7.below (B':=w.heap.size) HB5.out.size (fun k hk=>by have:=HRW.out;omega)));have HBL7:=zz (hE7.blk HBL5.out HBL5.out.lt (by have:=HRW.out;omega));have HR7:=zz hR7;have HPB:=zz hPB;have HGEN:Hid (fR.1=zEJ (decide (s % 2=0)) D D N L H):=zz hgen;obtain⟨w8,hw8⟩:∃ w8,w8=w7.alloc (.cells #[.bool ng,.string ⟨#[]⟩,.int .i64 fR.2] 130):=⟨_,rfl⟩;have hb8:Below w7.heap.size w7 w8:=by rw[hw8];exact (zK _ _).alloc (zQ _) _
 have hB8:Blk w8 w7.heap.size #[.bool ng,.string ⟨#[]⟩,.int .i64 fR.2] 130:=by rw[hw8];exact Blk.new _ _ _
 have HW8:=zz hw8;have HQ8:=zz hB8;have HR8:=zz (HR7.out.below hb8);have HB8:=zz (HB7.out.trans (hb8.mono HB7.out.size));have HBL8:=zz (HBL7.out.below hb8 HBL7.out.lt);have HQW:Hid (w.heap.size<w7.heap.size/\R<w7.heap.size):=zz ⟨HBL7.out.lt,HR7.out.lt⟩;have HDG:=zz (zJp w8 R N D L H _ HR8.out hNH hL0 hLH hLN (by omega) D (Nat.le_of_lt (zE7 D L hL0)));rw[<-HGEN.out] at HDG;obtain⟨G,hG⟩:∃ G,G=fR.1:=⟨_,rfl⟩;rw[<-hG] at HDG HD9;have HFG:=zz hG;clear hw8 hb8 hB8 HR7 HB7 HBL7 hR7 hE7 hgen hNH hL0 hLH hLN hDl hG HGEN hPB HSC HLEN HB5 HBL5 HG5 HR5;obtain⟨pt,hpt⟩:∃ pt,pt=fR.2:=⟨_,rfl⟩;rw[<-hpt] at HW8 HQ8;rw[<-hpt];have HPT:=zz hpt;clear hpt;go_wp2_with fail
 change Calls _ _ _ (w7.alloc (.cells #[.bool ng,.string ⟨#[]⟩,.int .i64 pt] 130)) _;rw[<-HW8.out];refine HDG.out.mono ?_;rintro e w9 ⟨hE9,g,cap,rfl,hg9,hGl,hO9⟩;have HGb:=zz hGl;clear hGl;have HB9:=zz (HB8.out.trans (hE9.below (B':=w.heap.size) HB8.out.size (fun k hk=>by have:=HRW.out;omega)));have HBL9:=zz (hE9.blk HBL8.out HBL8.out.lt (by have:=HRW.out;omega));have HQ9:=zz (hE9.blk HQ8.out HQ8.out.lt (by have:=HQW.out;omega));have HGW:Hid (w.heap.size<g/\w7.heap.size<g):=zz (by have:=HQ8.out.lt;have:=HQW.out;omega)
 have HCU:Hid (∃ cur,Blk w9 g cur 5/\∀ j,j<G.length->cur[j]?=some (.int .u8 (ltr G 0 j))):=zz (by
  obtain⟨_,⟨h0,_⟩|⟨g',cap',cur,hv,_,hc,_,_,_,ht⟩⟩:=hO9
  ·simp at h0
  ·simp only[Value.slice.injEq,Option.some.injEq,Addr.mk.injEq] at hv;obtain⟨⟨rfl,-⟩,-,-⟩:=hv;refine⟨cur,hc,fun j hj=>?_⟩
   have h0:(cur.toList.take ((byL G).length*1))[j]?=some (.int .u8 (ltr G 0 j)):=by
    rw[ht,Lib.byteCells,List.getElem?_map];have hjl:G[j]?=some (G.getD j 0):=by rw[zw,zZ hj];rfl
    have h9:=HD9.out (G.getD j 0) (List.mem_of_getElem? hjl);simp only[byL,List.getElem?_map,hjl,Option.map_some];congr 2;unfold ltr;rw[if_neg (by omega)];generalize G.getD j 0=x at h9 ⊢;rw[UInt8.toNat_ofNat'];omega
   rw[List.getElem?_take,if_pos (by rw[zAA];omega),Array.getElem?_toList] at h0;exact h0)
 have HGL:Hid (G.length<=9223372036854775807):=zz (by
  obtain⟨_,⟨h0,_⟩|⟨g',cap',cur,hv,_,hc,hn,hm,_,ht⟩⟩:=hO9
  ·simp at h0
  ·rw[zAA] at hn;unfold maxLen at hm;omega)
 generalize w7.heap.size=Q at HQ9 HGW HQW ⊢;clear HW8 HQ8 HR8 HB8 HBL8 HDG hE9 hg9 hO9;go_wp2;go_loopw [59] (fun iv wr=>∃ i:Nat,i<=G.length/\iv=.int .i64 (i:Int)/\Hid (∃ cur,Blk wr g cur 5/\∀ j,j<G.length->cur[j]?=some (.int .u8 (ltr G i j)))/\Hid (Below w.heap.size w wr)/\Hid (Blk wr w.heap.size #[.bool false,.string ⟨#[]⟩,.int .i64 0] 130)/\Hid (Blk wr Q #[.bool ng,.string ⟨#[]⟩,.int .i64 pt] 130)) (fun iv _=>G.length - (intOf iv).toNat)
 case atStart=>exact⟨0,by omega,rfl,HCU,HB9,HBL9,HQ9⟩
 case round=>
  clear HCU HB9 HBL9 HQ9;obtain⟨i,hi,rfl,HCUr,HBr,HBLr,HQr⟩:=hrel;by_cases h1:i<G.length
  ·have hI:(i:Int)<(G.length:Int):=by omega
   obtain⟨cur,hcur,hcj⟩:=HCUr.out;have hci:=hcj i h1;have hmem:G.getD i 0 ∈ G:=by rw[zw,zZ h1];exact List.getElem_mem _
   have h9:=HD9.out _ hmem
   have hcell:wr.cell? ⟨g,i,none⟩=some (.int .u8 ((G.getD i 0:Nat):Int)):=by
    rw[hcur.cell,hci];unfold ltr;rw[if_neg (by omega)]
   have hfree:=hcur.free i;have hw48:IntKind.u8.wrap (((G.getD i 0:Nat):Int)+48)=((48+G.getD i 0:Nat):Int):=by rw[IntKind.wrap_u8];omega
   have HN:Hid (∃ cur,Blk (wr.setCell ⟨g,i,none⟩ (.int .u8 ((48+G.getD i 0:Nat):Int))) g cur 5/\∀ j,j<G.length->cur[j]?=some (.int .u8 (ltr G (i+1) j))):=zz ⟨_,hcur.set i _,fun j hj=>by
    by_cases hji:i=j
    ·subst hji;rw[Array.getElem?_setIfInBounds_self_of_lt (Array.getElem?_eq_some_iff.1 hci).1];unfold ltr;rw[if_pos (by omega)]
    ·rw[Array.getElem?_setIfInBounds_ne hji,hcj j hj];unfold ltr;by_cases h2:j<i
     ·rw[if_pos h2,if_pos (by omega)]
     ·rw[if_neg h2,if_neg (by omega)]⟩
   have HBn:=zz (HBr.out.setCell (p:=⟨g,i,none⟩) (Nat.le_of_lt HGW.out.1) (.int .u8 ((48+G.getD i 0:Nat):Int)));have HLn:=zz (HBLr.out.set_other ⟨g,i,none⟩ (.int .u8 ((48+G.getD i 0:Nat):Int)) (by have:=HGW.out;simp;omega));have HQn:=zz (HQr.out.set_other ⟨g,i,none⟩ (.int .u8 ((48+G.getD i 0:Nat):Int)) (by have:=HGW.out;simp;omega));have hgl:=HGL.out;have gi:IntKind.i64.wrap ((i:Int)+1)=(i:Int)+1:=zY _ (by omega);clear hcur hcj hci hmem h9 HCUr HBr HBLr HQr;generalize ((48+G.getD i 0:Nat):Int)=nv at *;generalize ((G.getD i 0:Nat):Int)=ov at *;go_wp2;go_roundw
   case rel=>exact⟨i+1,by omega,by simp,HN,HBn,HLn,HQn⟩
   case measure=>simp[intOf];omega
  ·obtain rfl:i=G.length:=by omega
   obtain⟨cur,hcur,hcj⟩:=HCUr.out;have hI:¬ (G.length:Int)<(G.length:Int):=by omega
   have hcv:(convert 47 9 (.slice (some ⟨g,0,none⟩) G.length cap)).run Tryz.prog wr=.ok (.string (zAc (G.map dig))) wr:=zAN wr g 0 G.length cap (G.map dig) (by simp) (fun i hi=>by
    rw[Nat.zero_add,hcur.cell,hcj i hi];have hjl:G[i]?=some (G.getD i 0):=by rw[zw,zZ hi];rfl
    have h9:=HD9.out (G.getD i 0) (List.mem_of_getElem? hjl);congr 2;unfold ltr;have e2:(G.map dig).getD i 0=dig (G.getD i 0):=by rw[zw,List.getElem?_map,hjl];rfl
    rw[if_pos hi,e2,zA4 h9])
   have q1:wr.cell? ⟨Q,1,none⟩=some (.string ⟨#[]⟩):=HQr.out.cell 1;have q1f:=HQr.out.free 1;have HQC:=zz (HQr.out.set 1 (.string (zAc (G.map dig))));have HBC:=zz (HBr.out.setCell (p:=⟨Q,1,none⟩) (Nat.le_of_lt HQW.out.1) (.string (zAc (G.map dig))));have HLC:=zz (HBLr.out.set_other ⟨Q,1,none⟩ (.string (zAc (G.map dig))) (by have:=HQW.out;simp;omega));clear hcur hcj HCUr HBr HBLr HQr;obtain⟨TX,hTX⟩:∃ TX,TX=zAc (G.map dig):=⟨_,rfl⟩;rw[<-hTX] at hcv HQC HBC HLC;have HTX:=zz hTX;clear hTX;go_upto_region 18 with fail
   clear q1 q1f hcv;generalize wr.setCell ⟨Q,1,none⟩ (.string TX)=wc at HQC HBC HLC ⊢;have z0:wc.cell? ⟨Q,0,none⟩=some (.bool ng):=HQC.out.cell 0;have z1:wc.cell? ⟨Q,1,none⟩=some (.string TX):=HQC.out.cell 1;have z2:wc.cell? ⟨Q,2,none⟩=some (.int .i64 pt):=HQC.out.cell 2;have y0:wc.cell? ⟨w.heap.size,0,none⟩=some (.bool false):=HLC.out.cell 0;have y1:wc.cell? ⟨w.heap.size,1,none⟩=some (.string ⟨#[]⟩):=HLC.out.cell 1;have y2:wc.cell? ⟨w.heap.size,2,none⟩=some (.int .i64 0):=HLC.out.cell 2;have g0:=HLC.out.free 0;have g1:=HLC.out.free 1;have g2:=HLC.out.free 2;go_wp2;have HLD:=zz (((HLC.out.set 0 (.bool ng)).set 1 (.string TX)).set 2 (.int .i64 pt));have HBD:=zz (((HBC.out.setCell (p:=⟨w.heap.size,0,none⟩) (zQ _) (.bool ng)).setCell (p:=⟨w.heap.size,1,none⟩) (zQ _) (.string TX)).setCell (p:=⟨w.heap.size,2,none⟩) (zQ _) (.int .i64 pt));clear z0 z1 z2 y0 y1 y2 g0 g1 g2;generalize ((wc.setCell ⟨w.heap.size,0,none⟩ (.bool ng)).setCell ⟨w.heap.size,1,none⟩ (.string TX)).setCell ⟨w.heap.size,2,none⟩ (.int .i64 pt)=wd at HLD HBD ⊢;have y0:wd.cell? ⟨w.heap.size,0,none⟩=some (.bool ng):=HLD.out.cell 0;have y1:wd.cell? ⟨w.heap.size,1,none⟩=some (.string TX):=HLD.out.cell 1;have y2:wd.cell? ⟨w.heap.size,2,none⟩=some (.int .i64 pt):=HLD.out.cell 2;refine bodyPost_ret (v:=.tuple #[.agg #[.bool ng,.string TX,.int .i64 pt],.bool true]) (by simp[results,Tryz.results83,go_sem,y0,y1,y2]) rfl ⟨?_,HBD.out,?_,HPB.out⟩
   ·rw[HTX.out,HFG.out,HPT.out]
   ·rw[<-HFG.out];exact HGb.out
section
variable {P:Program} {ops:Array Oper} {Q:Exit->Act->World->Prop} {md:Region.Mode} {S:Array Bool->World->Prop}
theorem zP7{i j:Nat}{oi oj:Oper}{n:Nat}{u:Array Bool}{a:Act}{w:World}(hr:Region.ready md ops u=[i,j])(hoi:ops[i]?=some oi)(hoj:ops[j]?=some oj)
  (h1:∀ K':Act->World->Prop,Shut (∀ a w,S (u.setIfInBounds i true) w->(S (u.setIfInBounds i true) w->zBU P md ops Q S n (u.setIfInBounds i true) a w)->K' a w)->if Region.wanted oi (yielded ops a.tmps)=true then Oper.wp P oi a w K' Q else K' (a.put oi.dst undef) w)
  (h2:∀ K':Act->World->Prop,Shut (∀ a w,S (u.setIfInBounds j true) w->(S (u.setIfInBounds j true) w->zBU P md ops Q S n (u.setIfInBounds j true) a w)->K' a w)->if Region.wanted oj (yielded ops a.tmps)=true then Oper.wp P oj a w K' Q else K' (a.put oj.dst undef) w) :
  zBU P md ops Q S (n+1) u a w:=by
 refine⟨fun h0=>(by rw[hr] at h0;cases h0),fun k hk=>?_⟩;rw[hr] at hk;rcases List.mem_cons.1 hk with rfl|hk
 ·exact wpOp_step hoi (fun K' hK=>h1 K' (fun a w hS hW=>hK a w ⟨hS,hW hS⟩))
 ·obtain rfl:=List.mem_singleton.1 hk;exact wpOp_step hoj (fun K' hK=>h2 K' (fun a w hS hW=>hK a w ⟨hS,hW hS⟩))
end
theorem zHB:∀ (k x:Nat),x<10 ^ (k+1)->(zGr x).length<=k+1
 | 0,x,h=>by rw[zGr,if_pos (by omega)];simp
 | k+1,x,h=>by
  rw[zGr]
  split
  ·simp
  ·rw[List.length_append];have:=zHB k (x / 10) (by rw[Nat.pow_succ] at h;omega);simp;omega
theorem zB6{x:Nat}(h:x<18446744073709551616):(zAZ x).length<=20:=by
 unfold zAZ;rw[List.length_map];exact zHB 19 x (by omega)
theorem zCb{n:Nat}(h:n<10):zAZ n=[dig n]:=by unfold zAZ;rw[zGr,if_pos h];rfl
theorem zFz{n:Nat}(h:¬ n<10):zAZ n=zAZ (n / 10) ++ [dig (n % 10)]:=by unfold zAZ;rw[zGr,if_neg h,List.map_append];rfl
theorem zHy(w:World)(b:Nat)(x:UInt8)(hc:w.cell? ⟨b,0,none⟩=some (.int .u8 (x.toNat:Int))):
  (convert 47 9 (.slice (some ⟨b,0,none⟩) 1 1)).run Tryz.prog w=.ok (.string (zAc [x])) w:=
 zAN w b 0 1 1 [x] rfl (fun i hi=>by
  have h0:i=0:=by omega
  subst h0;exact hc)
theorem zGb(n:Nat)(hn:n<10)(w:World):Calls Tryz.prog 141 #[.int .u64 (n:Int)] w fun e w'=>e=.returned (.string (zAc (zAZ n)))/\Below w.heap.size w w':=by
 rw[zCb hn];have h1:(n:Int)<10:=by omega
 have h2:IntKind.u64.wrap (48+(n:Int))=48+(n:Int):=by rw[IntKind.wrap_u64];omega
 have h3:IntKind.u8.wrap (48+(n:Int))=48+(n:Int):=by rw[IntKind.wrap_u8];omega
 have hd:((dig n).toNat:Int)=48+(n:Int):=by rw[zA4 (by omega)];omega
 have hb:Below w.heap.size w (w.alloc (.cells #[.int .u8 (48+(n:Int))] 5)):=(zK _ _).alloc (zQ _) _;have hcv:=zHy (w.alloc (.cells #[.int .u8 (48+(n:Int))] 5)) w.heap.size (dig n) (by rw[(Blk.new w #[.int .u8 (48+(n:Int))] 5).cell,hd];rfl);have HB:=zz hb;clear hn hd hb;generalize dig n=x at *;generalize (n:Int)=N at *;go_enter Tryz.func141,Tryz.ntmps141
 go_wp2;go_ret;exact⟨rfl,HB.out⟩
theorem zJe(w:World)(x:Nat)(hx:x<=9):Calls Tryz.prog 139 #[.int .u8 ((dig x).toNat:Int)] w fun e w'=>e=.returned (.bool true)/\w'=w:=by
 rw[zA4 hx];have h1:(48:Int)<=((48+x:Nat):Int):=by omega
 have h2:((48+x:Nat):Int)<=57:=by omega
 generalize ((48+x:Nat):Int)=X at *;go_enter Tryz.func139,Tryz.ntmps139
 go_wp2;go_ret;exact⟨rfl,rfl⟩
theorem zEV(n:Nat):n<18446744073709551616->∀ w:World,Calls Tryz.prog 141 #[.int .u64 (n:Int)] w fun e w'=>e=.returned (.string (zAc (zAZ n)))/\Below w.heap.size w w':=by
 induction n using Nat.strongRecOn with
 | ind n ih=>
  intro hn w;by_cases h10:n<10
  ·exact zGb n h10 w
  ·have HQ:=zz (fun w=>ih (n / 10) (by omega) (by omega) w);rw[zFz h10];have h1:¬ (n:Int)<10:=by omega
   have h4:(n:Int) / 10=((n / 10:Nat):Int):=by omega
   have h4':IntKind.u64.wrap ((n:Int) / 10)=((n / 10:Nat):Int):=by rw[IntKind.wrap_u64];omega
   have h4'':IntKind.u64.wrap ((n / 10:Nat):Int)=((n / 10:Nat):Int):=by rw[IntKind.wrap_u64];omega
   have h4t:IntKind.u64.wrap ((n:Int).tdiv 10)=((n / 10:Nat):Int):=by rw[Int.tdiv_eq_ediv_of_nonneg (by omega)];exact h4'
   have h5t:(n:Int).tmod 10=((n % 10:Nat):Int):=by rw[Int.tmod_eq_emod_of_nonneg (by omega)];omega
   have hsz:(zAc (zAZ (n / 10))).size+(zAc [dig (n % 10)]).size<=9223372036854775807:=by
    rw[zAg,zAg];have:=zB6 (x:=n / 10) (by omega);simp only[List.length_singleton];omega
   have h5:(n:Int) % 10=((n % 10:Nat):Int):=by omega
   have h5':IntKind.u64.wrap ((n % 10:Nat):Int)=((n % 10:Nat):Int):=by rw[IntKind.wrap_u64];omega
   have h2:IntKind.u64.wrap (48+((n % 10:Nat):Int))=48+((n % 10:Nat):Int):=by rw[IntKind.wrap_u64];omega
   have h3:IntKind.u8.wrap (48+((n % 10:Nat):Int))=48+((n % 10:Nat):Int):=by rw[IntKind.wrap_u8];omega
   have hd:((dig (n % 10)).toNat:Int)=48+((n % 10:Nat):Int):=by rw[zA4 (by omega)];omega
   have HCV:Hid (∀ w b,w.cell? ⟨b,0,none⟩=some (.int .u8 (48+((n % 10:Nat):Int)))->(convert 47 9 (.slice (some ⟨b,0,none⟩) 1 1)).run Tryz.prog w=.ok (.string (zAc [dig (n % 10)])) w):=zz (fun w b h=>zHy w b _ (by rw[hd];exact h));clear ih hn h10 hd;generalize zAZ (n / 10)=T at *;generalize dig (n % 10)=x at *;generalize ((n / 10:Nat):Int)=Nq at *;generalize ((n % 10:Nat):Int)=Nr at *;generalize (n:Int)=N at *;go_enter Tryz.func141,Tryz.ntmps141
   go_upto_region 3 with fail
   obtain⟨w0,hw0⟩:∃ w0,w0=w.drew:=⟨_,rfl⟩;have HB0:Hid (Below w.heap.size w w0):=zz (by rw[hw0];exact zAd (zK w.heap.size w) 1);refine wp_region_noPanic ?_;refine zDb (S:=fun _ _=>True) (by kernel_rfl) ?_;rw[<-hw0];clear hw0;refine zAp (d:=some 10) (hd:=by rfl) (i:=0) (oi:=_) (v:=.int .u64 N) rfl (by kernel_rfl) (by kernel_rfl) (by kernel_rfl) (fun _ _ _ h=>h) (fun _ _=>Iff.rfl) (Or.inl ⟨by rfl,fun w' _=>?_⟩) trivial (fun _=>?_)
   ·go_simp
   try simp only[Act.put,zy,zq,zj]
   refine zAp (d:=some 11) (hd:=by rfl) (i:=1) (oi:=_) (v:=.int .u64 Nq) rfl (by kernel_rfl) (by kernel_rfl) (by kernel_rfl) (fun _ _ _ h=>h) (fun _ _=>Iff.rfl) (Or.inl ⟨by rfl,fun w' _=>?_⟩) trivial (fun _=>?_)
   ·go_simp
   try simp only[Act.put,zy,zq,zj]
   refine zAp (d:=some 13) (hd:=by rfl) (i:=3) (oi:=_) (v:=.int .u64 N) rfl (by kernel_rfl) (by kernel_rfl) (by kernel_rfl) (fun _ _ _ h=>h) (fun _ _=>Iff.rfl) (Or.inl ⟨by rfl,fun w' _=>?_⟩) trivial (fun _=>?_)
   ·go_simp
   try simp only[Act.put,zy,zq,zj]
   refine zAp (d:=some 14) (hd:=by rfl) (i:=4) (oi:=_) (v:=.int .u64 Nr) rfl (by kernel_rfl) (by kernel_rfl) (by kernel_rfl) (fun _ _ _ h=>h) (fun _ _=>Iff.rfl) (Or.inl ⟨by rfl,fun w' _=>?_⟩) trivial (fun _=>?_)
   ·go_simp
   try simp only[Act.put,zy,zq,zj]
   refine zAp (d:=some 15) (hd:=by rfl) (i:=5) (oi:=_) (v:=.int .u64 (48+Nr)) rfl (by kernel_rfl) (by kernel_rfl) (by kernel_rfl) (fun _ _ _ h=>h) (fun _ _=>Iff.rfl) (Or.inl ⟨by rfl,fun w' _=>?_⟩) trivial (fun _=>?_)
   ·go_simp
   try simp only[Act.put,zy,zq,zj]
   refine zAp (d:=some 16) (hd:=by rfl) (i:=6) (oi:=_) (v:=.int .u8 (48+Nr)) rfl (by kernel_rfl) (by kernel_rfl) (by kernel_rfl) (fun _ _ _ h=>h) (fun _ _=>Iff.rfl) (Or.inl ⟨by rfl,fun w' _=>?_⟩) trivial (fun _=>?_)
   ·go_simp
   try simp only[Act.put,zy,zq,zj]
   refine zP7 (i:=2) (j:=7) (oi:=_) (oj:=_) (by kernel_rfl) rfl rfl (fun K hK=>?_) (fun K hK=>?_)
   ·go_simp;refine (HQ.out w0).mono ?_;rintro e w1 ⟨rfl,hb1⟩;have HB1:=zz hb1;clear hb1;go_wp2_with fail
    refine hK.out _ _ trivial (fun _=>?_);clear hK K
    try simp only[Act.put,zy,zq,zj]
    refine zBr (i:=7) (o:=_) (by kernel_rfl) rfl (fun K hK=>?_);go_simp;go_wp2_with fail
    refine hK.out _ _ trivial (fun _=>?_);clear hK K
    try simp only[Act.put,zy,zq,zj]
    refine zBr (i:=8) (o:=_) (by kernel_rfl) rfl (fun K hK=>?_);have hcv:=HCV.out (w1.alloc (.cells #[.int .u8 (48+Nr)] 5)) w1.heap.size (by rw[(Blk.new w1 _ _).cell];rfl);go_simp;go_wp2_with fail
    clear hcv;refine hK.out _ _ trivial (fun _=>?_);clear hK K
    try simp only[Act.put,zy,zq,zj]
    refine zBr (i:=9) (o:=_) (by kernel_rfl) rfl (fun K hK=>?_);go_simp;go_wp2_with fail
    refine hK.out _ _ trivial (fun _=>?_);clear hK K
    try simp only[Act.put,zy,zq,zj]
    refine zBr (i:=10) (o:=_) (by kernel_rfl) rfl (fun K hK=>?_);go_simp;go_wp2_with fail
    refine hK.out _ _ trivial (fun _=>?_);clear hK K
    try simp only[Act.put,zy,zq,zj]
    refine zED (by kernel_rfl) ?_ _;refine NoPanic.normal ?_;have HBz:Hid (Below w.heap.size w (w1.alloc (.cells #[.int .u8 (48+Nr)] 5))):=zz ((HB0.out.trans (HB1.out.mono HB0.out.size)).alloc (zJ HB0.out.size HB1.out.size) _);go_wp2;go_ret;refine⟨?_,HBz.out⟩;show Ending.returned (Value.string (zAc T ++ zAc [x]))=_;rw[zBm]
   ·go_simp;go_wp2_with fail
    refine hK.out _ _ trivial (fun _=>?_);clear hK K
    try simp only[Act.put,zy,zq,zj]
    refine zP7 (i:=2) (j:=8) (oi:=_) (oj:=_) (by kernel_rfl) rfl rfl (fun K hK=>?_) (fun K hK=>?_)
    ·go_simp;refine (HQ.out (w0.alloc (.cells #[.int .u8 (48+Nr)] 5))).mono ?_;rintro e w1 ⟨rfl,hb1⟩;have HB1:=zz hb1;clear hb1;go_wp2_with fail
     refine hK.out _ _ trivial (fun _=>?_);clear hK K
     try simp only[Act.put,zy,zq,zj]
     refine zBr (i:=8) (o:=_) (by kernel_rfl) rfl (fun K hK=>?_);have hcv:=HCV.out (w1) w0.heap.size (by rw[HB1.out.cell (p:=⟨w0.heap.size,0,none⟩) (by simp),(Blk.new w0 _ _).cell];rfl);go_simp;go_wp2_with fail
     clear hcv;refine hK.out _ _ trivial (fun _=>?_);clear hK K
     try simp only[Act.put,zy,zq,zj]
     refine zBr (i:=9) (o:=_) (by kernel_rfl) rfl (fun K hK=>?_);go_simp;go_wp2_with fail
     refine hK.out _ _ trivial (fun _=>?_);clear hK K
     try simp only[Act.put,zy,zq,zj]
     refine zBr (i:=10) (o:=_) (by kernel_rfl) rfl (fun K hK=>?_);go_simp;go_wp2_with fail
     refine hK.out _ _ trivial (fun _=>?_);clear hK K
     try simp only[Act.put,zy,zq,zj]
     refine zED (by kernel_rfl) ?_ _;refine NoPanic.normal ?_;have HBz:Hid (Below w.heap.size w (w1)):=zz ((HB0.out.alloc HB0.out.size _).trans (HB1.out.mono (HB0.out.alloc HB0.out.size _).size));go_wp2;go_ret;refine⟨?_,HBz.out⟩;show Ending.returned (Value.string (zAc T ++ zAc [x]))=_;rw[zBm]
    ·have hcv:=HCV.out (w0.alloc (.cells #[.int .u8 (48+Nr)] 5)) w0.heap.size (by rw[(Blk.new w0 _ _).cell];rfl);go_simp;go_wp2_with fail
     clear hcv;refine hK.out _ _ trivial (fun _=>?_);clear hK K
     try simp only[Act.put,zy,zq,zj]
     refine zBr (i:=2) (o:=_) (by kernel_rfl) rfl (fun K hK=>?_);go_simp;refine (HQ.out (w0.alloc (.cells #[.int .u8 (48+Nr)] 5))).mono ?_;rintro e w1 ⟨rfl,hb1⟩;have HB1:=zz hb1;clear hb1;go_wp2_with fail
     refine hK.out _ _ trivial (fun _=>?_);clear hK K
     try simp only[Act.put,zy,zq,zj]
     refine zBr (i:=9) (o:=_) (by kernel_rfl) rfl (fun K hK=>?_);go_simp;go_wp2_with fail
     refine hK.out _ _ trivial (fun _=>?_);clear hK K
     try simp only[Act.put,zy,zq,zj]
     refine zBr (i:=10) (o:=_) (by kernel_rfl) rfl (fun K hK=>?_);go_simp;go_wp2_with fail
     refine hK.out _ _ trivial (fun _=>?_);clear hK K
     try simp only[Act.put,zy,zq,zj]
     refine zED (by kernel_rfl) ?_ _;refine NoPanic.normal ?_;have HBz:Hid (Below w.heap.size w (w1)):=zz ((HB0.out.alloc HB0.out.size _).trans (HB1.out.mono (HB0.out.alloc HB0.out.size _).size));go_wp2;go_ret;refine⟨?_,HBz.out⟩;show Ending.returned (Value.string (zAc T ++ zAc [x]))=_;rw[zBm]
end Go.Proofs.YtcanfakaigpkgaaGreatDoor.D
