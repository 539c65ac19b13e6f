/-
  Of the proof that the law DiagUnlike answers true at every two values: a part, without conditions of its own.
-/
import Derived.Test.YtcanfakaigpkgaaGreatDoorPart14
import Derived.Test.YtcanfakaigpkgaaGreatDoorPart12
set_option linter.unusedVariables false
set_option linter.unusedSimpArgs false
set_option maxRecDepth 100000
set_option maxHeartbeats 8000000
namespace Go.Proofs.YtcanfakaigpkgaaGreatDoor.D
open Go Go.RowKit Limb
theorem zJ5(w:World)(hG:zAK w)(hC:zHe w)(N:Nat)(f:F)(d:Nat)(v:Value)(hN:N<=w.heap.size)(hT:zAU w N f d v)(hd:d<=128):
  Calls Tryz.prog 12 #[v] w fun e w'=>e=.returned .nilIface/\Below w.heap.size w w':=by
 obtain⟨kind,nn,mb,mn,mc,bits,ext,text,kb,kn,kc,rfl⟩:=hT.cells;have hb:Below w.heap.size w (w.alloc (.cells (zAa kind nn false (.slice mb mn mc) bits ext (zAc text) (.slice kb kn kc)) 31)):=(zK _ _).alloc (zQ _) _;have hB:=Blk.new w (zAa kind nn false (.slice mb mn mc) bits ext (zAc text) (.slice kb kn kc)) 31;have hG1:=hG.below hb hG.size;have hC1:=hC.below hb hC.size;have hT1:=zAU.below (hb.mono hN) _ _ _ hT;have HW1:=zz (zGX _ hG1 hC1 N f d _ (zJ hN hb.size) hT1 hd);have HT1:=zz hT1;have HB:=zz hb;have HBl:=zz hB;have HN:=zz hN;clear hG hC hT hb hB hG1 hC1 hT1 hN;go_enter Tryz.func12,Tryz.ntmps12
 go_upto_region 1 with fail
 refine wp_region_lit ?_;refine wpList_load_row rfl 31 _ rfl w.heap.size rfl 31 _ (0,0) _ HBl.out Tryz.underlying31 rfl (by kernel_rfl) ?_;go_wp2_with fail
 refine HW1.out.mono ?_;rintro e w2 ⟨rfl,hb2⟩;have HBl2:=zz (HBl.out.below hb2 HBl.out.lt);have HB2:=zz (HB.out.trans (hb2.mono HB.out.size));have HW2:=zz (zHj w2 N f d _ (zJ HN.out HB2.out.size) (zAU.below (hb2.mono (zJ HN.out HB.out.size)) _ _ _ HT1.out) hd);clear hb2 HBl HB HW1;go_upto_region 4 with fail
 refine wp_region_lit ?_;refine wpList_load_row rfl 31 _ rfl w.heap.size rfl 31 _ (0,0) _ HBl2.out Tryz.underlying31 rfl (by kernel_rfl) ?_;go_wp2_with fail
 refine HW2.out.mono ?_;rintro e w3 ⟨rfl,hb3⟩;have HB3:=zz (HB2.out.trans (hb3.mono HB2.out.size));clear hb3 HW2;go_wp2;go_ret;exact⟨rfl,HB3.out⟩
theorem zLr(N:Nat):∀ (f:F) (d:Nat) (v:Value) (w:World),N<=w.heap.size->d<=1000->zAU w N f d v->Calls Tryz.prog 152 #[v] w fun e w'=>e=.returned (.int .i64 (d:Int))/\Below w.heap.size w w':=by
 intro f
 induction f with
 | stop=>intro d v w _ _ h;exact h.elim
 | node t X fs ih=>
  intro d v w hN hd hT;have HIH:=zz ih;clear ih;obtain⟨kind,nn,mb,mn,mc,bits,ext,text,kb,kn,kc,rfl⟩:=hT.cells;have hb:Below w.heap.size w (w.alloc (.cells (zAa kind nn false (.slice mb mn mc) bits ext (zAc text) (.slice kb kn kc)) 31)):=(zK _ _).alloc (zQ _) _;have hB:=Blk.new w (zAa kind nn false (.slice mb mn mc) bits ext (zAc text) (.slice kb kn kc)) 31;have HB:=zz hb;have HBl:=zz hB;have HN:=zz hN;clear hb hB hN;rcases hT.kind with ⟨rfl,k7,k8,k9⟩|⟨h0,hk⟩
  ·clear hT;have HK:=zz (zBB (w.alloc (.cells (zAa kind nn false (.slice mb mn mc) bits ext (zAc text) (.slice kb kn kc)) 31)) kind nn false (.slice mb mn mc) bits ext (zAc text) (.slice kb kn kc) k7 k8 k9);clear k7 k8 k9;go_enter Tryz.func152,Tryz.ntmps152
   go_upto_region 1 with fail
   refine wp_region_lit ?_;refine wpList_load_row rfl 31 _ rfl w.heap.size rfl 31 _ (0,0) _ HBl.out Tryz.underlying31 rfl (by kernel_rfl) ?_;go_wp2_with fail
   refine HK.out.mono ?_;rintro e w1 ⟨rfl,hb1⟩;have HB1:=zz (HB.out.trans (hb1.mono HB.out.size));clear hb1;go_wp2;go_ret;exact⟨rfl,HB1.out⟩
  ·have HK:=zz (zBh (w.alloc (.cells (zAa kind nn false (.slice mb mn mc) bits ext (zAc text) (.slice kb kn kc)) 31)) kind nn false (.slice mb mn mc) bits ext (zAc text) (.slice kb kn kc) hk);obtain⟨kind',n',mag',bits',ext',text',kids',m,hv,hf,_,hkk⟩:=hT
   have hkids:kids'=.slice kb kn kc:=by
    simp only[zAa,Value.agg.injEq] at hv;have:=congrArg (fun a:Array Value=>a[7]?) hv;simp at this;exact this.symm
   subst hkids;rcases hkk with ⟨_,_,rfl⟩|⟨hm0,b,o,cap,xs,ds,hks,hmc,hcap,hbN,hrow,hkid,hex⟩
   ·omega
   ·simp only[Value.slice.injEq] at hks;obtain⟨rfl,rfl,rfl⟩:=hks;have HROW:=zz hrow;have HKID:=zz hkid;have HEX:=zz hex;clear hv hf hk hrow hkid hex;go_enter Tryz.func152,Tryz.ntmps152
    go_upto_region 1 with fail
    refine wp_region_lit ?_;refine wpList_load_row rfl 31 _ rfl w.heap.size rfl 31 _ (0,0) _ HBl.out Tryz.underlying31 rfl (by kernel_rfl) ?_;go_wp2_with fail
    refine HK.out.mono ?_;rintro e w1 ⟨rfl,hb1⟩;have hBl1:=HBl.out.below hb1 HBl.out.lt;have HB1:=zz (HB.out.trans (hb1.mono HB.out.size));have c7:=hBl1.cell 7;simp only[zAa,zv,zk,zx] at c7;clear hb1 hBl1 HBl HB HK;go_wp2;go_loopw [3,5,12] (fun q _ i wr=>∃ (k qn:Nat),k<=kn/\i=.int .i64 k/\q=.int .i64 (qn:Int)/\qn<d/\Hid (∀ i,i<k->ds i<=qn)/\Hid (Below w.heap.size w wr)) (fun _ _ i _=>kn - (intOf i).toNat)
    case atStart=>exact⟨0,0,by omega,rfl,rfl,h0,zz (fun i hi=>by omega),HB1⟩
    case round=>
     clear c7;obtain⟨k,qn,hkm,rfl,rfl,hqd,HQ,HBr⟩:=hrel;by_cases h1:k<kn
     ·have hTk:=zAU.below (HBr.out.mono HN.out) _ _ _ (HKID.out k h1).1;have hdk:=(HKID.out k h1).2;obtain⟨hx8,hxc⟩:=(HROW.out.below (HBr.out.mono HN.out) hbN) k h1;obtain⟨kind',nn',mb',mn',mc',bits',ext',text',kb',kn',kc',hxk⟩:=hTk.cells;have HTK:=zz hTk;simp only[Value.agg.injEq] at hxk;rw[hxk] at hxc HTK;have d0:=hxc 0 (by omega);have d1:=hxc 1 (by omega);have d2:=hxc 2 (by omega);have d3:=hxc 3 (by omega);have d4:=hxc 4 (by omega);have d5:=hxc 5 (by omega);have d6:=hxc 6 (by omega);have d7:=hxc 7 (by omega);simp only[zAa,zv,zk,zx,Nat.add_zero] at d0 d1 d2 d3 d4 d5 d6 d7;clear hx8 hxc hxk hTk;have g1:(k:Int)<(kn:Int):=by omega
      have hby:Below wr.heap.size wr (wr.alloc (.cells (zAa kind' nn' false (.slice mb' mn' mc') bits' ext' (zAc text') (.slice kb' kn' kc')) 31)):=(zK _ _).alloc (zQ _) _;have hbl:=Blk.new wr (zAa kind' nn' false (.slice mb' mn' mc') bits' ext' (zAc text') (.slice kb' kn' kc')) 31;have hNr:N<=wr.heap.size:=zJ HN.out HBr.out.size;have HC:=zz (HIH.out k (ds k) _ _ (zJ hNr hby.size) (by omega) (zAU.below (hby.mono hNr) _ _ _ HTK.out));have HBY:=zz hby;have HBL:=zz hbl;clear hby hbl;go_upto_region 7 with fail
      change Code.wp _ _ _ _ (wr.alloc (.cells (zAa kind' nn' false (.slice mb' mn' mc') bits' ext' (zAc text') (.slice kb' kn' kc')) 31));clear d0 d1 d2 d3 d4 d5 d6 d7;refine wp_region_lit ?_;iterate 3 go_step
      refine wpList_load_row rfl 31 _ rfl wr.heap.size rfl 31 _ (0,0) _ HBL.out Tryz.underlying31 rfl (by kernel_rfl) ?_;go_wp2_with fail
      refine HC.out.mono ?_;rintro e w5 ⟨rfl,hb5⟩;have HB5:=zz (HBr.out.trans ((HBY.out.trans (hb5.mono HBY.out.size)).mono HBr.out.size));clear hb5 HC;go_wp2;go_roundw
      case rel=>exact⟨k+1,max qn (ds k),by omega,by simp,by congr 1;omega,by omega,zz (fun i hi=>by
       rcases Nat.lt_or_ge i k with h|h
       ·have:=HQ.out i h;omega
       ·rw[show i=k by omega];omega),HB5⟩
      case measure=>simp[intOf];omega
     ·obtain rfl:k=kn:=by omega
      have g1:¬ (k:Int)<(k:Int):=by omega
      have hqe:qn+1=d:=by
       obtain⟨i,hi,he⟩:=HEX.out;have:=HQ.out i hi;omega
      have g2:IntKind.i64.wrap ((qn:Int)+1)=(qn:Int)+1:=zY _ (by omega);have HQE:=zz hqe;clear hqe;go_wp2;go_ret;refine⟨?_,HBr.out⟩;rw[<-HQE.out];simp
theorem zPA(w:World)(x:Nat)(hx:x<4294967296):
  Calls Tryz.prog 245 #[.int .u32 (x:Int)] w fun e w'=>e=.returned (.int .i64 ((32 - zA7 x:Nat):Int))/\w'=w:=by
 have hb:=zCF (k:=32) hx;have HL:=zz (Tryz.bits_Len32 (x:Int) w (by omega) (by omega));rw[Int.toNat_natCast,zEj _ hx] at HL;have g1:IntKind.i64.wrap (32 - (zA7 x:Int))=((32 - zA7 x:Nat):Int):=by rw[zY _ (by omega)];omega
 generalize ((32 - zA7 x:Nat):Int)=z at *;generalize zA7 x=y at *;go_enter Tryz.func245,Tryz.ntmps245
 go_wp2_with fail
 refine HL.out.mono ?_;rintro e w2 ⟨rfl,rfl⟩;go_wp2;go_ret;exact⟨rfl,rfl⟩
theorem zMd(X Z:List Nat)(j:Nat)(h:j<=X.length):((win X Z j).drop j).take Z.length=Z:=by
 unfold win;rw[List.drop_append_of_le_length (by simp;omega),List.drop_of_length_le (by simp;omega),List.nil_append,List.take_left]
theorem zOl(X Z Z2:List Nat)(j:Nat)(h:j+Z.length<=X.length)(hl:Z2.length=Z.length):win (win X Z j) Z2 j=win X Z2 j:=by
 have h1:(win X Z j).take j=X.take j:=by
  unfold win;rw[List.take_append_of_le_length (by simp;omega),List.take_take,Nat.min_self]
 have h2:(win X Z j).drop (j+Z.length)=X.drop (j+Z.length):=by
  unfold win;rw[<-List.append_assoc];have e:(X.take j ++ Z).length=j+Z.length:=by simp;omega
  rw[<-e,List.drop_left]
 show (win X Z j).take j ++ (Z2 ++ (win X Z j).drop (j+Z2.length))=X.take j ++ (Z2 ++ X.drop (j+Z2.length));rw[hl,h1,h2]
theorem zDM(b n u:Nat)(hn:n=(zAb b).length)(h1:1<=n)(hu:u=32 - zA7 ((zAb b).getD (n - 1) 0)):
  u<=31/\2 ^ u*b<4294967296 ^ n/\2147483648*4294967296 ^ (n - 1)<=2 ^ u*b:=by
 have hb:b≠0:=by rintro rfl;rw[zAn] at hn;simp at hn;omega
 have h2:=zE5 hb;rw[<-hn] at h2;have h3:=zEO hb;rw[<-hn] at h3;have h4:=zBt _ h3;have h5:=zAw (zAB b) (n - 1) (by omega);have h6:=zCF (k:=32) h5;have h7:=zBt b hb;generalize zA7 ((zAb b).getD (n - 1) 0)=t at *;refine⟨by omega,?_,?_⟩
 ·have h8:2 ^ u*b<2 ^ u*2 ^ zA7 b:=Nat.mul_lt_mul_of_pos_left h7.2.2 (Nat.two_pow_pos u);rw[<-Nat.pow_add,show u+zA7 b=32*n by omega,<-zD3] at h8;exact h8
 ·have h8:2 ^ u*2 ^ (zA7 b - 1)<=2 ^ u*b:=Nat.mul_le_mul_left _ h7.2.1;rw[<-Nat.pow_add,show u+(zA7 b - 1)=31+32*(n - 1) by omega,Nat.pow_add,<-zD3] at h8;exact h8
theorem zNn(u:Nat)(a:List Nat)(hu:u<=32):val (shL u 0 (a ++ [0]))=2 ^ u*val a:=by
 rw[zLf u 0 _ hu (by rw[<-List.cons_append,List.getLast?_append];simp),Nat.zero_div,Nat.add_zero,zA3];simp[val]
theorem zJC(b n u:Nat)(hn:n=(zAb b).length)(h2:2<=n)(hu:u=32 - zA7 ((zAb b).getD (n - 1) 0))(Y:List Nat)(hY:Y=shL u 0 (zAb b ++ [0])):
  Y.length=n+1/\Fit Y/\val (Y.take n)=2 ^ u*b/\2147483648<=Y.getD (n - 1) 0/\2 ^ u*b<4294967296 ^ n:=by
 obtain⟨h3,h4,h5⟩:=zDM b n u hn (by omega) hu;have hl:Y.length=n+1:=by rw[hY,zAL,List.length_append,<-hn];rfl
 have hf:Fit Y:=by rw[hY];exact zGS u 0 _ (by omega) (by decide) (zCN (zAB b) 0 (by decide))
 have hv:val Y=2 ^ u*b:=by rw[hY,zNn u _ (by omega),zAe]
 have h0:Y.getD n 0=0:=zCt (by omega) (by rw[hv];exact h4)
 have ht:val (Y.take n)=2 ^ u*b:=by
  have h6:=zAt Y n;rw[List.take_of_length_le (by omega),hv,h0] at h6;omega
 refine⟨hl,hf,ht,?_,h4⟩;have h6:=zAt Y (n - 1);rw[show n - 1+1=n by omega,ht] at h6;have h7:=zBY (zBI hf (n - 1));rw[List.length_take,Nat.min_eq_left (by omega)] at h7;rcases Nat.lt_or_ge (Y.getD (n - 1) 0) 2147483648 with h8|h8
 ·exfalso
  have h9:4294967296 ^ (n - 1)*(Y.getD (n - 1) 0+1)<=4294967296 ^ (n - 1)*2147483648:=Nat.mul_le_mul_left _ h8;rw[Nat.mul_add,Nat.mul_one] at h9;rw[Nat.mul_comm] at h5;omega
 ·exact h8
theorem zG5(a b n u:Nat)(hn:n=(zAb b).length)(h2:2<=n)(hu:u=32 - zA7 ((zAb b).getD (n - 1) 0))(hab:n<=(zAb a).length)(X:List Nat)(hX:X=shL u 0 (zAb a ++ [0])):
  zDZ (2 ^ u*a) (2 ^ u*b) n ((zAb a).length+1) X [] ((zAb a).length+1 - n):=by
 obtain⟨h3,h4,h5⟩:=zDM b n u hn (by omega) hu;have hl:X.length=(zAb a).length+1:=by rw[hX,zAL,List.length_append];rfl
 have hv:val X=2 ^ u*a:=by rw[hX,zNn u _ (by omega),zAe]
 refine⟨hl,by simp;omega,by rw[hX];exact zGS u 0 _ (by omega) (by decide) (zCN (zAB a) 0 (by decide)),fun x hx=>by simp at hx,by rw[hv];simp[val],?_⟩;have h6:=zBR X ((zAb a).length+1 - n) (by omega);rw[hv] at h6;have h7:=zBn a;have h8:2 ^ u*a<2 ^ 31*4294967296 ^ (zAb a).length:=Nat.lt_of_le_of_lt (Nat.mul_le_mul_right _ (Nat.pow_le_pow_right (by omega) h3)) (Nat.mul_lt_mul_of_pos_left h7 (by decide));have h9:(4294967296:Nat) ^ (zAb a).length=4294967296 ^ ((zAb a).length+1 - n)*4294967296 ^ (n - 1):=by rw[<-Nat.pow_add];congr 1;omega
 have h10:4294967296 ^ ((zAb a).length+1 - n)*val (X.drop ((zAb a).length+1 - n))<4294967296 ^ ((zAb a).length+1 - n)*(2147483648*4294967296 ^ (n - 1)):=by
  rw[h9] at h8
  have h11:(2:Nat) ^ 31*(4294967296 ^ ((zAb a).length+1 - n)*4294967296 ^ (n - 1))=4294967296 ^ ((zAb a).length+1 - n)*(2147483648*4294967296 ^ (n - 1)):=by
   rw[show (2:Nat) ^ 31=2147483648 from rfl,Nat.mul_left_comm]
  rw[h11] at h8;omega
 exact Nat.lt_of_lt_of_le (Nat.lt_of_mul_lt_mul_left h10) h5
theorem zMs(w:World)(v v2:Value)(a b:Nat)(h:zAf w v (zAb a))(h2:zAf w v2 (zAb b))(hn:2<=(zAb b).length)(hab:(zAb b).length<=(zAb a).length)(hl:(zAb a).length<=8589934592):
  Calls Tryz.prog 234 #[v,v2] w fun e w'=>Below w.heap.size w w'/\∃ q r,e=.returned (.tuple #[q,r,.bool true])/\zAf w' q (zAb (a / b))/\zAf w' r (zAb (a % b)):=by
 obtain⟨n,hnn⟩:∃ n,n=(zAb b).length:=⟨_,rfl⟩;obtain⟨la,hla⟩:∃ la,la=(zAb a).length:=⟨_,rfl⟩;obtain⟨u,hu⟩:∃ u,u=32 - zA7 ((zAb b).getD (n - 1) 0):=⟨_,rfl⟩;obtain⟨Y,hY⟩:∃ Y,Y=shL u 0 (zAb b ++ [0]):=⟨_,rfl⟩;obtain⟨X0,hX0⟩:∃ X0,X0=shL u 0 (zAb a ++ [0]):=⟨_,rfl⟩;have hu31:=(zDM b n u hnn (by omega) hu).1;have HYF:=zz (zJC b n u hnn (by omega) hu Y hY);have HXF:=zz (zG5 a b n u hnn (by omega) hu (by omega) X0 hX0);rw[<-hla] at HXF
 have HM1:Hid (∀ w,zAf w v (zAb a)->Calls Tryz.prog 246 #[v,.int .i64 (u:Int)] w fun e w'=>Below w.heap.size w w'/\∃ g cap,e=.returned (.slice (some ⟨g,0,none⟩) (la+1) cap)/\w.heap.size<=g/\la+1<=cap/\cap<=9223372036854775807/\zCi w' g X0):=zz (fun w h=>by
  rw[hX0,hla];exact zGp w v (zAb a) u h (by omega) (by omega))
 have HM2:Hid (∀ w,zAf w v2 (zAb b)->Calls Tryz.prog 246 #[v2,.int .i64 (u:Int)] w fun e w'=>Below w.heap.size w w'/\∃ g cap,e=.returned (.slice (some ⟨g,0,none⟩) (n+1) cap)/\w.heap.size<=g/\n+1<=cap/\cap<=9223372036854775807/\zCi w' g Y):=zz (fun w h=>by
  rw[hY,hnn];exact zGp w v2 (zAb b) u h (by omega) (by omega))
 rw[<-hnn] at hn hab;rw[<-hla] at hab hl;obtain⟨_,⟨_,hy⟩|⟨bk2,of2,c2,rfl,h21,h22,h23,h24⟩⟩:=id h2
 ·rw[hy] at hnn;simp at hnn;omega
 obtain⟨b1,c1,rfl⟩:=h.slice;have htop:=h24 (n - 1) (by omega);have HLZ:=zz (fun w=>zPA w ((zAb b).getD (n - 1) 0) (zAw (zAB b) (n - 1) (by omega)));rw[<-hu] at HLZ;have HA:=zz h;have HB:=zz h2;rw[<-hla,<-hnn] at *;clear h h2 h24 hY hX0 hla hnn;generalize (zAb b).getD (n - 1) 0=bt at htop HLZ;clear hu;obtain⟨m1,hm1⟩:∃ m1,m1=n - 1:=⟨_,rfl⟩;rw[<-hm1] at htop;have g1:IntKind.i64.wrap ((n:Int) - 1)=(m1:Int):=by rw[zY _ (by omega)];omega
 have g2:(m1:Int)<(n:Int):=by omega
 have HM:=zz hm1;clear hm1;go_enter Tryz.func234,Tryz.ntmps234
 go_wp2;go_step3
 go_wp2_with fail
 refine (HLZ.out w).mono ?_;rintro e w2 ⟨rfl,rfl⟩;clear htop HLZ;go_wp2_with fail
 refine (HM1.out w2 HA.out).mono ?_;rintro e w3 ⟨hb3,gx,cx,rfl,hgx,hcx,hcx2,hrx⟩;have HB3:=zz hb3;have HRX:=zz hrx;have hgx3:=hrx.lt;have HM2':=zz (HM2.out w3 (HB.out.below hb3));clear hb3 hrx HM1 HM2;go_wp2_with fail
 refine HM2'.out.mono ?_;rintro e w4 ⟨hb4,gy,cy,rfl,hgy,hcy,hcy2,hry⟩;have HB4:=zz (HB3.out.trans (hb4.mono HB3.out.size));have HRX4:=zz (HRX.out.below hb4 hgx3);have HRY4:=zz hry;have HNE:Hid (gy≠gx/\w2.heap.size<=gx/\w2.heap.size<=gy):=zz (by have:=HB3.out.size;omega);have hgx4:=HRX4.out.lt;have hgy4:=HRY4.out.lt;clear hb4 hry HRX HB3 HM2';obtain⟨N,hN⟩:∃ N,N=la+1 - n:=⟨_,rfl⟩;obtain⟨m2,hm2⟩:∃ m2,m2=n - 2:=⟨_,rfl⟩;have gN:IntKind.i64.wrap ((la:Int)+1 - (n:Int))=(N:Int):=by rw[zY _ (by omega)];omega
 have hmk:=zA2 w4 N (by omega);have hB:=Blk.new w4 (zAi (List.replicate N 0)) 139;have hb:Below w4.heap.size w4 (w4.alloc (.cells (zAi (List.replicate N 0)) 139)):=(zK _ _).alloc (zQ _) _;have hNb:N<=8589934592:=by omega
 have HN:=zz hN;have HM2:=zz hm2;have gs:n<=cy:=by omega
 have gs2:(n:Int)<=(cy:Int):=by omega
 have hm2n:IntKind.i64.wrap ((n:Int) - 2)=(m2:Int):=by rw[zY _ (by omega)];omega
 have hm2l:(m2:Int)<(n:Int):=by omega
 clear hN hm2;go_wp2;clear hmk;generalize w4.alloc (.cells (zAi (List.replicate N 0)) 139)=w5 at hB hb ⊢;obtain⟨hYl,hYf,hYv,hY1,hYb⟩:=HYF.out;have HX5:=zz (HRX4.out.below hb hgx4);have HY5:=zz (HRY4.out.below hb hgy4);have HB5:=zz (HB4.out.trans (hb.mono HB4.out.size));have HQ5:=zz hB;have HQN:Hid (w4.heap.size≠gx/\w4.heap.size≠gy/\w2.heap.size<=w4.heap.size):=zz (by have:=HB4.out.size;omega);generalize w4.heap.size=gq at HQ5 HQN ⊢;have hc1:w5.cell? ⟨gy,m1,none⟩=some (.int .u32 ((Y.getD m1 0:Nat):Int)):=HY5.out.cell m1 (by omega);have hc2:w5.cell? ⟨gy,m2,none⟩=some (.int .u32 ((Y.getD m2 0:Nat):Int)):=HY5.out.cell m2 (by omega);have hv1:=zAw hYf m1 (by omega);have hv2:=zAw hYf m2 (by omega);rw[<-HM.out] at hY1;obtain⟨V1,hV1⟩:∃ V1,V1=Y.getD m1 0:=⟨_,rfl⟩;obtain⟨V2,hV2⟩:∃ V2,V2=Y.getD m2 0:=⟨_,rfl⟩;have HV:=zz (And.intro hV1 hV2);rw[<-hV1] at hc1 hv1 hY1;rw[<-hV2] at hc2 hv2;have q1:IntKind.u64.wrap (V1:Int)=(V1:Int):=by rw[IntKind.wrap_u64];omega
 have q2:IntKind.u64.wrap (V2:Int)=(V2:Int):=by rw[IntKind.wrap_u64];omega
 clear hB hb HRX4 HRY4 HB4 hgx4 hgy4 hV1 hV2 hYl hYf hYv hYb;go_quiet (fail)
 have HX6:=zz (HX5.out.drewN nq);have HY6:=zz (HY5.out.drewN nq);have HB6:=zz (zAd HB5.out nq);have HQ6:=zz (HQ5.out.drewN nq);clear hc1 hc2 HX5 HY5 HB5 HQ5;generalize w5.drewN nq=w6 at HX6 HY6 HB6 HQ6 ⊢;have gN1:IntKind.i64.wrap ((N:Int) - 1)=(N:Int) - 1:=zY _ (by omega);go_wp2;go_step3
 go_wp2;go_loopw [13] (fun jv wr=>∃ (t:Nat) (X R:List Nat),t<=N/\jv=.int .i64 ((t:Int) - 1)/\Hid (zDZ (2 ^ u*a) (2 ^ u*b) n (la+1) X R t)/\Hid (zCi wr gx X)/\Hid (zCi wr gy Y)/\Hid (Blk wr gq (zAi (List.replicate t 0 ++ R)) 139)/\Hid (Below w2.heap.size w2 wr)) (fun jv _=>(intOf jv+1).toNat)
 case atStart=>exact⟨N,X0,[],zQ _,rfl,zz (by rw[HN.out];exact HXF.out),HX6,HY6,zz (by rw[List.append_nil];exact HQ6.out),HB6⟩
 case round=>
  clear HX6 HY6 HB6 HQ6;obtain⟨t,X,R,ht,rfl,HI,HX,HY,HQ,HW⟩:=hrel;rcases Nat.eq_zero_or_pos t with h0|h0
  ·subst h0;have hXl:=HI.out.len;have hrl:zAf wr (.slice (some ⟨gx,0,none⟩) n cx) ((X.drop 0).take n):=HX.out.limbs HI.out.fit 0 n cx (by omega) (by omega) hcx2;have hRl:=HI.out.lenR;have hQl:zAf wr (.slice (some ⟨gq,0,none⟩) N N) (List.replicate 0 0 ++ R):=Blk.limbs HQ.out (n:=N) (by rw[List.replicate_zero,List.nil_append];exact HI.out.fitR) (by simp;have:=HN.out;omega) (by omega);rw[List.replicate_zero,List.nil_append] at hQl;have hR2:R.length=N:=by have:=HN.out;omega
   have HQL:=zz hQl;have HDN:=zz (HI.out.done)
   have hxt:val ((X.drop 0).take n)=val X:=by
    have h1:=HI.out.lt;rw[List.drop_zero] at h1 ⊢;have h2:=zBR X n (by omega);have h3:=HYF.out.2.2.2.2;rcases Nat.eq_zero_or_pos (val (X.drop n)) with h4|h4
    ·rw[h4] at h2;omega
    ·exfalso
     have h5:4294967296 ^ n*1<=4294967296 ^ n*val (X.drop n):=Nat.mul_le_mul_left _ h4;omega
   have hsh:=zOw wr _ _ u hrl (by simp;omega) (by omega);rw[hxt,HDN.out.2] at hsh;have HSH:=zz hsh;have HRF:=zz HI.out.fitR;have gn0:(n:Int)<=(cx:Int):=by omega
   have gn1:n<=cx:=by omega
   clear hsh hxt hrl hQl hRl hXl HQ HX HY HI;go_wp2_with fail
   refine HSH.out.mono ?_;rintro e w7 ⟨hb7,r7,more,rfl,hr7⟩;have HW7:=zz (HW.out.trans (hb7.mono HW.out.size));have HR7:=zz hr7;have HNM:=zz (zBi w7 _ _ (HQL.out.below hb7) (by omega));rw[zAv HRF.out,HDN.out.1] at HNM;clear hb7 hr7 HSH HQL;go_wp2_with fail
   refine HNM.out.mono ?_;rintro e w8 ⟨hb8,q8,rfl,hq8,-⟩;have HW8:=zz (HW7.out.trans (hb8.mono HW7.out.size));have HR8:=zz (HR7.out.below hb8);have HQ8:=zz hq8;clear hb8 hq8 HNM HR7 HW7;go_wp2
   try rw[Exit.noGoto_ret]
   refine bodyPost_ret (v:=.tuple #[q8,r7,.bool true]) (by simp[results,Tryz.results234,go_sem]) rfl ⟨HW8.out,_,_,rfl,HQ8.out,HR8.out⟩
  ·obtain⟨j,rfl⟩:∃ j,t=j+1:=⟨t - 1,by omega⟩;rw[show ((j+1:Nat):Int) - 1=(j:Int) by omega];obtain⟨hYl,hYf,hYv,hY1,hYb⟩:=HYF.out;have hXl:=HI.out.len;obtain⟨hw1,hw2,hw3⟩:=HI.out.window hYb;obtain⟨s,hs⟩:∃ s,s=j+n:=⟨_,rfl⟩;obtain⟨s1,hs1⟩:∃ s1,s1=j+m1:=⟨_,rfl⟩;obtain⟨s2,hs2⟩:∃ s2,s2=j+m2:=⟨_,rfl⟩;have hm1:=HM.out;have hm2:=HM2.out;have hN:=HN.out;have hk:=zL1 X Y j m2 HI.out.fit hYf (by omega) (by omega) (by rw[show m2+1=m1 by omega,hm1];exact hY1) (by rw[show m2+2=n by omega,show m2+3=n+1 by omega,hYv];exact hw2);rw[show m2+1=m1 by omega,show m2+2=n by omega,show m2+3=n+1 by omega,<-hs,<-hs1,<-hs2,hYv,<-HV.out.1,<-HV.out.2] at hk;have hd0:wr.cell? ⟨gx,s,none⟩=some (.int .u32 ((X.getD s 0:Nat):Int)):=HX.out.cell s (by omega);have hd1:wr.cell? ⟨gx,s1,none⟩=some (.int .u32 ((X.getD s1 0:Nat):Int)):=HX.out.cell s1 (by omega);have hd2:wr.cell? ⟨gx,s2,none⟩=some (.int .u32 ((X.getD s2 0:Nat):Int)):=HX.out.cell s2 (by omega);have gs0:IntKind.i64.wrap ((j:Int)+(n:Int))=(s:Int):=by rw[zY _ (by omega)];omega
   have gs1:IntKind.i64.wrap ((s:Int) - 1)=(s1:Int):=by rw[zY _ (by omega)];omega
   have gs2':IntKind.i64.wrap ((s:Int) - 2)=(s2:Int):=by rw[zY _ (by omega)];omega
   have gs3:IntKind.i64.wrap ((s:Int)+1)=(s:Int)+1:=zY _ (by omega);have gl0:(s:Int)<(la:Int)+1:=by omega
   have gl1:(s1:Int)<(la:Int)+1:=by omega
   have gl2:(s2:Int)<(la:Int)+1:=by omega
   have gj:(j:Int)<(N:Int):=by omega
   have gj2:(j:Int)<=(s:Int)+1:=by omega
   have hw0l:=hk.w0l;have hw1l:=hk.w1l;have hw2l:=hk.w2l;generalize X.getD s 0=x0 at hk hd0 hw0l;generalize X.getD s1 0=x1 at hk hd1 hw1l;generalize X.getD s2 0=x2 at hk hd2 hw2l;obtain⟨top,htop⟩:∃ top,top=x0*4294967296+x1:=⟨_,rfl⟩;rw[<-htop] at hk;have q3:IntKind.u64.wrap (x0:Int)=(x0:Int):=by rw[IntKind.wrap_u64];omega
   have q4:IntKind.u64.wrap (x1:Int)=(x1:Int):=by rw[IntKind.wrap_u64];omega
   have q5:IntKind.u64.wrap (x2:Int)=(x2:Int):=by rw[IntKind.wrap_u64];omega
   have q6:=zEf x0 x1 hw0l hw1l;rw[show ((x0*4294967296:Nat):Int)=(x0:Int)*4294967296 by simp,<-htop] at q6;have htop2:top<18446744073709551616:=by omega
   obtain⟨g0,hg0⟩:∃ g0,g0=top / V1:=⟨_,rfl⟩;obtain⟨r0,hr0⟩:∃ r0,r0=top % V1:=⟨_,rfl⟩;have hg0l:=hk.guess_lt;have hgq:=hk.guess0;have hdm:=Nat.div_add_mod top V1;have hrl0:=Nat.mod_lt top (show V1 > 0 by omega);rw[<-hg0] at hg0l hgq;rw[<-hg0,<-hr0,Nat.mul_comm] at hdm;rw[<-hr0] at hrl0;have q7:(top:Int).tdiv (V1:Int)=(g0:Int):=by rw[Int.tdiv_eq_ediv_of_nonneg (by omega),hg0];simp
   have q8:(top:Int).tmod (V1:Int)=(r0:Int):=by rw[Int.tmod_eq_emod_of_nonneg (by omega),hr0];simp
   have q9:IntKind.u64.wrap (g0:Int)=(g0:Int):=by rw[IntKind.wrap_u64];omega
   have q10:((V1:Int) != 0)=true:=by rw[bne_iff_ne];omega
   have q11:((V1:Int) == 0)=false:=beq_eq_false_iff_ne.2 (by omega);have HK:=zz hk;have HG0:=zz (And.intro hdm hgq);have HS:=zz (And.intro hs (And.intro hw1 hw2));clear hk hdm hgq hg0 hr0 htop hs hs1 hs2 hm1 hm2 hN hw1 hw2 hw3 hYl hYf hYv hY1 hYb hXl;go_upto_region 10 with fail
   go_quiet (fail)
   have HX7:=zz (HX.out.drewN nq);have HY7:=zz (HY.out.drewN nq);have HQ7:=zz (HQ.out.drewN nq);have HW7:=zz (zAd HW.out nq);have he2:(wr.drewN nq).cell? ⟨gx,s2,none⟩=some (.int .u32 (x2:Int)):=hd2;clear hd0 hd1 hd2 HX HY HQ HW;generalize wr.drewN nq=w7 at HX7 HY7 HQ7 HW7 he2 ⊢;go_upto_region 11 with fail
   go_quiet (fail)
   have HX8:=zz (HX7.out.drewN nq);have HY8:=zz (HY7.out.drewN nq);have HQ8:=zz (HQ7.out.drewN nq);have HW8:=zz (zAd HW7.out nq);have hf2:(w7.drewN nq).cell? ⟨gx,s2,none⟩=some (.int .u32 (x2:Int)):=he2;clear he2 HX7 HY7 HQ7 HW7;generalize w7.drewN nq=w8 at HX8 HY8 HQ8 HW8 hf2 ⊢;go_upto_block 2 with fail
   go_cut [15,16] from 57 to 137 (fun gv rv wx=>∃ g r:Nat,gv=.int .u64 (g:Int)/\rv=.int .u64 (r:Int)/\g<4294967296/\Hid (zPn g (2 ^ u*b) (val ((X.drop j).take (n+1))))/\wx=w8)
   case first=>
    go_wp2_with fail
    go_loopw [15,16] (fun gv rv wr=>∃ g r:Nat,gv=.int .u64 (g:Int)/\rv=.int .u64 (r:Int)/\g<8589934592/\r<4294967296/\Hid (g*V1+r=top/\val ((X.drop j).take (n+1))<(g+1)*(2 ^ u*b))/\wr=w8) (fun gv _ _=>(intOf gv).toNat)
    case atStart=>exact⟨g0,r0,rfl,rfl,hg0l,by omega,HG0,rfl⟩
    case round=>
     obtain⟨g,r,rfl,rfl,hgl,hrl,HGR,rfl⟩:=hrel;have hgI:(g:Int)<8589934592:=by omega
     have hrI:(r:Int)<4294967296:=by omega
     by_cases ha:4294967296<=g
     ·have hT:=HK.out.too_big g ha;have haI:(4294967296:Int)<=(g:Int):=by omega
      obtain⟨g1,hg1⟩:∃ g1,g1=g - 1:=⟨_,rfl⟩;obtain⟨rn,hrn⟩:∃ rn,rn=r+V1:=⟨_,rfl⟩
      have hg0:1<=g:=by
       rcases Nat.eq_zero_or_pos g with h|h
       ·subst h;simp at hT
       ·exact h
      have qd:IntKind.u64.wrap ((g:Int) - 1)=(g1:Int):=by rw[IntKind.wrap_u64];omega
      have qr:IntKind.u64.wrap ((r:Int)+(V1:Int))=(rn:Int):=by rw[IntKind.wrap_u64];omega
      have HN1:Hid (g1*V1+rn=top/\val ((X.drop j).take (n+1))<(g1+1)*(2 ^ u*b)):=zz (by
       have h1:=HGR.out.1;refine⟨?_,by rw[show g1+1=g by omega];exact hT⟩;obtain⟨k,rfl⟩:∃ k,g=k+1:=⟨g - 1,by omega⟩;rw[show g1=k by omega,hrn,<-h1,Nat.add_mul,Nat.one_mul];omega)
      have hgm:g1<g:=by omega
      have hg1l:g1<8589934592:=by omega
      have hgmI:(g1:Int)<(g:Int):=by omega
      clear hT hg1 hrn hg0;by_cases hb:4294967296<=rn
      ·have hbI:(4294967296:Int)<=(rn:Int):=by omega
       have HGD:=zz (HK.out.stop g1 rn HN1.out.1 hb HN1.out.2);have hgs:=HGD.out.1;go_wp2;go_meet
       exact⟨g1,rn,rfl,rfl,hgs,HGD,rfl⟩
      ·have hbI:¬ (4294967296:Int)<=(rn:Int):=by omega
       go_wp2;go_roundw
       case rel=>exact⟨g1,rn,rfl,rfl,hg1l,by omega,HN1,trivial⟩
       case measure=>simp[intOf];omega
     ·have haI:¬ (4294967296:Int)<=(g:Int):=by omega
      obtain⟨P,hP⟩:∃ P,P=g*V2:=⟨_,rfl⟩;have hP2:P<=4294967295*4294967295:=by rw[hP];exact Nat.mul_le_mul (by omega) (by omega)
      have qp:IntKind.u64.wrap ((g:Int)*(V2:Int))=(P:Int):=by
       rw[show (g:Int)*(V2:Int)=(P:Int) by rw[hP];simp,IntKind.wrap_u64];omega
      have qe:=zEf r x2 hrl hw2l;rw[show ((r*4294967296:Nat):Int)=(r:Int)*4294967296 by simp] at qe;obtain⟨E,hE⟩:∃ E,E=r*4294967296+x2:=⟨_,rfl⟩;rw[<-hE] at qe;by_cases hc:E<P
      ·have hcI:(E:Int)<(P:Int):=by omega
       have hT:=HK.out.too_much g r HGR.out.1 (by rw[<-hE,<-hP];exact hc);clear hP hP2 hE;obtain⟨g1,hg1⟩:∃ g1,g1=g - 1:=⟨_,rfl⟩;obtain⟨rn,hrn⟩:∃ rn,rn=r+V1:=⟨_,rfl⟩
       have hg0:1<=g:=by
        rcases Nat.eq_zero_or_pos g with h|h
        ·subst h;simp at hT
        ·exact h
       have qd:IntKind.u64.wrap ((g:Int) - 1)=(g1:Int):=by rw[IntKind.wrap_u64];omega
       have qr:IntKind.u64.wrap ((r:Int)+(V1:Int))=(rn:Int):=by rw[IntKind.wrap_u64];omega
       have HN1:Hid (g1*V1+rn=top/\val ((X.drop j).take (n+1))<(g1+1)*(2 ^ u*b)):=zz (by
        have h1:=HGR.out.1;refine⟨?_,by rw[show g1+1=g by omega];exact hT⟩;obtain⟨k,rfl⟩:∃ k,g=k+1:=⟨g - 1,by omega⟩;rw[show g1=k by omega,hrn,<-h1,Nat.add_mul,Nat.one_mul];omega)
       have hgm:g1<g:=by omega
       have hg1l:g1<8589934592:=by omega
       have hgmI:(g1:Int)<(g:Int):=by omega
       clear hT hg1 hrn hg0;by_cases hb:4294967296<=rn
       ·have hbI:(4294967296:Int)<=(rn:Int):=by omega
        have HGD:=zz (HK.out.stop g1 rn HN1.out.1 hb HN1.out.2);have hgs:=HGD.out.1;go_wp2;go_meet
        exact⟨g1,rn,rfl,rfl,hgs,HGD,rfl⟩
       ·have hbI:¬ (4294967296:Int)<=(rn:Int):=by omega
        go_wp2;go_roundw
        case rel=>exact⟨g1,rn,rfl,rfl,hg1l,by omega,HN1,trivial⟩
        case measure=>simp[intOf];omega
      ·have hcI:¬ (E:Int)<(P:Int):=by omega
       have HGD:=zz (HK.out.good g r HGR.out.1 (by omega) (by rw[<-hE,<-hP];omega) HGR.out.2);have hgs:=HGD.out.1;clear hP hP2 hE;go_wp2;go_meet
       exact⟨g,r,rfl,rfl,hgs,HGD,rfl⟩
   case rest=>
    obtain⟨g,r,rfl,rfl,hgl,HGD,rfl⟩:=hcut;clear q3 q4 q5 q6 q7 q8 q9 hf2 HG0 hg0l hrl0 htop2 hw0l hw1l hw2l;have hYb:=HYF.out.2.2.2.2;by_cases h0:g=0
    ·subst h0;have HI9:=zz (HI.out.zero hYb (by have:=HGD.out.2.1;rw[Nat.zero_add,Nat.one_mul] at this;exact this))
     have HQ9:Hid (Blk wc gq (zAi (List.replicate j 0 ++ (0 :: R))) 139):=zz (by
      have:=HQ8.out;rw[List.replicate_succ',List.append_assoc] at this;exact this)
     go_wp2;go_roundw
     case rel=>exact⟨j,X,0 :: R,by omega,rfl,HI9,HX8,HY8,HQ9,HW8⟩
     case measure=>simp[intOf]
    ·have hg0I:((g:Int) == 0)=false:=beq_eq_false_iff_ne.2 (by omega);obtain⟨g1,hg1⟩:∃ g1,g1=g - 1:=⟨_,rfl⟩;have hgI:IntKind.u64.wrap ((g:Int) - 1)=(g1:Int):=by rw[IntKind.wrap_u64];omega
     have hcj:¬ cx=j:=by have:=HN.out;omega
     have hs9:=HS.out.1;have hsl:(s:Int)+1<=(cx:Int):=by have:=HN.out;omega
     have hsj:s+1 - j=n+1:=by omega
     have hXl:=HI.out.len;have hYl:=HYF.out.1;have hNo:=HN.out;have HBL:=zz (zKy wc gx gy j n g (cx - j) cy X Y HX8.out HY8.out HNE.out.1 HI.out.fit HYF.out.2.1 (by omega) (by omega) (by omega) hgl);have qg:IntKind.u32.wrap (g:Int)=(g:Int):=by rw[IntKind.wrap_u32];omega
     have qg2:(g:Int) % 4294967296=(g:Int):=by omega
     have qg3:IntKind.u32.wrap (g1:Int)=(g1:Int):=by rw[IntKind.wrap_u32];omega
     have qg4:(g1:Int) % 4294967296=(g1:Int):=by omega
     have HG1:=zz hg1;have HXL:=zz hXl;have HYL:=zz hYl;have HJN:Hid (j+n+1<=la+1):=zz (by omega);clear hs9 hXl hYl hNo hg1;go_wp2_with fail
     refine HBL.out.mono ?_;rintro e w9 ⟨Z,bo,hbo,rfl,hZl,hZf,hZv,hX9,hE9⟩;have hltx:=HX8.out.lt;have hlty:=HY8.out.lt;have hltq:=HQ8.out.lt;have HX9:=zz hX9;have HY9:=zz (HY8.out.ex hE9 hlty HNE.out.1);have HQ9:=zz (hE9.blk HQ8.out hltq HQN.out.1);have HW9:=zz (HW8.out.trans (hE9.below HW8.out.size (fun k hk=>by subst hk;exact HNE.out.2.1)));have HZ:=zz (And.intro hZl (And.intro hZf hZv));clear hltx hlty hltq hX9 hE9 hZl hZf hZv HBL;rcases (by omega:bo=0 \/ bo=1) with rfl|rfl
     ·have hb0:((0:Nat) == 1)=false:=rfl;have HDF:=zz (zJj HGD.out (by rw[<-HYF.out.2.2.1];rw[HYF.out.2.2.1];have:=HZ.out.2.2;rw[HYF.out.2.2.1] at this;exact this));have HI9:=zz (HI.out.step hYb HZ.out.1 HZ.out.2.1 hgl HDF.out.1 HDF.out.2);have f9:w9.frozen? ⟨gq,j,none⟩=false:=HQ9.out.free j;have e9:w9.cell? ⟨gq,j,none⟩=some (.int .u32 (((List.replicate (j+1) 0 ++ R).getD j 0:Nat):Int)):=by rw[HQ9.out.cell,zAD _ _ (by simp;omega)]
      generalize ((List.replicate (j+1) 0 ++ R).getD j 0:Nat)=q0 at e9;have hQs:=HQ9.out.set j (.int .u32 (g:Int));rw[zAE,zGW] at hQs;have HQs:=zz hQs
      have HXs:Hid (zCi (w9.setCell ⟨gq,j,none⟩ (.int .u32 (g:Int))) gx (win X Z j)):=zz (by
       obtain⟨ex,hh⟩:=HX9.out;exact⟨ex,hh.set_other _ _ (by have:=HQN.out;simp;omega)⟩)
      have HYs:Hid (zCi (w9.setCell ⟨gq,j,none⟩ (.int .u32 (g:Int))) gy Y):=zz (by
       obtain⟨ex,hh⟩:=HY9.out;exact⟨ex,hh.set_other _ _ (by have:=HQN.out;simp;omega)⟩)
      have HWs:=zz (HW9.out.setCell (p:=⟨gq,j,none⟩) HQN.out.2.2 (.int .u32 (g:Int)));clear hQs;go_wp2;go_roundw
      case rel=>exact⟨j,_,_,by omega,rfl,HI9,HXs,HYs,HQs,HWs⟩
      case measure=>simp[intOf]
     ·have hb1:((1:Nat) == 1)=true:=rfl;have HBK:=zz (zMb w9 gx gy j n (cx - j) cy (win X Z j) Y HX9.out HY9.out HNE.out.1 (zKM HI.out.fit HZ.out.2.1 j) HYF.out.2.1 (by rw[zAV X Z j (by rw[HZ.out.1,HXL.out];have:=HJN.out;omega),HXL.out];exact HJN.out) (by rw[HYL.out];omega) (by rw[zAV X Z j (by rw[HZ.out.1,HXL.out];have:=HJN.out;omega),HXL.out];omega));go_wp2_with fail
      refine HBK.out.mono ?_;rintro e wd ⟨rfl,Z2,co,hZ2l,hZ2f,hZ2v,hXd,hEd⟩;rw[zOl X Z Z2 j (by rw[HZ.out.1,HXL.out];have:=HJN.out;omega) (by rw[hZ2l,HZ.out.1])] at hXd;have hwt:=zMd X Z j (by rw[HXL.out];have:=HJN.out;omega);rw[HZ.out.1] at hwt;rw[hwt] at hZ2v;have hltx:=HX9.out.lt;have hlty:=HY9.out.lt;have hltq:=HQ9.out.lt;have HXd:=zz hXd;have HYd:=zz (HY9.out.ex hEd hlty HNE.out.1);have HQd:=zz (hEd.blk HQ9.out hltq HQN.out.1);have HWd:=zz (HW9.out.trans (hEd.below HW9.out.size (fun k hk=>by subst hk;exact HNE.out.2.1)));have HZ2:=zz (And.intro hZ2l (And.intro hZ2f hZ2v));clear hltx hlty hltq hXd hEd hZ2l hZ2f hZ2v HBK hwt HX9 HY9 HQ9 HW9
      have HDB:Hid (1<=g/\val ((X.drop j).take (n+1))=(g - 1)*(2 ^ u*b)+val Z2/\val Z2<2 ^ u*b):=zz (by
       have e1:=HZ.out.2.2;rw[HYF.out.2.2.1] at e1;have e2:=HZ2.out.2.2;rw[HYF.out.2.2.1] at e2;have l1:=zBY HZ.out.2.1;have l2:=zBY HZ2.out.2.1;rw[HZ.out.1] at l1;rw[HZ2.out.1] at l2;have hE:2 ^ u*b<=4294967296 ^ (n+1):=zJ (Nat.le_of_lt hYb) (Nat.pow_le_pow_right (by omega) (by omega));exact zI6 HGD.out l1 e1 l2 hE e2)
      rw[<-HG1.out] at HDB;have hg1l:g1<4294967296:=by have:=HG1.out;omega
      have HI9:=zz (HI.out.step hYb HZ2.out.1 HZ2.out.2.1 hg1l HDB.out.2.1 HDB.out.2.2);have f9:wd.frozen? ⟨gq,j,none⟩=false:=HQd.out.free j;have e9:wd.cell? ⟨gq,j,none⟩=some (.int .u32 (((List.replicate (j+1) 0 ++ R).getD j 0:Nat):Int)):=by rw[HQd.out.cell,zAD _ _ (by simp;omega)]
      generalize ((List.replicate (j+1) 0 ++ R).getD j 0:Nat)=q0 at e9;have hQs:=HQd.out.set j (.int .u32 (g1:Int));rw[zAE,zGW] at hQs;have HQs:=zz hQs
      have HXs:Hid (zCi (wd.setCell ⟨gq,j,none⟩ (.int .u32 (g1:Int))) gx (win X Z2 j)):=zz (by
       obtain⟨ex,hh⟩:=HXd.out;exact⟨ex,hh.set_other _ _ (by have:=HQN.out;simp;omega)⟩)
      have HYs:Hid (zCi (wd.setCell ⟨gq,j,none⟩ (.int .u32 (g1:Int))) gy Y):=zz (by
       obtain⟨ex,hh⟩:=HYd.out;exact⟨ex,hh.set_other _ _ (by have:=HQN.out;simp;omega)⟩)
      have HWs:=zz (HWd.out.setCell (p:=⟨gq,j,none⟩) HQN.out.2.2 (.int .u32 (g1:Int)));clear hQs;go_wp2;go_roundw
      case rel=>exact⟨j,_,_,by omega,rfl,HI9,HXs,HYs,HQs,HWs⟩
      case measure=>simp[intOf]
theorem zBE{a b:Nat}(h:a<=b):(zAb a).length<=(zAb b).length:=zAq (Nat.lt_of_le_of_lt h (zBn b))
theorem zGc{b:Nat}(h:(zAb b).length=1):zAb b=[b]/\0<b/\b<4294967296:=by
 have hb:b≠0:=by rintro rfl;rw[zAn] at h;simp at h
 have h1:=zBn b;rw[h,Nat.pow_one] at h1;exact⟨Limb.zAu h1 hb,by omega,h1⟩
theorem zOi(w:World)(v v2:Value)(a b:List Nat)(h:zAf w v a)(h2:zAf w v2 b)(hl:a.length<=8589934592)(hl2:b.length<=8589934592)(hb:val b≠0):
  Calls Tryz.prog 212 #[v,v2] w fun e w'=>Below w.heap.size w w'/\∃ q r,e=.returned (.tuple #[q,r,.bool true])/\zAf w' q (zAb (val a / val b))/\zAf w' r (zAb (val a % val b)):=by
 have H2:=zz h2;have HN1:=zz (zBi w v _ h (by omega));rw[zAv h.fit] at HN1;have hna:(zAb (val a)).length<=8589934592:=by rw[<-zAv h.fit,zAG];have:=zBT a;omega
 have hnb:(zAb (val b)).length<=8589934592:=by rw[<-zAv h2.fit,zAG];have:=zBT b;omega
 have HT2:=zz (zAv h2.fit);have HL2:=zz hl2;have hp:=zAk hb;clear h h2 hl hl2;generalize val a=x at *;generalize val b=y at *;go_enter Tryz.func212,Tryz.ntmps212
 go_wp2_with fail
 refine HN1.out.mono ?_;rintro e w1 ⟨hb1,u1,rfl,hu1,-⟩;have HN2:=zz (zBi w1 v2 _ (H2.out.below hb1) (by have:=HL2.out;omega));rw[HT2.out] at HN2;have HU1:=zz hu1;have HB1:=zz hb1;clear hu1 hb1 HN1;go_wp2_with fail
 refine HN2.out.mono ?_;rintro e w2 ⟨hb2,u2,rfl,hu2,-⟩;have HU2:=zz (HU1.out.below hb2);have HV2:=zz hu2;have HB2:=zz (HB1.out.trans (hb2.mono HB1.out.size));obtain⟨b1,c1,rfl⟩:=HU2.out.slice;obtain⟨bb2,c2,rfl⟩:=hu2.slice;clear hb2 hu2 HU1 HB1 HN2;obtain⟨n,hn⟩:∃ n,n=(zAb y).length:=⟨_,rfl⟩;obtain⟨m,hm⟩:∃ m,m=(zAb x).length:=⟨_,rfl⟩;have HN:=zz hn;have HM:=zz hm;rw[<-hn] at hp hnb HV2 ⊢;rw[<-hm] at hna HU2 ⊢;clear hn hm;have g0:((n:Int) == 0)=false:=beq_eq_false_iff_ne.2 (by omega);by_cases h1:n=1
 ·subst h1;obtain⟨e1,e2,e3⟩:=zGc HN.out.symm;have hv2:=HV2.out;rw[e1] at hv2;obtain⟨_,⟨_,hy⟩|⟨bk,of,cp,hv,p1,p2,p3,p4⟩⟩:=hv2
  ·simp at hy
  simp only[Value.slice.injEq] at hv;obtain⟨rfl,-,rfl⟩:=hv;have hc:=p4 0 (by simp);have hc:w2.cell? ⟨bk,of,none⟩=some (.int .u32 (y:Int)):=hc;have HSM:=zz (zDu w2 _ _ y HU2.out (by rw[<-HM.out];omega) e2 e3);rw[zAe] at HSM;have hr:x % y<4294967296:=Nat.lt_trans (Nat.mod_lt _ e2) e3;have HF:=zz (fun w=>zAH w (x % y) (by omega));have qr:IntKind.u64.wrap ((x % y:Nat):Int)=((x % y:Nat):Int):=by rw[IntKind.wrap_u64];omega
  obtain⟨Q,hQ⟩:∃ Q,Q=x / y:=⟨_,rfl⟩;obtain⟨R,hR⟩:∃ R,R=x % y:=⟨_,rfl⟩;rw[<-hR] at HSM HF qr hr;rw[<-hQ] at HSM;have HE:=zz (And.intro hQ hR);clear p4 e1 HV2 hQ hR;go_wp2_with fail
  refine HSM.out.mono ?_;rintro e w3 ⟨hb3,q3,rfl,hq3⟩;have HQ3:=zz hq3;have HB3:=zz (HB2.out.trans (hb3.mono HB2.out.size));clear hb3 hq3 HSM;go_wp2_with fail
  refine (HF.out w3).mono ?_;rintro e w4 ⟨hb4,r4,rfl,hr4⟩;have HQ4:=zz (HQ3.out.below hb4);have HR4:=zz hr4;have HB4:=zz (HB3.out.trans (hb4.mono HB3.out.size));clear hb4 hr4;go_wp2;refine bodyPost_ret (v:=.tuple #[q3,r4,.bool true]) (by simp[results,Tryz.results212,go_sem]) rfl ⟨HB4.out,_,_,rfl,by rw[<-HE.out.1];exact HQ4.out,by rw[<-HE.out.2];exact HR4.out⟩
 ·have g1:((n:Int) == 1)=false:=beq_eq_false_iff_ne.2 (by omega);have HCM:=zz (zC7 w2 _ _ _ _ HU2.out HV2.out (by rw[<-HM.out];omega) (by rw[<-HN.out];omega));rw[zAe,zAe] at HCM;go_wp2_with fail
  refine HCM.out.mono ?_;rintro e w3 ⟨rfl,hb3⟩;have HU3:=zz (HU2.out.below hb3);have HV3:=zz (HV2.out.below hb3);have HB3:=zz (HB2.out.trans (hb3.mono HB2.out.size));clear hb3 HCM HU2 HV2 HB2;by_cases hxy:x<y
  ·have e:zBo x y=-1:=by simp[zBo,hxy]
   have HQ:Hid (x / y=0):=zz (Nat.div_eq_of_lt hxy);have HR:Hid (x % y=x):=zz (Nat.mod_eq_of_lt hxy);rw[e];go_wp2;refine bodyPost_ret (v:=.tuple #[.slice none 0 0,.slice b1 m c1,.bool true]) (by simp[results,Tryz.results212,go_sem]) rfl ⟨HB3.out,_,_,rfl,?_,?_⟩
   ·rw[HQ.out,zAn];exact zAf.nil _
   ·rw[HR.out];exact HU3.out
  ·have g2:¬ zBo x y<0:=by unfold zBo;rw[if_neg hxy];split <;> omega
   have HLG:=zz (zMs w3 _ _ x y HU3.out HV3.out (by rw[<-HN.out];omega) (zBE (by omega)) (by rw[<-HM.out];omega));generalize zBo x y=cc at g2 ⊢;go_wp2_with fail
   refine HLG.out.mono ?_;rintro e w4 ⟨hb4,q4,r4,rfl,hq4,hr4⟩;have HQ4:=zz hq4;have HR4:=zz hr4;have HB4:=zz (HB3.out.trans (hb4.mono HB3.out.size));clear hb4 hq4 hr4;go_wp2;refine bodyPost_ret (v:=.tuple #[q4,r4,.bool true]) (by simp[results,Tryz.results212,go_sem]) rfl ⟨HB4.out,_,_,rfl,HQ4.out,HR4.out⟩
end Go.Proofs.YtcanfakaigpkgaaGreatDoor.D
namespace Go.Proofs.YtcanfakaigpkgaaGreatDoor.D
open Go Limb
def zBM(b:Nat):List UInt8:=
 if 9218868437227405312<b % 9223372036854775808 then [78,97,78]
 else if b % 9223372036854775808=9218868437227405312 then (if 9223372036854775808<=b then [45,73,110,102,105,110,105,116,121] else [73,110,102,105,110,105,116,121])
 else if b % 9223372036854775808=0 then [48]
 else zBa (decide (9223372036854775808<=b)) ++ zDQ (zDv 1075 (b % 9223372036854775808)).1 (zDv 1075 (b % 9223372036854775808)).2
def zGE(b:Nat):Prop:=
 b=9221120237041090560 \/ b % 9223372036854775808=9218868437227405312 \/ (b % 9223372036854775808<9218868437227405312/\0<b % 9223372036854775808/\¬ zNU 1075 (b % 9223372036854775808))
theorem zNR{b:Nat}(hb:b<18446744073709551616)(h:zGE b):zEK b (zBM b):=by
 rcases h with rfl|h|⟨h1,h2,h3⟩
 ·exact .inl ⟨rfl,by unfold zBM;rw[if_pos (by decide)]⟩
 ·unfold zBM;rw[if_neg (by omega),if_pos h];by_cases h4:9223372036854775808<=b
  ·rw[if_pos h4];exact .inr (.inr (.inl ⟨by omega,rfl⟩))
  ·rw[if_neg h4];exact .inr (.inl ⟨by omega,rfl⟩)
 ·unfold zBM;rw[if_neg (by omega),if_neg (by omega),if_neg (by omega)];obtain⟨hd,hI,_⟩:=zFl 1075 (b % 9223372036854775808) (by omega) h2;have hlt:=zOx 1075 (b % 9223372036854775808) (by omega) h2 h3;refine .inr (.inr (.inr ⟨_,_,b % 9223372036854775808,rfl,hd,hlt,h2,?_,hI⟩))
  split <;> omega
def VT.good:VT->Prop
 | .stop=>False
 | .node a m fs=>a.ok m/\(a.kind=4->a.bits<18446744073709551616/\zGE a.bits)/\∀ i,i<m->(fs i).good
theorem VT.good.ok:∀ {f:VT},f.good->f.ok zBM
 | .stop,h=>h.elim
 | .node _ _ _,⟨h1,h2,h3⟩=>⟨h1,fun hk=>zNR (h2 hk).1 (h2 hk).2,fun i hi=>(h3 i hi).ok⟩
theorem zHW:zEE []:=fun c hc=>by cases hc
theorem zHU(f g:VT)(hf:f.good)(hg:g.good):(f.txt zBM=g.txt zBM ↔ f.same g)/\(f.cmp g=0 ↔ f.same g):=by
 refine⟨⟨fun h=>?_,zLR zBM f g⟩,zLS zBM f g hf.ok hg.ok⟩;exact (zPN zBM f g hf.ok hg.ok [] [] zHW zHW (by rw[List.append_nil,List.append_nil];exact h)).1
end Go.Proofs.YtcanfakaigpkgaaGreatDoor.D
