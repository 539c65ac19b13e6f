/-
  Of the proof that the law DiagUnlike answers true at every two values: a part, without conditions of its own.
-/
import Derived.Test.YtcanfakaigpkgaaGreatDoorPart04
import Derived.WalkLawsBesides
import Derived.WalkSpells
set_option linter.unusedVariables false
set_option linter.unusedSimpArgs false
set_option maxRecDepth 100000
set_option maxHeartbeats 8000000
namespace Go.Proofs.YtcanfakaigpkgaaGreatDoor.D
open Go Go.RowKit Limb
def zBz:Int:=4609434218613702656
inductive F where
 | stop:F
 | node (t:List UInt8) (x:Nat) (fs:Nat->F):F
def F.txt:F->List UInt8
 | .stop=>[]
 | .node t _ _=>t
def zAF(one two:List UInt8)(m:Nat)(fs:Nat->F):Nat->List UInt8
 | 0=>[]
 | k+1=>zAF one two m fs k ++ (fs k).txt ++ (if k+1<m then (if k % 2=1 then two else one) else [])
def zCk(x:Nat):UInt8:=if x<10 then UInt8.ofNat (48+x) else UInt8.ofNat (87+x)
def zBJ(l:List UInt8):List UInt8:=l.flatMap (fun b=>[zCk (b.toNat / 16),zCk (b.toNat % 16)])
def dig(x:Nat):UInt8:=UInt8.ofNat (48+x)
def zQt(kind n:Int)(X:Nat)(text:List UInt8)(m:Nat)(t:List UInt8)(fs:Nat->F):Prop:=
 (kind=1->t=[110,117,108,108])/\(kind=3->1<=X/\X<10/\t=[dig X])/\(kind=4->t=[49,46,53])/\(kind=6->text≠[]/\t=[104,39] ++ zBJ text ++ [39]) /\
 (kind=7->t=[91] ++ zAF [44,32] [44,32] m fs m ++ [93])/\(kind=8->t=[123] ++ zAF [58,32] [44,32] m fs m ++ [125]) /\
 (kind=9->t=(if n=1 then [49] else [49,48]) ++ [40] ++ zAF [] [] m fs m ++ [41])
def zDW(w:World)(N:Nat)(kind n:Int)(mag:Value)(bits ext:Int)(text:List UInt8)(m X:Nat):Prop:=
 ext=0 /\
 ((kind=1/\n=0/\mag=.slice none 0 0/\bits=0/\text=[]/\m=0) \/
  (kind=3/\n=0/\bits=0/\text=[]/\m=0/\∃ x,((0<x/\x<1000000000)/\x=X)/\zAf w mag (zAb x)/\∀ b o k c,mag=.slice (some ⟨b,o,none⟩) k c->b<N) \/
  (kind=4/\n=0/\mag=.slice none 0 0/\bits=zBz/\text=[]/\m=0) \/
  (kind=6/\n=0/\mag=.slice none 0 0/\bits=0/\text.length<=1048576/\m=0) \/
  (kind=7/\n=0/\mag=.slice none 0 0/\bits=0/\text=[]/\1<=m/\m<=3) \/
  (kind=8/\n=0/\mag=.slice none 0 0/\bits=0/\text=[]/\m=2) \/
  (kind=9/\(n=1 \/ n=10)/\mag=.slice none 0 0/\bits=0/\text=[]/\m=1))
def zBO(w:World)(b o m:Nat)(xs:Nat->Array Value):Prop:=∀ i,i<m->(xs i).size=8/\∀ j,j<8->w.cell? ⟨b,o+i*8+j,none⟩=(xs i)[j]?
def zAU(w:World)(N:Nat):F->Nat->Value->Prop
 | .stop,_,_=>False
 | .node t X fs,d,v=>∃ (kind n:Int) (mag:Value) (bits ext:Int) (text:List UInt8) (kids:Value) (m:Nat),v=.agg (zAa kind n false mag bits ext (zAc text) kids)/\zDW w N kind n mag bits ext text m X/\zQt kind n X text m t fs /\
  ((m=0/\kids=.slice none 0 0/\d=0) \/
   (0<m/\∃ (b o cap:Nat) (xs:Nat->Array Value) (ds:Nat->Nat),kids=.slice (some ⟨b,o,none⟩) m cap/\m<=cap/\cap<=9223372036854775807/\b<N/\zBO w b o m xs/\(∀ i,i<m->zAU w N (fs i) (ds i) (.agg (xs i))/\ds i<d)/\∃ i,i<m/\ds i+1=d))
theorem zDW.below{w w':World}{N:Nat}{kind n:Int}{mag:Value}{bits ext:Int}{text:List UInt8}{m X:Nat}(h:zDW w N kind n mag bits ext text m X)(hb:Below N w w'):zDW w' N kind n mag bits ext text m X:=by
 obtain⟨h0,h|⟨a1,a2,a3,a4,a5,x,hx,hl,hN⟩|h⟩:=h
 ·exact⟨h0,.inl h⟩
 ·refine⟨h0,.inr (.inl ⟨a1,a2,a3,a4,a5,x,hx,?_,hN⟩)⟩;obtain⟨hf,h|⟨blk,off,cap,hv,h1,h2,h3,h4⟩⟩:=hl
  ·exact⟨hf,.inl h⟩
  ·have hbN:=hN _ _ _ _ hv;exact⟨hf,.inr ⟨blk,off,cap,hv,h1,h2,by have:=hb.size;omega,fun i hi=>by rw[hb.cell (p:=⟨blk,off+i,none⟩) hbN];exact h4 i hi⟩⟩
 ·exact⟨h0,.inr (.inr h)⟩
theorem zDW.mono{w:World}{N N':Nat}{kind n:Int}{mag:Value}{bits ext:Int}{text:List UInt8}{m X:Nat}(h:zDW w N kind n mag bits ext text m X)(hN:N<=N'):zDW w N' kind n mag bits ext text m X:=by
 obtain⟨h0,h|⟨a1,a2,a3,a4,a5,x,hx,hl,h1⟩|h⟩:=h
 ·exact⟨h0,.inl h⟩
 ·exact⟨h0,.inr (.inl ⟨a1,a2,a3,a4,a5,x,hx,hl,fun b o k c e=>by have:=h1 b o k c e;omega⟩)⟩
 ·exact⟨h0,.inr (.inr h)⟩
theorem zBO.below{w w':World}{N b o m:Nat}{xs:Nat->Array Value}(h:zBO w b o m xs)(hb:Below N w w')(hN:b<N):zBO w' b o m xs:=fun i hi=>
 ⟨(h i hi).1,fun j hj=>by rw[hb.cell (p:=⟨b,o+i*8+j,none⟩) hN];exact (h i hi).2 j hj⟩
theorem zAU.below{w w':World}{N:Nat}(hb:Below N w w'):∀ (f:F) (d:Nat) (v:Value),zAU w N f d v->zAU w' N f d v
 | .stop,_,_,h=>h
 | .node t X fs,d,v,⟨kind,n,mag,bits,ext,text,kids,m,hv,hf,ht,h⟩=>⟨kind,n,mag,bits,ext,text,kids,m,hv,hf.below hb,ht,by
  rcases h with h|⟨h0,b,o,cap,xs,ds,hk,h1,h2,h3,h4,h5,h6⟩
  ·exact .inl h
  ·exact .inr ⟨h0,b,o,cap,xs,ds,hk,h1,h2,h3,h4.below hb h3,fun i hi=>⟨zAU.below hb (fs i) _ _ (h5 i hi).1,(h5 i hi).2⟩,h6⟩⟩
theorem zAU.mono{w:World}{N N':Nat}(hN:N<=N'):∀ (f:F) (d:Nat) (v:Value),zAU w N f d v->zAU w N' f d v
 | .stop,_,_,h=>h
 | .node t X fs,d,v,⟨kind,n,mag,bits,ext,text,kids,m,hv,hf,ht,h⟩=>⟨kind,n,mag,bits,ext,text,kids,m,hv,hf.mono hN,ht,by
  rcases h with h|⟨h0,b,o,cap,xs,ds,hk,h1,h2,h3,h4,h5,h6⟩
  ·exact .inl h
  ·exact .inr ⟨h0,b,o,cap,xs,ds,hk,h1,h2,by omega,h4,fun i hi=>⟨zAU.mono hN (fs i) _ _ (h5 i hi).1,(h5 i hi).2⟩,h6⟩⟩
theorem zBh(w:World)(kind n:Int)(neg:Bool)(mag:Value)(bits ext:Int)(text:ByteArray)(kids:Value)(h:kind=7 \/ kind=8 \/ kind=9):
  Calls Tryz.prog 38 #[.agg (zAa kind n neg mag bits ext text kids)] w fun e w'=>e=.returned (.bool true)/\Below w.heap.size w w':=by
 unfold zAa;rcases h with rfl|rfl|rfl <;>
 ·go_enter Tryz.func38,Tryz.ntmps38
  go_wp2;go_ret;exact⟨rfl,(zK _ _).alloc (zQ _) _⟩
theorem zBB(w:World)(kind n:Int)(neg:Bool)(mag:Value)(bits ext:Int)(text:ByteArray)(kids:Value)(h7:kind≠7)(h8:kind≠8)(h9:kind≠9):
  Calls Tryz.prog 38 #[.agg (zAa kind n neg mag bits ext text kids)] w fun e w'=>e=.returned (.bool false)/\Below w.heap.size w w':=by
 unfold zAa;have g7:(kind == 7)=false:=beq_eq_false_iff_ne.2 h7;have g8:(kind == 8)=false:=beq_eq_false_iff_ne.2 h8;have g9:(kind == 9)=false:=beq_eq_false_iff_ne.2 h9;clear h7 h8 h9;go_enter Tryz.func38,Tryz.ntmps38
 go_wp2;go_ret;exact⟨rfl,(zK _ _).alloc (zQ _) _⟩
theorem zIv(w:World):
  Calls Tryz.prog 36 #[.agg #[.int .i8 1,.int .u64 0,.bool false,.slice none 0 0,.int .u64 0,.int .i8 0,.string ⟨#[]⟩,.slice none 0 0]] w fun e w'=>e=.returned (.bool true)/\Below w.heap.size w w':=by
 go_enter Tryz.func36,Tryz.ntmps36
 go_wp2;go_ret;exact⟨rfl,(zK _ _).alloc (zQ _) _⟩
theorem zGQ(w:World)(text:List UInt8):
  Calls Tryz.prog 36 #[.agg #[.int .i8 6,.int .u64 0,.bool false,.slice none 0 0,.int .u64 0,.int .i8 0,.string (zAc text),.slice none 0 0]] w fun e w'=>e=.returned (.bool true)/\Below w.heap.size w w':=by
 go_enter Tryz.func36,Tryz.ntmps36
 go_wp2;go_ret;exact⟨rfl,(zK _ _).alloc (zQ _) _⟩
theorem zIH(w:World)(b:Option Addr)(m c:Nat):
  Calls Tryz.prog 36 #[.agg #[.int .i8 7,.int .u64 0,.bool false,.slice none 0 0,.int .u64 0,.int .i8 0,.string ⟨#[]⟩,.slice b m c]] w fun e w'=>e=.returned (.bool true)/\Below w.heap.size w w':=by
 go_enter Tryz.func36,Tryz.ntmps36
 go_wp2;go_ret;exact⟨rfl,(zK _ _).alloc (zQ _) _⟩
theorem zLh(w:World)(n:Int)(hn:n=1 \/ n=10)(b:Option Addr)(c:Nat):
  Calls Tryz.prog 36 #[.agg #[.int .i8 9,.int .u64 n,.bool false,.slice none 0 0,.int .u64 0,.int .i8 0,.string ⟨#[]⟩,.slice b 1 c]] w fun e w'=>e=.returned (.bool true)/\Below w.heap.size w w':=by
 rcases hn with rfl|rfl
 ·go_enter Tryz.func36,Tryz.ntmps36
  go_wp2;go_ret;exact⟨rfl,(zK _ _).alloc (zQ _) _⟩
 ·go_enter Tryz.func36,Tryz.ntmps36
  go_wp2;go_ret;exact⟨rfl,(zK _ _).alloc (zQ _) _⟩
def zBo(x y:Nat):Int:=if x<y then -1 else if y<x then 1 else 0
theorem zDI(w:World)(x:Int):Calls Tryz.prog 147 #[.int .i64 x] w fun e w'=>w'=w/\e=.returned (.bool false):=by
 go_enter Tryz.func147,Tryz.ntmps147
 go_wp2;go_ret;exact⟨rfl,rfl⟩
theorem zDK(w:World)(x:Int):Calls Tryz.prog 148 #[.int .u32 x] w fun e w'=>w'=w/\e=.returned (.bool false):=by
 go_enter Tryz.func148,Tryz.ntmps148
 go_wp2;go_ret;exact⟨rfl,rfl⟩
theorem zGY(w:World)(x y:Nat):Calls Tryz.prog 90 #[.int .i64 (x:Int),.int .i64 (y:Int)] w fun e w'=>w'=w/\e=.returned (.int .i64 (zBo x y)):=by
 rcases Nat.lt_trichotomy x y with h|h|h
 ·have g:(x:Int)<(y:Int):=by omega
  rw[show zBo x y=-1 by simp[zBo,h]];clear h;generalize (x:Int)=X at *;generalize (y:Int)=Y at *;go_enter Tryz.func90,Tryz.ntmps90
  go_wp2_with fail
  refine (zDI w X).mono ?_;rintro e w1 ⟨rfl,rfl⟩;go_wp2_with fail
  refine (zDI w1 Y).mono ?_;rintro e w2 ⟨rfl,rfl⟩;go_wp2;go_ret;exact⟨rfl,rfl⟩
 ·subst h;rw[show zBo x x=0 by simp[zBo]];generalize (x:Int)=X at *;have g:¬ X<X:=by omega
  go_enter Tryz.func90,Tryz.ntmps90
  go_wp2_with fail
  refine (zDI w X).mono ?_;rintro e w1 ⟨rfl,rfl⟩;go_wp2_with fail
  refine (zDI w1 X).mono ?_;rintro e w2 ⟨rfl,rfl⟩;go_wp2;go_ret;exact⟨rfl,rfl⟩
 ·have g:(y:Int)<(x:Int):=by omega
  have g2:¬ (x:Int)<(y:Int):=by omega
  rw[show zBo x y=1 by simp[zBo,h];omega];clear h;generalize (x:Int)=X at *;generalize (y:Int)=Y at *;go_enter Tryz.func90,Tryz.ntmps90
  go_wp2_with fail
  refine (zDI w X).mono ?_;rintro e w1 ⟨rfl,rfl⟩;go_wp2_with fail
  refine (zDI w1 Y).mono ?_;rintro e w2 ⟨rfl,rfl⟩;go_wp2;go_ret;exact⟨rfl,rfl⟩
theorem zGC(w:World)(x y:Nat):Calls Tryz.prog 91 #[.int .u32 (x:Int),.int .u32 (y:Int)] w fun e w'=>w'=w/\e=.returned (.int .i64 (zBo x y)):=by
 rcases Nat.lt_trichotomy x y with h|h|h
 ·have g:(x:Int)<(y:Int):=by omega
  rw[show zBo x y=-1 by simp[zBo,h]];clear h;generalize (x:Int)=X at *;generalize (y:Int)=Y at *;go_enter Tryz.func91,Tryz.ntmps91
  go_wp2_with fail
  refine (zDK w X).mono ?_;rintro e w1 ⟨rfl,rfl⟩;go_wp2_with fail
  refine (zDK w1 Y).mono ?_;rintro e w2 ⟨rfl,rfl⟩;go_wp2;go_ret;exact⟨rfl,rfl⟩
 ·subst h;rw[show zBo x x=0 by simp[zBo]];generalize (x:Int)=X at *;have g:¬ X<X:=by omega
  go_enter Tryz.func91,Tryz.ntmps91
  go_wp2_with fail
  refine (zDK w X).mono ?_;rintro e w1 ⟨rfl,rfl⟩;go_wp2_with fail
  refine (zDK w1 X).mono ?_;rintro e w2 ⟨rfl,rfl⟩;go_wp2;go_ret;exact⟨rfl,rfl⟩
 ·have g:(y:Int)<(x:Int):=by omega
  have g2:¬ (x:Int)<(y:Int):=by omega
  rw[show zBo x y=1 by simp[zBo,h];omega];clear h;generalize (x:Int)=X at *;generalize (y:Int)=Y at *;go_enter Tryz.func91,Tryz.ntmps91
  go_wp2_with fail
  refine (zDK w X).mono ?_;rintro e w1 ⟨rfl,rfl⟩;go_wp2_with fail
  refine (zDK w1 Y).mono ?_;rintro e w2 ⟨rfl,rfl⟩;go_wp2;go_ret;exact⟨rfl,rfl⟩
theorem zNf{x y:Nat}(h:(zAb x).length<(zAb y).length):x<y:=by
 have h1:=zBn x;have hy:y≠0:=by rintro rfl;rw[zAn] at h;simp at h
 have h2:=zH6 hy;have h3:4294967296 ^ (zAb x).length<=4294967296 ^ ((zAb y).length - 1):=Nat.pow_le_pow_right (by omega) (by omega);omega
theorem zMi{x y n m:Nat}(hn:(zAb x).length=n)(hm:(zAb y).length=m)(h:n≠m):zBo n m=zBo x y:=by
 rcases Nat.lt_or_gt_of_ne h with h1|h1
 ·have:=zNf (x:=x) (y:=y) (by omega);simp[zBo,h1,this]
 ·have:=zNf (x:=y) (y:=x) (by omega);have h2:¬ n<m:=by omega
  have h3:¬ x<y:=by omega
  simp[zBo,h1,this,h2,h3]
theorem zLE{x y k:Nat}(h1:k<(zAb x).length)(h2:k<(zAb y).length)(hd:(zAb x).drop (k+1)=(zAb y).drop (k+1))(h:(zAb x).getD k 0≠(zAb y).getD k 0):zBo ((zAb x).getD k 0) ((zAb y).getD k 0)=zBo x y:=by
 rcases Nat.lt_or_gt_of_ne h with h3|h3
 ·have:=zDc (zAB x) k h1 h2 hd h3;rw[zAe,zAe] at this;simp only[zBo,if_pos h3,if_pos this]
 ·have:=zDc (zAB y) k h2 h1 hd.symm h3;rw[zAe,zAe] at this;have h4:¬ (zAb x).getD k 0<(zAb y).getD k 0:=by omega
  have h5:¬ x<y:=by omega
  simp only[zBo,if_neg h4,if_neg h5,if_pos h3,if_pos this]
theorem zC7(w:World)(v v2:Value)(a b:List Nat)(h:zAf w v a)(h2:zAf w v2 b)(hl:a.length<=34359738368)(hl2:b.length<=34359738368):
  Calls Tryz.prog 52 #[v,v2] w fun e w'=>e=.returned (.int .i64 (zBo (val a) (val b)))/\Below w.heap.size w w':=by
 have HC1:=zz (zAC w v a h);have HC2:=zz (zAC w v2 b h2);rw[zAv h.fit] at HC1;rw[zAv h2.fit] at HC2;have hn1:(zAb (val a)).length<=34359738368:=by rw[<-zAv h.fit,zAG];have:=zBT a;omega
 have hm1:(zAb (val b)).length<=34359738368:=by rw[<-zAv h2.fit,zAG];have:=zBT b;omega
 clear h h2 hl hl2;generalize val a=x at *;generalize val b=y at *;go_enter Tryz.func52,Tryz.ntmps52
 go_wp2_with fail
 refine HC1.out.mono ?_;rintro r w1 ⟨rfl,u1,rfl,hu1⟩;go_wp2_with fail
 refine HC2.out.mono ?_;rintro r w2 ⟨rfl,u2,rfl,hu2⟩;clear HC1 HC2;obtain⟨b1,c1,rfl⟩:=hu1.slice;obtain⟨b2,c2,rfl⟩:=hu2.slice;have HU1:=zz hu1;have HU2:=zz hu2;clear hu1 hu2;obtain⟨n,hn⟩:∃ n,n=(zAb x).length:=⟨_,rfl⟩;obtain⟨m,hm⟩:∃ m,m=(zAb y).length:=⟨_,rfl⟩;have HN:=zz hn;have HM:=zz hm;rw[<-hn] at hn1 ⊢;rw[<-hm] at hm1 ⊢;clear hn hm;by_cases hnm:n=m
 ·subst hnm;have g0:((n:Int) != (n:Int))=false:=by simp
  have hb0:Below w2.heap.size w2 w2:=zK _ _;have HB0:=zz hb0;clear hb0;go_upto_region 5 with fail
  go_loopw [5,6,23] (fun _ _ i wr=>∃ j:Nat,j<=n/\i=.int .i64 j/\Hid ((zAb x).drop (n - j)=(zAb y).drop (n - j))/\Hid (Below w2.heap.size w2 wr)) (fun _ _ i _=>n - (intOf i).toNat)
  case atStart=>
   refine⟨0,by omega,rfl,zz ?_,HB0⟩;rw[Nat.sub_zero,List.drop_of_length_le (by rw[HN.out];exact zQ _),List.drop_of_length_le (by rw[HM.out];exact zQ _)]
  case round=>
   clear HB0;obtain⟨j,hj,rfl,HD,HX⟩:=hrel;by_cases h1:j<n
   ·obtain⟨k,hk⟩:∃ k,k=n - j - 1:=⟨_,rfl⟩;have hk1:k<(zAb x).length:=by have:=HN.out;omega
    have hk2:k<(zAb y).length:=by have:=HM.out;omega
    have hnk:n - j=k+1:=by omega
    rw[hnk] at HD;obtain⟨_,⟨_,hy⟩|⟨bk1,of1,cp1,hv1,_,_,_,p1⟩⟩:=HU1.out.below HX.out
    ·rw[hy] at hk1;simp at hk1
    obtain⟨_,⟨_,hy⟩|⟨bk2,of2,cp2,hv2,_,_,_,p2⟩⟩:=HU2.out.below HX.out
    ·rw[hy] at hk2;simp at hk2
    simp only[Value.slice.injEq] at hv1 hv2;obtain⟨rfl,-,rfl⟩:=hv1;obtain⟨rfl,-,rfl⟩:=hv2;have hc1:=p1 k hk1;have hc2:=p2 k hk2;have g1:(j:Int)<(n:Int):=by omega
    have g2:IntKind.i64.wrap ((n:Int) - 1)=(n:Int) - 1:=zY _ (by omega);have g3:IntKind.i64.wrap ((n:Int) - 1 - (j:Int))=(k:Int):=by rw[zY _ (by omega)];omega
    have g4:(k:Int)<(n:Int):=by omega
    have HH:=zz (show k=n - j - 1 from hk);by_cases he:(zAb x).getD k 0=(zAb y).getD k 0
    ·have HD2:Hid ((zAb x).drop (n - (j+1))=(zAb y).drop (n - (j+1))):=zz (by
      rw[show n - (j+1)=k by omega,zCr _ _ hk1,zCr _ _ hk2,HD.out,he])
     rw[<-he] at hc2;generalize (zAb x).getD k 0=X at hc1 hc2;clear p1 p2 he hk hnk hk1 hk2 HD;go_upto_region 8 with fail
     go_quiet (fail)
     have HX2:=zz (zAd HX.out nq);clear hc1 hc2 HX;generalize wr.drewN nq=w4 at HX2 ⊢;go_wp2;go_roundw
     case rel=>exact⟨j+1,by omega,by simp,HD2,HX2⟩
     case measure=>simp[intOf];omega
    ·have HE:=zz (zLE hk1 hk2 HD.out he);have hne:(((zAb x).getD k 0:Nat):Int)≠(((zAb y).getD k 0:Nat):Int):=by omega
     have g5:((((zAb x).getD k 0:Nat):Int) != (((zAb y).getD k 0:Nat):Int))=true:=by rw[bne_iff_ne];exact hne
     generalize (zAb x).getD k 0=X at hc1 HE g5;generalize (zAb y).getD k 0=Y at hc2 HE g5;clear p1 p2 he hk hnk hk1 hk2 HD hne;go_upto_region 8 with fail
     go_quiet (fail)
     have HX2:=zz (zAd HX.out nq);have d1:(wr.drewN nq).cell? ⟨bk1,of1+k,none⟩=some (.int .u32 (X:Int)):=hc1;have d2:(wr.drewN nq).cell? ⟨bk2,of2+k,none⟩=some (.int .u32 (Y:Int)):=hc2;clear hc1 hc2 HX;generalize wr.drewN nq=w4 at HX2 d1 d2 ⊢;have HCU:=zz (fun w=>(zGC w X Y).mono (fun _ _ h=>And.intro h.2 h.1));go_upto_region 9 with fail
     go_quiet ((go_at_call 91;exact Calls.quiet_of_same (HCU.out _)))
     go_wp2;go_ret;exact⟨by rw[HE.out];rfl,zAd HX2.out _⟩
   ·obtain rfl:j=n:=by omega
    have g1:¬ (j:Int)<(j:Int):=by omega
    have HE:Hid (zBo x y=0):=zz (by
     have:=HD.out;rw[Nat.sub_self,List.drop_zero,List.drop_zero] at this;have h3:=congrArg val this;rw[zAe,zAe] at h3;rw[h3];simp[zBo])
    go_wp2;go_ret;exact⟨by rw[HE.out];rfl,HX.out⟩
 ·have g0:((n:Int) != (m:Int))=true:=by rw[bne_iff_ne];omega
  have HE:=zz (zMi HN.out.symm HM.out.symm hnm);go_wp2_with fail
  refine (zGY w2 n m).mono ?_;rintro e w3 ⟨rfl,rfl⟩;rw[HE.out];go_wp2;go_ret;exact⟨rfl,zK _ _⟩
theorem zDi(w:World)(a b c:Nat)(ha:a<4294967296)(hb:b<4294967296)(hc:c<4294967296):
  Calls Tryz.prog 241 #[.int .u32 (a:Int),.int .u32 (b:Int),.int .u32 (c:Int)] w fun e w'=>e=.returned (.tuple #[.int .u32 (((a+b+c) % 4294967296:Nat):Int),.int .u32 (((a+b+c) / 4294967296:Nat):Int)])/\w'=w:=by
 have g1:IntKind.u64.wrap (a:Int)=(a:Int):=by rw[IntKind.wrap_u64];omega
 have g2:IntKind.u64.wrap (b:Int)=(b:Int):=by rw[IntKind.wrap_u64];omega
 have g3:IntKind.u64.wrap (c:Int)=(c:Int):=by rw[IntKind.wrap_u64];omega
 have g4:IntKind.u64.wrap ((a:Int)+(b:Int))=(a:Int)+(b:Int):=by rw[IntKind.wrap_u64];omega
 have g5:IntKind.u64.wrap ((a:Int)+(b:Int)+(c:Int))=((a+b+c:Nat):Int):=by rw[IntKind.wrap_u64];omega
 obtain⟨S,hS⟩:∃ S,S=a+b+c:=⟨_,rfl⟩;rw[<-hS] at g5 ⊢;have g6:IntKind.u32.wrap (S:Int)=((S % 4294967296:Nat):Int):=by rw[IntKind.wrap_u32];omega
 have g7:(S:Int) % 4294967296=((S % 4294967296:Nat):Int):=by omega
 have g8:(S:Int) / 4294967296=((S / 4294967296:Nat):Int):=by omega
 have g9:IntKind.u32.wrap ((S / 4294967296:Nat):Int)=((S / 4294967296:Nat):Int):=by rw[IntKind.wrap_u32];omega
 have g10:((S / 4294967296:Nat):Int) % 4294967296=((S / 4294967296:Nat):Int):=by omega
 generalize ((S % 4294967296:Nat):Int)=M at *;generalize ((S / 4294967296:Nat):Int)=Q at *;clear hS;generalize (S:Int)=T at *;go_enter Tryz.func241,Tryz.ntmps241
 go_wp2;go_ret2
 exact⟨rfl,rfl⟩
theorem zOr(w:World)(v v2:Value)(a b:List Nat)(h:zAf w v a)(h2:zAf w v2 b)(hl:a.length<=17179869184)(hl2:b.length<=a.length):
  Calls Tryz.prog 224 #[v,v2] w fun e w'=>Below w.heap.size w w'/\∃ v',e=.returned v'/\zAf w' v' (zAb (val a+val b)):=by
 have HFA:=zz h.fit;have HFB:=zz h2.fit;obtain⟨b1,c1,rfl⟩:=h.slice;obtain⟨b2,c2,rfl⟩:=h2.slice;obtain⟨n,hn⟩:∃ n,n=a.length:=⟨_,rfl⟩;obtain⟨m,hm⟩:∃ m,m=b.length:=⟨_,rfl⟩;have HLA:=zz h;have HLB:=zz h2;have HN:=zz hn;have HM:=zz hm;rw[<-hn,<-hm] at hl2;rw[<-hn] at hl ⊢;rw[<-hm];clear h h2 hn hm;have g0:¬ (n:Int)<(m:Int):=by omega
 have gw:IntKind.i64.wrap ((n:Int)+1)=(n:Int)+1:=zY _ (by omega);have hmk:=zA2 w (n+1) (by omega);rw[show ((n+1:Nat):Int)=(n:Int)+1 by omega] at hmk;have hB:=Blk.new w (zAi (List.replicate (n+1) 0)) 139;have hb:Below w.heap.size w (w.alloc (.cells (zAi (List.replicate (n+1) 0)) 139)):=(zK _ _).alloc (zQ _) _;go_enter Tryz.func224,Tryz.ntmps224
 go_upto_region 4 with fail
 clear hmk;generalize w.alloc (.cells (zAi (List.replicate (n+1) 0)) 139)=w1 at hB hb ⊢;have HB:=zz hB;have HX:=zz hb;clear hB hb;go_upto_region 6 with fail
 go_loopw [6,7,8,22] (fun cv _ _ i wr=>∃ (j c:Nat) (o:List Nat),j<=n/\i=.int .i64 j/\cv=.int .u32 (c:Nat)/\c<4294967296/\Hid (o.length=n+1/\Fit o/\val (o.take j)+4294967296 ^ j*c=val (a.take j)+val (b.take j))/\Hid (Blk wr w.heap.size (zAi o) 139)/\Hid (Below w.heap.size w wr)) (fun _ _ _ i _=>n - (intOf i).toNat)
 case atStart=>
  refine⟨0,0,List.replicate (n+1) 0,by omega,rfl,rfl,by decide,zz ⟨by simp,?_,by simp[val]⟩,HB,HX⟩;intro x hx;have:=List.eq_of_mem_replicate hx;omega
 case round=>
  clear HB HX;obtain⟨j,c,o,hj,rfl,rfl,hc,HO,HB,HX⟩:=hrel;by_cases h1:j<n
  ·have g1:(j:Int)<(n:Int):=by omega
   obtain⟨_,⟨_,hy⟩|⟨bk1,of1,cp1,hv1,_,_,_,p1⟩⟩:=HLA.out.below HX.out
   ·have:=HN.out;rw[hy] at this;simp at this;omega
   simp only[Value.slice.injEq] at hv1;obtain⟨rfl,-,rfl⟩:=hv1;have hcA:=p1 j (by have:=HN.out;omega);have hxf:=zAw HFA.out j (by have:=HN.out;omega);have HST:=zz (zHQ o a b j c (by have:=HO.out.1;omega) HO.out.2.2);have g5:(j:Int)<(n:Int)+1:=by omega
   have e0:wr.cell? ⟨w.heap.size,j,none⟩=some (.int .u32 ((o.getD j 0:Nat):Int)):=by rw[HB.out.cell,zAD _ _ (by have:=HO.out.1;omega)]
   have f0:wr.frozen? ⟨w.heap.size,j,none⟩=false:=HB.out.free j;by_cases h2:j<m
   ·have g2:(j:Int)<(m:Int):=by omega
    obtain⟨_,⟨_,hy⟩|⟨bk2,of2,cp2,hv2,_,_,_,p2⟩⟩:=HLB.out.below HX.out
    ·have:=HM.out;rw[hy] at this;simp at this;omega
    simp only[Value.slice.injEq] at hv2;obtain⟨rfl,-,rfl⟩:=hv2;have hcB:=p2 j (by have:=HM.out;omega);have hyf:=zAw HFB.out j (by have:=HM.out;omega);generalize a.getD j 0=x at hcA hxf HST;generalize b.getD j 0=y at hcB hyf HST;have HAD:=zz (fun w=>zDi w x y c hxf hyf hc);have hq:(x+y+c) / 4294967296<4294967296:=by omega
    have hr:(x+y+c) % 4294967296<4294967296:=by omega
    generalize (x+y+c) / 4294967296=q at HAD HST hq;generalize (x+y+c) % 4294967296=r at HAD HST hr;have HR:=zz hr;clear p1 p2 hr;generalize (o.getD j 0:Nat)=ou at e0;go_wp2_with fail
    refine (HAD.out _).mono ?_;rintro e w2 ⟨rfl,rfl⟩;have hB3:=HB.out.set j (.int .u32 (r:Int));rw[zAE] at hB3;have HB3:=zz hB3;have HX3:=zz (HX.out.setCell (p:=⟨w.heap.size,j,none⟩) (zQ _) (.int .u32 (r:Int)));clear hB3;go_wp2;go_roundw
    case rel=>exact⟨j+1,q,o.set j r,by omega,by simp,rfl,hq,zz ⟨by simpa using HO.out.1,zCv HO.out.2.1 _ _ HR.out,HST.out⟩,HB3,HX3⟩
    case measure=>simp[intOf];omega
   ·have g2:¬ (j:Int)<(m:Int):=by omega
    have hy0:b.getD j 0=0:=by rw[zw,List.getElem?_eq_none (by have:=HM.out;omega)];rfl
    rw[hy0] at HST;generalize a.getD j 0=x at hcA hxf HST;have HAD:=zz (fun w=>zDi w x 0 c hxf (by decide) hc);have hq:(x+0+c) / 4294967296<4294967296:=by omega
    have hr:(x+0+c) % 4294967296<4294967296:=by omega
    generalize (x+0+c) / 4294967296=q at HAD HST hq;generalize (x+0+c) % 4294967296=r at HAD HST hr;have HR:=zz hr;clear p1 hy0 hr;generalize (o.getD j 0:Nat)=ou at e0;go_wp2_with fail
    refine (HAD.out _).mono ?_;rintro e w2 ⟨rfl,rfl⟩;have hB3:=HB.out.set j (.int .u32 (r:Int));rw[zAE] at hB3;have HB3:=zz hB3;have HX3:=zz (HX.out.setCell (p:=⟨w.heap.size,j,none⟩) (zQ _) (.int .u32 (r:Int)));clear hB3;go_wp2;go_roundw
    case rel=>exact⟨j+1,q,o.set j r,by omega,by simp,rfl,hq,zz ⟨by simpa using HO.out.1,zCv HO.out.2.1 _ _ HR.out,HST.out⟩,HB3,HX3⟩
    case measure=>simp[intOf];omega
  ·obtain rfl:j=n:=by omega
   have g1:¬ (j:Int)<(j:Int):=by omega
   have g5:(j:Int)<(j:Int)+1:=by omega
   have HV:Hid (val (o.set j c)=val a+val b):=zz (by
    have:=zIf o a b j c HO.out.1 HN.out.symm (by have:=HM.out;omega) HO.out.2.2;omega)
   have HF:Hid (Fit (o.set j c)):=zz (zCv HO.out.2.1 _ _ hc);have HLE:Hid (j+1=(o.set j c).length):=zz (by simpa using HO.out.1.symm);have e0:wr.cell? ⟨w.heap.size,j,none⟩=some (.int .u32 ((o.getD j 0:Nat):Int)):=by rw[HB.out.cell,zAD _ _ (by have:=HO.out.1;omega)]
   have f0:wr.frozen? ⟨w.heap.size,j,none⟩=false:=HB.out.free j;generalize (o.getD j 0:Nat)=ou at e0;have hB3:=HB.out.set j (.int .u32 (c:Int));rw[zAE] at hB3;have HX3:=zz (HX.out.setCell (p:=⟨w.heap.size,j,none⟩) (zQ _) (.int .u32 (c:Int)));have hlim:=Blk.limbs hB3 (n:=j+1) HF.out HLE.out (by omega);have HCT:=zz (zAC _ _ _ hlim);rw[zAv HF.out,HV.out] at HCT;clear hB3 hlim HO HB HX;go_wp2_with fail
   refine HCT.out.mono ?_;rintro e w2 ⟨rfl,v3,rfl,h3⟩;have H3:=zz h3;clear h3;go_wp2;go_ret;exact⟨HX3.out,_,rfl,H3.out⟩
theorem zOf(w:World)(v v2:Value)(a b:List Nat)(h:zAf w v a)(h2:zAf w v2 b)(hl:b.length<=17179869184)(hl2:a.length<b.length):
  Calls Tryz.prog 224 #[v,v2] w fun e w'=>Below w.heap.size w w'/\∃ v',e=.returned v'/\zAf w' v' (zAb (val a+val b)):=by
 have HFA:=zz h2.fit;have HFB:=zz h.fit;obtain⟨b1,c1,rfl⟩:=h.slice;obtain⟨b2,c2,rfl⟩:=h2.slice;obtain⟨n,hn⟩:∃ n,n=b.length:=⟨_,rfl⟩;obtain⟨m,hm⟩:∃ m,m=a.length:=⟨_,rfl⟩;have HLA:=zz h2;have HLB:=zz h;have HN:=zz hn;have HM:=zz hm;rw[<-hn,<-hm] at hl2;rw[<-hn] at hl ⊢;rw[<-hm];clear h h2 hn hm;have g0:(m:Int)<(n:Int):=by omega
 have gw:IntKind.i64.wrap ((n:Int)+1)=(n:Int)+1:=zY _ (by omega);have hmk:=zA2 w (n+1) (by omega);rw[show ((n+1:Nat):Int)=(n:Int)+1 by omega] at hmk;have hB:=Blk.new w (zAi (List.replicate (n+1) 0)) 139;have hb:Below w.heap.size w (w.alloc (.cells (zAi (List.replicate (n+1) 0)) 139)):=(zK _ _).alloc (zQ _) _;go_enter Tryz.func224,Tryz.ntmps224
 go_upto_region 4 with fail
 clear hmk;generalize w.alloc (.cells (zAi (List.replicate (n+1) 0)) 139)=w1 at hB hb ⊢;have HB:=zz hB;have HX:=zz hb;clear hB hb;go_upto_region 6 with fail
 go_loopw [6,7,8,22] (fun cv _ _ i wr=>∃ (j c:Nat) (o:List Nat),j<=n/\i=.int .i64 j/\cv=.int .u32 (c:Nat)/\c<4294967296/\Hid (o.length=n+1/\Fit o/\val (o.take j)+4294967296 ^ j*c=val (b.take j)+val (a.take j))/\Hid (Blk wr w.heap.size (zAi o) 139)/\Hid (Below w.heap.size w wr)) (fun _ _ _ i _=>n - (intOf i).toNat)
 case atStart=>
  refine⟨0,0,List.replicate (n+1) 0,by omega,rfl,rfl,by decide,zz ⟨by simp,?_,by simp[val]⟩,HB,HX⟩;intro x hx;have:=List.eq_of_mem_replicate hx;omega
 case round=>
  clear HB HX;obtain⟨j,c,o,hj,rfl,rfl,hc,HO,HB,HX⟩:=hrel;by_cases h1:j<n
  ·have g1:(j:Int)<(n:Int):=by omega
   obtain⟨_,⟨_,hy⟩|⟨bk1,of1,cp1,hv1,_,_,_,p1⟩⟩:=HLA.out.below HX.out
   ·have:=HN.out;rw[hy] at this;simp at this;omega
   simp only[Value.slice.injEq] at hv1;obtain⟨rfl,-,rfl⟩:=hv1;have hcA:=p1 j (by have:=HN.out;omega);have hxf:=zAw HFA.out j (by have:=HN.out;omega);have HST:=zz (zHQ o b a j c (by have:=HO.out.1;omega) HO.out.2.2);have g5:(j:Int)<(n:Int)+1:=by omega
   have e0:wr.cell? ⟨w.heap.size,j,none⟩=some (.int .u32 ((o.getD j 0:Nat):Int)):=by rw[HB.out.cell,zAD _ _ (by have:=HO.out.1;omega)]
   have f0:wr.frozen? ⟨w.heap.size,j,none⟩=false:=HB.out.free j;by_cases h2:j<m
   ·have g2:(j:Int)<(m:Int):=by omega
    obtain⟨_,⟨_,hy⟩|⟨bk2,of2,cp2,hv2,_,_,_,p2⟩⟩:=HLB.out.below HX.out
    ·have:=HM.out;rw[hy] at this;simp at this;omega
    simp only[Value.slice.injEq] at hv2;obtain⟨rfl,-,rfl⟩:=hv2;have hcB:=p2 j (by have:=HM.out;omega);have hyf:=zAw HFB.out j (by have:=HM.out;omega);generalize b.getD j 0=x at hcA hxf HST;generalize a.getD j 0=y at hcB hyf HST;have HAD:=zz (fun w=>zDi w x y c hxf hyf hc);have hq:(x+y+c) / 4294967296<4294967296:=by omega
    have hr:(x+y+c) % 4294967296<4294967296:=by omega
    generalize (x+y+c) / 4294967296=q at HAD HST hq;generalize (x+y+c) % 4294967296=r at HAD HST hr;have HR:=zz hr;clear p1 p2 hr;generalize (o.getD j 0:Nat)=ou at e0;go_wp2_with fail
    refine (HAD.out _).mono ?_;rintro e w2 ⟨rfl,rfl⟩;have hB3:=HB.out.set j (.int .u32 (r:Int));rw[zAE] at hB3;have HB3:=zz hB3;have HX3:=zz (HX.out.setCell (p:=⟨w.heap.size,j,none⟩) (zQ _) (.int .u32 (r:Int)));clear hB3;go_wp2;go_roundw
    case rel=>exact⟨j+1,q,o.set j r,by omega,by simp,rfl,hq,zz ⟨by simpa using HO.out.1,zCv HO.out.2.1 _ _ HR.out,HST.out⟩,HB3,HX3⟩
    case measure=>simp[intOf];omega
   ·have g2:¬ (j:Int)<(m:Int):=by omega
    have hy0:a.getD j 0=0:=by rw[zw,List.getElem?_eq_none (by have:=HM.out;omega)];rfl
    rw[hy0] at HST;generalize b.getD j 0=x at hcA hxf HST;have HAD:=zz (fun w=>zDi w x 0 c hxf (by decide) hc);have hq:(x+0+c) / 4294967296<4294967296:=by omega
    have hr:(x+0+c) % 4294967296<4294967296:=by omega
    generalize (x+0+c) / 4294967296=q at HAD HST hq;generalize (x+0+c) % 4294967296=r at HAD HST hr;have HR:=zz hr;clear p1 hy0 hr;generalize (o.getD j 0:Nat)=ou at e0;go_wp2_with fail
    refine (HAD.out _).mono ?_;rintro e w2 ⟨rfl,rfl⟩;have hB3:=HB.out.set j (.int .u32 (r:Int));rw[zAE] at hB3;have HB3:=zz hB3;have HX3:=zz (HX.out.setCell (p:=⟨w.heap.size,j,none⟩) (zQ _) (.int .u32 (r:Int)));clear hB3;go_wp2;go_roundw
    case rel=>exact⟨j+1,q,o.set j r,by omega,by simp,rfl,hq,zz ⟨by simpa using HO.out.1,zCv HO.out.2.1 _ _ HR.out,HST.out⟩,HB3,HX3⟩
    case measure=>simp[intOf];omega
  ·obtain rfl:j=n:=by omega
   have g1:¬ (j:Int)<(j:Int):=by omega
   have g5:(j:Int)<(j:Int)+1:=by omega
   have HV:Hid (val (o.set j c)=val a+val b):=zz (by
    have:=zIf o b a j c HO.out.1 HN.out.symm (by have:=HM.out;omega) HO.out.2.2;omega)
   have HF:Hid (Fit (o.set j c)):=zz (zCv HO.out.2.1 _ _ hc);have HLE:Hid (j+1=(o.set j c).length):=zz (by simpa using HO.out.1.symm);have e0:wr.cell? ⟨w.heap.size,j,none⟩=some (.int .u32 ((o.getD j 0:Nat):Int)):=by rw[HB.out.cell,zAD _ _ (by have:=HO.out.1;omega)]
   have f0:wr.frozen? ⟨w.heap.size,j,none⟩=false:=HB.out.free j;generalize (o.getD j 0:Nat)=ou at e0;have hB3:=HB.out.set j (.int .u32 (c:Int));rw[zAE] at hB3;have HX3:=zz (HX.out.setCell (p:=⟨w.heap.size,j,none⟩) (zQ _) (.int .u32 (c:Int)));have hlim:=Blk.limbs hB3 (n:=j+1) HF.out HLE.out (by omega);have HCT:=zz (zAC _ _ _ hlim);rw[zAv HF.out,HV.out] at HCT;clear hB3 hlim HO HB HX;go_wp2_with fail
   refine HCT.out.mono ?_;rintro e w2 ⟨rfl,v3,rfl,h3⟩;have H3:=zz h3;clear h3;go_wp2;go_ret;exact⟨HX3.out,_,rfl,H3.out⟩
theorem zL3(w:World)(v v2:Value)(a b:List Nat)(h:zAf w v a)(h2:zAf w v2 b)(hl:a.length<=17179869184)(hl2:b.length<=17179869184):
  Calls Tryz.prog 224 #[v,v2] w fun e w'=>Below w.heap.size w w'/\∃ v',e=.returned v'/\zAf w' v' (zAb (val a+val b)):=by
 rcases Nat.lt_or_ge a.length b.length with h3|h3
 ·exact zOf w v v2 a b h h2 hl2 h3
 ·exact zOr w v v2 a b h h2 hl h3
theorem zGJ(o:List Nat)(i j x:Nat)(h:i≠j):(o.set i x).getD j 0=o.getD j 0:=by
 rw[zw,List.getElem?_set_ne h,<-zw]
theorem zCp(w:World)(v v2:Value)(a b:List Nat)(h:zAf w v a)(h2:zAf w v2 b)(hl:a.length<=8589934592)(hl2:b.length<=8589934592):
  Calls Tryz.prog 186 #[v,v2] w fun e w'=>Below w.heap.size w w'/\∃ v',e=.returned v'/\zAf w' v' (zAb (val a*val b)):=by
 have HC1:=zz (zAC w v a h);have HC2:=zz (zAC w v2 b h2);rw[zAv h.fit] at HC1;rw[zAv h2.fit] at HC2;have hn1:(zAb (val a)).length<=8589934592:=by rw[<-zAv h.fit,zAG];have:=zBT a;omega
 have hm1:(zAb (val b)).length<=8589934592:=by rw[<-zAv h2.fit,zAG];have:=zBT b;omega
 clear h h2 hl hl2;generalize val a=x at *;generalize val b=y at *;go_enter Tryz.func186,Tryz.ntmps186
 go_wp2_with fail
 refine HC1.out.mono ?_;rintro r w1 ⟨rfl,u1,rfl,hu1⟩;go_wp2_with fail
 refine HC2.out.mono ?_;rintro r w ⟨rfl,u2,rfl,hu2⟩;clear HC1 HC2;obtain⟨b1,c1,rfl⟩:=hu1.slice;obtain⟨b2,c2,rfl⟩:=hu2.slice;have HU1:=zz hu1;have HU2:=zz hu2;clear hu1 hu2;obtain⟨n,hn⟩:∃ n,n=(zAb x).length:=⟨_,rfl⟩;obtain⟨m,hm⟩:∃ m,m=(zAb y).length:=⟨_,rfl⟩;obtain⟨N,hN⟩:∃ N,N=n+m:=⟨_,rfl⟩;have HN:=zz hn;have HM:=zz hm;have HNN:=zz hN;rw[<-hn] at hn1 ⊢;rw[<-hm] at hm1 ⊢;have gw:IntKind.i64.wrap ((n:Int)+(m:Int))=(N:Int):=by rw[zY _ (by omega)];omega
 have hmk:=zA2 w N (by omega);have hB:=Blk.new w (zAi (List.replicate N 0)) 139;have hb:Below w.heap.size w (w.alloc (.cells (zAi (List.replicate N 0)) 139)):=(zK _ _).alloc (zQ _) _;have hN2:N<=17179869184:=by omega
 clear hn hm hN;go_upto_region 3 with fail
 clear hmk;generalize w.alloc (.cells (zAi (List.replicate N 0)) 139)=w1 at hB hb ⊢;have HB:=zz hB;have HX:=zz hb;clear hB hb;go_upto_region 4 with fail
 go_loopw [6,21] (fun _ i wr=>∃ (j:Nat) (o:List Nat),j<=n/\i=.int .i64 j/\Hid (o.length=N/\Fit o/\val o=val ((zAb x).take j)*val (zAb y))/\Hid (Blk wr w.heap.size (zAi o) 139)/\Hid (Below w.heap.size w wr)) (fun _ i _=>n - (intOf i).toNat)
 case atStart=>
  refine⟨0,List.replicate N 0,by omega,rfl,zz ⟨by simp,?_,?_⟩,HB,HX⟩
  ·intro x hx;have:=List.eq_of_mem_replicate hx;omega
  ·have:=zFZ N [];simp only[List.nil_append] at this
   have h0:∀ d,val (List.replicate d 0)=0:=by
    intro d
    induction d with
    | zero=>rfl
    | succ d ih=>rw[List.replicate_succ,val,ih]
   simp[h0,val]
 case round=>
  clear HB HX;obtain⟨j,o,hj,rfl,HO,HB,HX⟩:=hrel;by_cases h1:j<n
  ·have g1:(j:Int)<(n:Int):=by omega
   have HZ:=zz (zGA o (zAb x) (zAb y) j (zAB y) (zAB x) (by rw[<-HM.out,HO.out.1];have:=HNN.out;omega) (by rw[<-HN.out];exact h1) HO.out.2.2);rw[<-HM.out] at HZ;go_upto_region 8 with fail
   go_loopw [7,8,26] (fun cv _ i w2=>∃ (k c:Nat) (o2:List Nat),k<=m/\i=.int .i64 k/\cv=.int .u64 (c:Nat)/\c<4294967296/\Hid (o2.length=N/\Fit o2/\o2.getD (j+m) 0=0/\val o2+4294967296 ^ (j+k)*c=val ((zAb x).take j)*val (zAb y)+(zAb x).getD j 0*val ((zAb y).take k)*4294967296 ^ j)/\Hid (Blk w2 w.heap.size (zAi o2) 139)/\Hid (Below w.heap.size w w2)) (fun _ _ i _=>m - (intOf i).toNat)
   case atStart=>exact⟨0,0,o,by omega,rfl,rfl,by decide,zz ⟨HO.out.1,HO.out.2.1,HZ.out,by rw[HO.out.2.2];simp[val]⟩,HB,HX⟩
   case round=>
    clear HO HB HX HZ;obtain⟨k,c,o2,hk,rfl,rfl,hc,HO,HB,HX⟩:=hrel;by_cases h2:k<m
    ·obtain⟨s,hs⟩:∃ s,s=j+k:=⟨_,rfl⟩;have hsN:s<N:=by have:=HNN.out;omega
     have g2:(k:Int)<(m:Int):=by omega
     obtain⟨_,⟨_,hy⟩|⟨bk1,of1,cp1,hv1,_,_,_,p1⟩⟩:=HU1.out.below HX.out
     ·have:=HN.out;rw[hy] at this;simp at this;omega
     simp only[Value.slice.injEq] at hv1;obtain⟨rfl,-,rfl⟩:=hv1;obtain⟨_,⟨_,hy⟩|⟨bk2,of2,cp2,hv2,_,_,_,p2⟩⟩:=HU2.out.below HX.out
     ·have:=HM.out;rw[hy] at this;simp at this;omega
     simp only[Value.slice.injEq] at hv2;obtain⟨rfl,-,rfl⟩:=hv2;have hcA:=p1 j (by have:=HN.out;omega);have hcB:=p2 k (by have:=HM.out;omega);have hcO:wr.cell? ⟨w.heap.size,s,none⟩=some (.int .u32 ((o2.getD s 0:Nat):Int)):=by rw[HB.out.cell,zAD _ _ (by have:=HO.out.1;omega)]
     have f0:wr.frozen? ⟨w.heap.size,s,none⟩=false:=HB.out.free s;have hxf:=zAw (zAB x) j (by have:=HN.out;omega);have hyf:=zAw (zAB y) k (by have:=HM.out;omega);have hof:=zAw HO.out.2.1 s (by have:=HO.out.1;omega);have HST:=zz (zMU o2 (zAb x) (zAb y) j k c _ (by have:=HM.out;omega) (by have:=HO.out.1;omega) HO.out.2.2.2);have HZ2:Hid ((o2.set s ((c+((zAb x).getD j 0*(zAb y).getD k 0+o2.getD s 0)) % 4294967296)).getD (j+m) 0=0):=zz (by rw[zGJ _ _ _ _ (by omega)];exact HO.out.2.2.1);rw[<-hs] at HST;have hT2:=zMp hc hxf hyf hof;generalize (zAb x).getD j 0=X at hcA hxf HST HZ2 hT2;generalize (zAb y).getD k 0=Y at hcB hyf HST HZ2 hT2;generalize (o2.getD s 0:Nat)=Z at hcO hof HST HZ2 hT2;have gs:IntKind.i64.wrap ((j:Int)+(k:Int))=(s:Int):=by rw[zY _ (by omega)];omega
     have gs2:(s:Int)<(N:Int):=by omega
     have q1:IntKind.u64.wrap (X:Int)=(X:Int):=by rw[IntKind.wrap_u64];omega
     have q2:IntKind.u64.wrap (Y:Int)=(Y:Int):=by rw[IntKind.wrap_u64];omega
     have q3:IntKind.u64.wrap (Z:Int)=(Z:Int):=by rw[IntKind.wrap_u64];omega
     obtain⟨M,hM⟩:∃ M,M=X*Y:=⟨_,rfl⟩;rw[<-hM] at HST HZ2 hT2
     have q4:IntKind.u64.wrap ((X:Int)*(Y:Int))=(M:Int):=by
      rw[show (X:Int)*(Y:Int)=(M:Int) by rw[hM];simp,IntKind.wrap_u64];omega
     obtain⟨T,hT⟩:∃ T,T=c+(M+Z):=⟨_,rfl⟩;rw[<-hT] at HST HZ2 hT2;have q5:IntKind.u64.wrap ((M:Int)+(Z:Int))=(M:Int)+(Z:Int):=by rw[IntKind.wrap_u64];omega
     have q6:IntKind.u64.wrap ((c:Int)+((M:Int)+(Z:Int)))=(T:Int):=by rw[IntKind.wrap_u64];omega
     have q7:IntKind.u32.wrap (T:Int)=((T % 4294967296:Nat):Int):=by rw[IntKind.wrap_u32];omega
     have q8:(T:Int) % 4294967296=((T % 4294967296:Nat):Int):=by omega
     have q9:(T:Int) / 4294967296=((T / 4294967296:Nat):Int):=by omega
     have hq:T / 4294967296<4294967296:=by omega
     have hr:T % 4294967296<4294967296:=by omega
     generalize T / 4294967296=Q at q9 HST hq;generalize T % 4294967296=R at q7 q8 HST HZ2 hr;have HR:=zz hr;have HS:=zz hs;clear p1 p2 hr hs hM hT hxf hyf hof hT2 hsN;go_upto_region 10 with fail
     go_quiet (fail)
     have hB3:=(HB.out.drewN nq).set s (.int .u32 (R:Int));rw[zAE] at hB3;have HB3:=zz hB3;have HX3:=zz ((zAd HX.out nq).setCell (p:=⟨w.heap.size,s,none⟩) (zQ _) (.int .u32 (R:Int)));clear hB3;go_wp2;go_roundw
     case rel=>exact⟨k+1,Q,o2.set s R,by omega,by simp,rfl,hq,zz ⟨by simpa using HO.out.1,zCv HO.out.2.1 _ _ HR.out,HZ2.out,HST.out⟩,HB3,HX3⟩
     case measure=>simp[intOf];omega
    ·obtain rfl:k=m:=by omega
     have g2:¬ (k:Int)<(k:Int):=by omega
     obtain⟨s,hs⟩:∃ s,s=j+k:=⟨_,rfl⟩;have hsN:s<N:=by have:=HNN.out;omega
     have gs:IntKind.i64.wrap ((j:Int)+(k:Int))=(s:Int):=by rw[zY _ (by omega)];omega
     have gs2:(s:Int)<(N:Int):=by omega
     have q7:IntKind.u32.wrap (c:Int)=(c:Int):=by rw[IntKind.wrap_u32];omega
     have q8:(c:Int) % 4294967296=(c:Int):=by omega
     have hcO:wr.cell? ⟨w.heap.size,s,none⟩=some (.int .u32 ((o2.getD s 0:Nat):Int)):=by rw[HB.out.cell,zAD _ _ (by have:=HO.out.1;omega)]
     have f0:wr.frozen? ⟨w.heap.size,s,none⟩=false:=HB.out.free s
     have HV:Hid (val (o2.set s c)=val ((zAb x).take (j+1))*val (zAb y)):=zz (by
      have:=zMW o2 (zAb x) (zAb y) j c _ (by rw[<-HM.out,HO.out.1,<-hs];exact hsN) (by rw[<-HM.out];exact HO.out.2.2.1) (by rw[<-HN.out];exact h1) rfl (by rw[<-HM.out];exact HO.out.2.2.2);rw[<-HM.out,<-hs] at this;exact this)
     generalize (o2.getD s 0:Nat)=Z at hcO;have hB3:=HB.out.set s (.int .u32 (c:Int));rw[zAE] at hB3;have HB3:=zz hB3;have HX3:=zz (HX.out.setCell (p:=⟨w.heap.size,s,none⟩) (zQ _) (.int .u32 (c:Int)));clear hB3 hs hsN;go_wp2;go_roundw
     case rel=>exact⟨j+1,o2.set s c,by omega,by simp,zz ⟨by simpa using HO.out.1,zCv HO.out.2.1 _ _ hc,HV.out⟩,HB3,HX3⟩
     case measure=>simp[intOf];omega
  ·obtain rfl:j=n:=by omega
   have g1:¬ (j:Int)<(j:Int):=by omega
   have HV:Hid (val o=x*y):=zz (by
    rw[HO.out.2.2,List.take_of_length_le (by rw[<-HN.out];exact zQ _),zAe,zAe])
   have hlim:=Blk.limbs HB.out (n:=N) HO.out.2.1 HO.out.1.symm (by omega);have HCT:=zz (zAC _ _ _ hlim);rw[zAv HO.out.2.1,HV.out] at HCT;clear hlim HO HB;go_wp2_with fail
   refine HCT.out.mono ?_;rintro e w2 ⟨rfl,v3,rfl,h3⟩;have H3:=zz h3;clear h3;go_wp2;go_ret;exact⟨HX.out,_,rfl,H3.out⟩
end Go.Proofs.YtcanfakaigpkgaaGreatDoor.D
