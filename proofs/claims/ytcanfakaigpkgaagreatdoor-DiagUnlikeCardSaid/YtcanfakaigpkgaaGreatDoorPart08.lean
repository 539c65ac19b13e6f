/-
  Of the proof that the law DiagUnlike answers true at every two values: a part, without conditions of its own.
-/
import Derived.Test.YtcanfakaigpkgaaGreatDoorPart05
import Derived.Laws.AppendOwn
import Derived.Laws.EntriesVeiled
set_option linter.unusedVariables false
set_option linter.unusedSimpArgs false
set_option maxRecDepth 100000
set_option maxHeartbeats 8000000
namespace Go.Proofs.YtcanfakaigpkgaaGreatDoor.D
open Go Go.RowKit Limb
structure zAK (w:World):Prop where
 size:21<w.heap.size
 c6:w.cell? ⟨13,6,none⟩=some (.int .i64 52)
 c7:w.cell? ⟨13,7,none⟩=some (.int .i64 (-1074))
 c8:w.cell? ⟨13,8,none⟩=some (.int .i64 11)
theorem zAK.below{w w':World}{B:Nat}(h:zAK w)(hb:Below B w w')(hB:21<B):zAK w':=
 ⟨by have:=hb.size;have:=h.size;omega,by rw[hb.cell (p:=⟨13,6,none⟩) (by simp;omega)];exact h.c6,by rw[hb.cell (p:=⟨13,7,none⟩) (by simp;omega)];exact h.c7,by rw[hb.cell (p:=⟨13,8,none⟩) (by simp;omega)];exact h.c8⟩
def zDe:Int:=9223372036854775808
def zMI:Int:=9218868437227405312
theorem zCy(w:World)(hG:zAK w):
  Calls Tryz.prog 92 #[] w fun e w'=>e=.returned (.agg #[.int .i64 52,.int .i64 (-1074),.int .i64 11])/\Below w.heap.size w w':=by
 have hb:Below w.heap.size w (w.alloc (.cells #[.int .i64 0,.int .i64 0,.int .i64 0] 144)):=(zK _ _).alloc (zQ _) _;have hG1:=hG.below hb hG.size;have c6:=hG1.c6;have c7:=hG1.c7;have c8:=hG1.c8;clear hG1;have e1:(bits BinOp.xor IntKind.u64 IntKind.u64.max 0 == 65535)=false:=by decide
 have e2:(bits BinOp.xor IntKind.u64 IntKind.u64.max 0 == 4294967295)=false:=by decide
 have e3:(bits BinOp.xor IntKind.u64 (if IntKind.u64.signed=true then -1 else IntKind.u64.max) 0 == 65535)=false:=by decide
 have e4:(bits BinOp.xor IntKind.u64 (if IntKind.u64.signed=true then -1 else IntKind.u64.max) 0 == 4294967295)=false:=by decide
 go_enter Tryz.func92,Tryz.ntmps92
 go_wp2;exact bodyPost_ret (v:=.agg #[.int .i64 52,.int .i64 (-1074),.int .i64 11]) (by simp[results,Tryz.results92,go_sem]) rfl ⟨rfl,(zK _ _).alloc (zQ _) _⟩
theorem zD6(w:World):
  Calls Tryz.prog 93 #[.agg #[.int .i64 52,.int .i64 (-1074),.int .i64 11]] w fun e w'=>e=.returned (.int .u64 zDe)/\Below w.heap.size w w':=by
 go_enter Tryz.func93,Tryz.ntmps93
 go_wp2;go_ret;exact⟨rfl,(zK _ _).alloc (zQ _) _⟩
theorem zDH(w:World):
  Calls Tryz.prog 133 #[.agg #[.int .i64 52,.int .i64 (-1074),.int .i64 11]] w fun e w'=>e=.returned (.int .u64 zMI)/\Below w.heap.size w w':=by
 have hB:=Blk.new w #[.int .i64 52,.int .i64 (-1074),.int .i64 11] 144;have hb:Below w.heap.size w (w.alloc (.cells #[.int .i64 52,.int .i64 (-1074),.int .i64 11] 144)):=(zK _ _).alloc (zQ _) _;have HS:∀ w',Blk w' w.heap.size #[.int .i64 52,.int .i64 (-1074),.int .i64 11] 144->Below w.heap.size w w'->(w'.cell? ⟨w.heap.size,0,none⟩=some (.int .i64 52)/\w'.cell? ⟨w.heap.size,1,none⟩=some (.int .i64 (-1074))/\w'.cell? ⟨w.heap.size,2,none⟩=some (.int .i64 11)/\Blk w' w.heap.size #[.int .i64 52,.int .i64 (-1074),.int .i64 11] 144/\Below w.heap.size w w'):=fun w' h1 h2=>⟨h1.cell 0,h1.cell 1,h1.cell 2,h1,h2⟩
 have HS0:=zz (HS (w.alloc (.cells #[.int .i64 52,.int .i64 (-1074),.int .i64 11] 144)).drew hB.drew (zAd hb 1))
 have HT:Hid (∀ w' w'',(w'.cell? ⟨w.heap.size,0,none⟩=some (.int .i64 52)/\w'.cell? ⟨w.heap.size,1,none⟩=some (.int .i64 (-1074))/\w'.cell? ⟨w.heap.size,2,none⟩=some (.int .i64 11)/\Blk w' w.heap.size #[.int .i64 52,.int .i64 (-1074),.int .i64 11] 144/\Below w.heap.size w w')->Hid (Below w'.heap.size w' w'')->(w''.cell? ⟨w.heap.size,0,none⟩=some (.int .i64 52)/\w''.cell? ⟨w.heap.size,1,none⟩=some (.int .i64 (-1074))/\w''.cell? ⟨w.heap.size,2,none⟩=some (.int .i64 11)/\Blk w'' w.heap.size #[.int .i64 52,.int .i64 (-1074),.int .i64 11] 144/\Below w.heap.size w w'')):=zz (fun w' w'' h hk=>by
  obtain⟨-,-,-,h1,h2⟩:=h;exact HS w'' (h1.below hk.out h1.lt) (h2.trans (hk.out.mono (by have:=h1.lt;omega))))
 have HX:Hid (∀ w',(w'.cell? ⟨w.heap.size,0,none⟩=some (.int .i64 52)/\w'.cell? ⟨w.heap.size,1,none⟩=some (.int .i64 (-1074))/\w'.cell? ⟨w.heap.size,2,none⟩=some (.int .i64 11)/\Blk w' w.heap.size #[.int .i64 52,.int .i64 (-1074),.int .i64 11] 144/\Below w.heap.size w w')->Below w.heap.size w w'):=zz (fun w' h=>h.2.2.2.2);clear HS hB hb;go_enter Tryz.func133,Tryz.ntmps133
 go_upto_region 1 with fail
 go_region_held3 (fun w'=>(w'.cell? ⟨w.heap.size,0,none⟩=some (.int .i64 52)/\w'.cell? ⟨w.heap.size,1,none⟩=some (.int .i64 (-1074))/\w'.cell? ⟨w.heap.size,2,none⟩=some (.int .i64 11)/\Blk w' w.heap.size #[.int .i64 52,.int .i64 (-1074),.int .i64 11] 144/\Below w.heap.size w w'))
  (first
   | exact HS0.out
   | assumption
   | (refine HT.out _ _ ?_ hb9;assumption))
  ((go_at_call 93;refine (zD6 _).mono ?_;rintro e w9 ⟨rfl,hb9⟩;replace hb9:=zz hb9))
 have hbz:=zz (HX.out w9 (by assumption));go_wp2;go_ret;exact⟨rfl,hbz.out⟩
theorem zGi(w:World)(hG:zAK w)(b:Int)(h1:bits .and .u64 b zDe=0)(h2:bits .andNot .u64 b zDe=b):
  Calls Tryz.prog 53 #[.int .u64 b] w fun e w'=>e=.returned (.tuple #[.bool false,.int .u64 b])/\Below w.heap.size w w':=by
 go_enter Tryz.func53,Tryz.ntmps53
 go_wp2_with fail
 refine (zCy w hG).mono ?_;rintro e w1 ⟨rfl,hb1⟩;go_wp2_with fail
 refine (zD6 w1).mono ?_;rintro e w2 ⟨rfl,hb2⟩;have HB:=zz (hb1.trans (hb2.mono hb1.size));clear hb1 hb2;go_wp2;refine bodyPost_ret (v:=.tuple #[.bool false,.int .u64 b]) (by simp[results,Tryz.results53,go_sem]) rfl ⟨rfl,HB.out⟩
structure zHv (b:Int):Prop where
 a1:bits .and .u64 b zDe=0
 a2:bits .andNot .u64 b zDe=b
 lt:¬ zMI<b
 le:¬ zMI<=b
 ne:(b == zMI)=false
 nz:(b == 0)=false
 sh:(b / 4503599627370496 == 0)=false
 lo:0<=b
 hi:b<18446744073709551616
theorem zCg(w:World)(hG:zAK w)(b:Int)(hb:zHv b):
  Calls Tryz.prog 82 #[.int .u64 b] w fun e w'=>e=.returned (.int .i8 3)/\Below w.heap.size w w':=by
 have HN:=zz hb;have HG:=zz hG;clear hb hG;go_enter Tryz.func82,Tryz.ntmps82
 go_wp2_with fail
 refine (zCy w HG.out).mono ?_;rintro e w1 ⟨rfl,hb1⟩;have hG1:=HG.out.below hb1 HG.out.size;go_upto_region 2 with fail
 have hbx:Below w1.heap.size w1 (w1.alloc (.cells #[.int .i64 52,.int .i64 (-1074),.int .i64 11] 144)):=(zK _ _).alloc (zQ _) _;have hB:=Blk.new w1 #[.int .i64 52,.int .i64 (-1074),.int .i64 11] 144;have hG2:=hG1.below hbx hG1.size;have hbb:=hb1.trans (hbx.mono hb1.size);obtain⟨X,hX⟩:∃ X,X=w1.heap.size:=⟨_,rfl⟩;rw[<-hX] at hB ⊢;clear hb1 hG1 hbx hX;generalize w1.alloc (.cells #[.int .i64 52,.int .i64 (-1074),.int .i64 11] 144)=w2 at hB hG2 hbb ⊢;go_wp2_with fail
 refine (zGi w2 hG2 b HN.out.a1 HN.out.a2).mono ?_;rintro e w3 ⟨rfl,hb3⟩;have hB3:=hB.below hb3 hB.lt;have hbb3:=hbb.trans (hb3.mono hbb.size);have d0:=hB3.cell 0;have d1:=hB3.cell 1;have d2:=hB3.cell 2;simp only[zv,zk,zx] at d0 d1 d2;clear hb3 hB hbb hG2;have hlt:=HN.out.lt;have hne:=HN.out.ne;go_wp2_with fail
 refine (zDH w3).mono ?_;rintro e w4 ⟨rfl,hb4⟩;have hB4:=hB3.below hb4 hB3.lt;have hbb4:=hbb3.trans (hb4.mono hbb3.size);clear d0 d1 d2 hb4 hbb3 hB3;have d0:=hB4.cell 0;have d1:=hB4.cell 1;have d2:=hB4.cell 2;simp only[zv,zk,zx] at d0 d1 d2;go_wp2_with fail
 refine (zDH w4).mono ?_;rintro e w5 ⟨rfl,hb5⟩;have hB5:=hB4.below hb5 hB4.lt;have HB:=zz (hbb4.trans (hb5.mono hbb4.size));clear d0 d1 d2 hb5 hbb4 hB4;have d0:=hB5.cell 0;simp only[zv,zk,zx] at d0;have hnz:=HN.out.nz;have hsh:=HN.out.sh;clear hB5;go_wp2;go_ret;exact⟨rfl,HB.out⟩
theorem zBN:zHv zBz:=⟨by decide,by decide,by decide,by decide,by decide,by decide,by decide,by decide,by decide⟩
def zQw:Int:=4607182418800017408
theorem zF0:zHv zQw:=⟨by decide,by decide,by decide,by decide,by decide,by decide,by decide,by decide,by decide⟩
theorem zGu(w:World)(x:Int)(i:Nat)(v:Int)(hx:(x == 0)=false)(hi:i<64)(hv:0<=v/\v<64)(h:w.cell? ⟨17,i,none⟩=some (.int .u8 v))
  (h1:IntKind.u64.wrap (bits BinOp.and IntKind.u64 x (IntKind.u64.wrap (-x))*285870213051353865) / 288230376151711744=(i:Int)) :
  Calls Tryz.prog 220 #[.int .u64 x] w fun e w'=>e=.returned (.int .i64 v)/\w'=w:=by
 obtain⟨hv1,hv2⟩:=hv;have g1:(i:Int)<64:=by omega
 have g2:(0:Int)<=(i:Int):=by omega
 have g3:IntKind.i64.wrap v=v:=zY _ (by omega);go_enter Tryz.func220,Tryz.ntmps220
 go_wp2;go_ret;exact⟨rfl,rfl⟩
structure zHe (w:World):Prop where
 size:21<w.heap.size
 c22:w.cell? ⟨17,22,none⟩=some (.int .u8 51)
 c44:w.cell? ⟨17,44,none⟩=some (.int .u8 52)
theorem zHe.below{w w':World}{B:Nat}(h:zHe w)(hb:Below B w w')(hB:21<B):zHe w':=
 ⟨by have:=hb.size;have:=h.size;omega,by rw[hb.cell (p:=⟨17,22,none⟩) (by simp;omega)];exact h.c22,by rw[hb.cell (p:=⟨17,44,none⟩) (by simp;omega)];exact h.c44⟩
structure zFv (b mm:Int) (n:Nat) (m e:Int) (ex:Int):Prop extends zHv b where
 ex1:b / 4503599627370496=ex
 ex0:0<ex/\ex<2047
 fr:bits .or .u64 (bits .and .u64 b 4503599627370495) 4503599627370496=mm
 tz:IntKind.u64.wrap (bits BinOp.and IntKind.u64 mm (IntKind.u64.wrap (-mm))*285870213051353865) / 288230376151711744=(if n=51 then 22 else 44)
 n1:n=51 \/ n=52
 mz:(mm == 0)=false
 m1:mm / 2 ^ n=m
 e1:-1074+(ex - 1)+n=e
theorem zDw(w:World)(hG:zAK w)(hC:zHe w)(b mm:Int)(n:Nat)(m e ex:Int)(hb:zFv b mm n m e ex):
  Calls Tryz.prog 175 #[.int .u64 b] w fun e' w'=>e'=.returned (.tuple #[.bool false,.int .u64 m,.int .i64 e,.bool true])/\Below w.heap.size w w':=by
 have HN:=zz hb;have HG:=zz hG;have HC:=zz hC;clear hb hG hC;go_enter Tryz.func175,Tryz.ntmps175
 go_wp2_with fail
 refine (zCy w HG.out).mono ?_;rintro e' w1 ⟨rfl,hb1⟩;have hG1:=HG.out.below hb1 HG.out.size;go_upto_region 2 with fail
 have hbx:Below w1.heap.size w1 (w1.alloc (.cells #[.int .i64 52,.int .i64 (-1074),.int .i64 11] 144)):=(zK _ _).alloc (zQ _) _;have hB:=Blk.new w1 #[.int .i64 52,.int .i64 (-1074),.int .i64 11] 144;have hG2:=hG1.below hbx hG1.size;have hbb:=hb1.trans (hbx.mono hb1.size);obtain⟨X,hX⟩:∃ X,X=w1.heap.size:=⟨_,rfl⟩;rw[<-hX] at hB ⊢;clear hb1 hG1 hbx hX;generalize w1.alloc (.cells #[.int .i64 52,.int .i64 (-1074),.int .i64 11] 144)=w2 at hB hG2 hbb ⊢;go_wp2_with fail
 refine (zGi w2 hG2 b HN.out.a1 HN.out.a2).mono ?_;rintro e' w3 ⟨rfl,hb3⟩;have hB3:=hB.below hb3 hB.lt;have hbb3:=hbb.trans (hb3.mono hbb.size);have d0:=hB3.cell 0;have d1:=hB3.cell 1;have d2:=hB3.cell 2;simp only[zv,zk,zx] at d0 d1 d2;clear hb3 hB hbb hG2;have hle:=HN.out.le;go_wp2_with fail
 refine (zDH w3).mono ?_;rintro e' w4 ⟨rfl,hb4⟩;have hB4:=hB3.below hb4 hB3.lt;have hbb4:=hbb3.trans (hb4.mono hbb3.size);clear d0 d1 d2 hb4 hbb3 hB3;have HB4:=zz hB4;have HBB:=zz hbb4;have d0:=hB4.cell 0;have d1:=hB4.cell 1;have d2:=hB4.cell 2;simp only[zv,zk,zx] at d0 d1 d2;have hnz:=HN.out.nz;have hex:=HN.out.ex1;have hfr:=HN.out.fr;obtain⟨x1,x2⟩:=HN.out.ex0;have x3:IntKind.i64.wrap ex=ex:=zY _ (by omega);clear hB4 hbb4 HG
 have HCz:Hid (∀ q,Calls Tryz.prog 220 #[.int .u64 mm] (w4.drewN q) fun e w'=>e=.returned (.int .i64 (n:Int))/\w'=w4.drewN q):=zz (fun q=>by
  have hc4:=HC.out.below HBB.out HC.out.size;have htz:=HN.out.tz;rcases HN.out.n1 with h|h
  ·subst h;exact zGu (w4.drewN q) mm 22 51 HN.out.mz (by omega) (by omega) hc4.c22 (by simpa using htz)
  ·subst h;exact zGu (w4.drewN q) mm 44 52 HN.out.mz (by omega) (by omega) hc4.c44 (by simpa using htz))
 go_wp2;go_quiet (fail)
 go_wp2;go_quiet (fail)
 have x4:IntKind.i64.wrap (ex - 1)=ex - 1:=zY _ (by omega);have x5:IntKind.i64.wrap (-1074+(ex - 1))=-1074+(ex - 1):=zY _ (by omega);go_wp2_with fail
 refine (HCz.out _).mono ?_;rintro e' w5 ⟨rfl,rfl⟩;have hn1:n<=52:=by rcases HN.out.n1 with h|h <;> omega
 have x6:IntKind.i64.wrap (-1074+(ex - 1)+(n:Int))=-1074+(ex - 1)+(n:Int):=zY _ (by omega);have hm1:=HN.out.m1;have HE:=zz HN.out.e1;go_wp2;go_quiet (fail)
 go_wp2;refine bodyPost_ret (v:=.tuple #[.bool false,.int .u64 m,.int .i64 (-1074+(ex - 1)+(n:Int)),.bool true]) (by simp[results,Tryz.results175,go_sem]) rfl ⟨?_,zAd (zAd HBB.out _) _⟩;rw[HE.out]
theorem zCl:zFv zBz 6755399441055744 51 3 (-1) 1023:=⟨zBN,by decide,by decide,by decide,by decide,by decide,by decide,by decide,by decide⟩
theorem zIU:zFv zQw 4503599627370496 52 1 0 1023:=⟨zF0,by decide,by decide,by decide,by decide,by decide,by decide,by decide,by decide⟩
structure GW (w:World):Prop where
 s:zAK w
 c:zHe w
 t1:w.cell? ⟨21,1,none⟩=some (.int .u8 1)
theorem GW.below{w w':World}{B:Nat}(h:GW w)(hb:Below B w w')(hB:21<B):GW w':=
 ⟨h.s.below hb hB,h.c.below hb hB,by rw[hb.cell (p:=⟨21,1,none⟩) (by simp;omega)];exact h.t1⟩
theorem GW.size{w:World}(h:GW w):21<w.heap.size:=h.s.size
theorem GW.step{w w':World}(h:GW w)(hb:Below w.heap.size w w'):GW w':=h.below hb h.size
theorem zOE(w:World)(hG:GW w):
  Calls Tryz.prog 228 #[.int .u32 10] w fun e w'=>e=.returned (.int .i64 1)/\w'=w:=by
 have h:=hG.t1;have h1:bits .and .u32 10 4294967286=2:=by decide
 clear hG;go_enter Tryz.func228,Tryz.ntmps228
 go_wp2;go_ret;exact⟨rfl,rfl⟩
theorem zIC(w:World)(v:Value)(x:Nat)(h:zAf w v (zAb x)):
  Calls Tryz.prog 73 #[.agg #[.bool false,v]] w fun e w'=>e=.returned (.bool true)/\Below w.heap.size w w':=by
 have hb:Below w.heap.size w (w.alloc (.cells #[.bool false,v] 28)):=(zK _ _).alloc (zQ _) _;have h':=h.below hb;by_cases hx:x=0
 ·subst hx;rw[zAn] at h;obtain⟨_,⟨⟨p,rfl⟩,_⟩|⟨blk,off,cap,rfl,_⟩⟩:=h
  ·go_enter Tryz.func73,Tryz.ntmps73
   go_wp2;go_ret;exact⟨rfl,hb⟩
  ·go_enter Tryz.func73,Tryz.ntmps73
   go_wp2;go_ret;exact⟨rfl,hb⟩
 ·have hp:=zAk hx;have hla:=zEO hx;obtain⟨hf,⟨h1,h2⟩|⟨blk,off,cap,rfl,h1,h2,h3,h4⟩⟩:=h'
  ·rw[h2] at hp;simp at hp
  ·have hc:=h4 ((zAb x).length - 1) (by omega);have g0:((((zAb x).getD ((zAb x).length - 1) 0:Nat):Int) != 0)=true:=by rw[bne_iff_ne];omega
   generalize ((((zAb x).getD ((zAb x).length - 1) 0:Nat):Int))=q at hc g0;clear h4 hf h hla;have HB:=zz hb;clear hb;generalize (zAb x).length=n at *;have g1:((n:Int) - 1).toNat=n - 1:=by omega
   have g2:(0:Int)<=(n:Int) - 1:=by omega
   have g3:(n:Int) - 1<(n:Int):=by omega
   have g4:IntKind.i64.wrap ((n:Int) - 1)=(n:Int) - 1:=zY _ (by omega);have g5:((n:Int) == 0)=false:=beq_eq_false_iff_ne.2 (by omega);have g6:(0:Int)<(n:Int):=by omega
   go_enter Tryz.func73,Tryz.ntmps73
   go_wp2;go_ret;exact⟨rfl,HB.out⟩
theorem zJm(w:World)(b:Option Addr)(c:Nat):
  Calls Tryz.prog 76 #[.slice b 2 c] w fun e w'=>e=.returned (.bool true)/\w'=w:=by
 go_enter Tryz.func76,Tryz.ntmps76
 go_wp2;go_loop [3] (fun i=>i=.int .i64 2) (fun _=>0)
 case atStart=>rfl
 case round=>
  subst hrel;go_wp2;go_ret;exact⟨rfl,rfl⟩
theorem zLg(w:World)(b:Option Addr)(c:Nat):
  Calls Tryz.prog 36 #[.agg #[.int .i8 8,.int .u64 0,.bool false,.slice none 0 0,.int .u64 0,.int .i8 0,.string ⟨#[]⟩,.slice b 2 c]] w fun e w'=>e=.returned (.bool true)/\Below w.heap.size w w':=by
 go_enter Tryz.func36,Tryz.ntmps36
 go_wp2_with fail
 refine (zJm _ b c).mono ?_;rintro e w1 ⟨rfl,rfl⟩;go_wp2;go_ret;exact⟨rfl,(zK _ _).alloc (zQ _) _⟩
theorem zKR(w:World)(v:Value)(x:Nat)(h:zAf w v (zAb x)):
  Calls Tryz.prog 36 #[.agg #[.int .i8 3,.int .u64 0,.bool false,v,.int .u64 0,.int .i8 0,.string ⟨#[]⟩,.slice none 0 0]] w fun e w'=>e=.returned (.bool true)/\Below w.heap.size w w':=by
 have hb:Below w.heap.size w (w.alloc (.cells #[.int .i8 3,.int .u64 0,.bool false,v,.int .u64 0,.int .i8 0,.string ⟨#[]⟩,.slice none 0 0] 31)):=(zK _ _).alloc (zQ _) _;have hB:=Blk.new w #[.int .i8 3,.int .u64 0,.bool false,v,.int .u64 0,.int .i8 0,.string ⟨#[]⟩,.slice none 0 0] 31;have HC:=zz (zIC _ v x (h.below hb));have HBl:=zz hB;have HB:=zz hb;clear h hb hB;go_enter Tryz.func36,Tryz.ntmps36
 go_wp2_with fail
 refine HC.out.mono ?_;rintro e w1 ⟨rfl,hb1⟩;have hB1:=HBl.out.below hb1 HBl.out.lt;have HB1:=zz (HB.out.trans (hb1.mono (by simp)));have c0:=hB1.cell 0;have c1:=hB1.cell 1;have c2:=hB1.cell 2;have c3:=hB1.cell 3;have c4:=hB1.cell 4;have c5:=hB1.cell 5;have c6:=hB1.cell 6;have c7:=hB1.cell 7;have f2:=hB1.free 2;have f3:=hB1.free 3;simp only[zv,zk,zx] at c0 c1 c2 c3 c4 c5 c6 c7;clear hb1 hB1 HBl HB HC;go_wp2;go_ret;exact⟨rfl,(HB1.out.setCell (by simp) _).setCell (by simp) _⟩
def zL2(w:World)(N n:Nat):Prop:=∃ v xs,w.cell? ⟨N+2,0,none⟩=some v/\w.frozen? ⟨N+2,0,none⟩=false/\w.ownsRow (N+4) 3 1 v n xs
structure WM (w:World) (N:Nat) (fw:FuncId) (n:Nat):Prop where
 size:N+4<=w.heap.size
 wrong:w.cell? ⟨N+1,0,none⟩=some (.func (.func fw) #[] #[])
 visit:w.cell? ⟨N+3,0,none⟩=some (.func (.func 71) #[] #[.pointer (some ⟨N+1,0,none⟩),.pointer (some ⟨N+2,0,none⟩),.pointer (some ⟨N+3,0,none⟩)])
 steps:zL2 w N n
theorem zL2.below{w w':World}{N n:Nat}(h:zL2 w N n)(hb:Below w.heap.size w w')(hs:N+2<w.heap.size):zL2 w' N n:=by
 obtain⟨v,xs,h1,h2,h3⟩:=h;refine⟨v,xs,?_,?_,?_⟩
 ·rw[hb.cell (p:=⟨N+2,0,none⟩) hs];exact h1
 ·rw[hb.frozen (p:=⟨N+2,0,none⟩) hs];exact h2
 ·obtain⟨hl,h|⟨g,cap,cur,hv,hg,hc,r⟩⟩:=h3
  ·exact⟨hl,.inl h⟩
  ·exact⟨hl,.inr ⟨g,cap,cur,hv,hg,by rw[hb.block g (Array.getElem?_eq_some_iff.1 hc).1];exact hc,r⟩⟩
theorem zQg:(Tryz.prog.info? 3).map (fun i=>(i.zero,i.size,i.bytes))=some (some (.int .i64 0),1,8):=by kernel_rfl
theorem zNl:∃ i,Tryz.prog.info? 3=some i/\i.zero=some (.int .i64 0)/\i.size=1/\i.bytes=8:=by
 have hinfo:=zQg
 cases hq:Tryz.prog.info? 3 with
 | none=>rw[hq] at hinfo;cases hinfo
 | some i=>
  rw[hq] at hinfo;simp only[Option.map_some,Option.some.injEq,Prod.mk.injEq] at hinfo;exact⟨i,rfl,hinfo⟩
theorem zHA{w w':World}{N:Nat}{row:Option Nat}(h:w.grownBy w' row)(hs:N+4<=w.heap.size)(hr:∀ k,row=some k->N+4<=k):Ex (fun k=>k=N+2) (N+4) w w':=
 ⟨h.os,h.tape,h.output,h.size,fun k hk _=>h.block k (by omega) (fun e=>by have:=hr k e.symm;omega)⟩
theorem zCc{w:World}{base size n:Nat}{e:TypeId}{v:Value}{xs:List Value}(h:w.ownsRow base e size v n xs):∃ b c,v=.slice b n c:=by
 obtain⟨_,⟨rfl,rfl⟩|⟨g,cap,cur,rfl,_⟩⟩:=h <;> exact⟨_,_,rfl⟩
theorem zD2{w:World}{base n:Nat}{e:TypeId}{v:Value}{xs:List Value}(h:w.ownsRow base e 1 v n xs)(k i:Nat)(hk:k<base)(u:Value):(w.setCell ⟨k,i,none⟩ u).ownsRow base e 1 v n xs:=by
 obtain⟨hl,h|⟨g,cap,cur,hv,hg,hc,r⟩⟩:=h
 ·exact⟨hl,.inl h⟩
 ·refine⟨hl,.inr ⟨g,cap,cur,hv,hg,?_,r⟩⟩;rw[Below.heap_setCell _ _ _ _ (by simp;omega)];exact hc
theorem zLs{w:World}{base n:Nat}{e:TypeId}{b:Option Addr}{c:Nat}{xs:List Value}(h:w.ownsRow base e 1 (.slice b (n+1) c) (n+1) xs):n<=c/\c<=maxLen/\(∃ g,b=some ⟨g,0,none⟩)/\∃ ys,w.ownsRow base e 1 (.slice b n c) n ys:=by
 obtain⟨hl,⟨h,_⟩|⟨g,cap,cur,hv,hg,hc,h1,h2,h3,h4⟩⟩:=h
 ·simp only[Value.slice.injEq] at h;omega
 ·simp only[Value.slice.injEq] at hv;obtain⟨rfl,-,rfl⟩:=hv;refine⟨by omega,h2,⟨g,rfl⟩,cur.toList.take (n*1),?_,.inr ⟨g,c,cur,rfl,hg,hc,by omega,h2,h3,rfl⟩⟩;rw[List.length_take];have:cur.toList.length=cur.size:=by simp
  omega
theorem WM.below{w w':World}{N n:Nat}{fw:FuncId}(h:WM w N fw n)(hb:Below w.heap.size w w'):WM w' N fw n:=
 ⟨zJ h.size hb.size,by rw[hb.cell (p:=⟨N+1,0,none⟩) (by have:=h.size;simp;omega)];exact h.wrong,by rw[hb.cell (p:=⟨N+3,0,none⟩) (by have:=h.size;simp;omega)];exact h.visit,h.steps.below hb (by have:=h.size;omega)⟩
theorem zDW.mag{w:World}{N:Nat}{kind n:Int}{mag:Value}{bits ext:Int}{text:List UInt8}{m X:Nat}(h:zDW w N kind n mag bits ext text m X):∃ b k c,mag=.slice b k c:=by
 obtain⟨_,⟨_,_,h,_⟩|⟨_,_,_,_,_,x,_,h,_⟩|⟨_,_,h,_⟩|⟨_,_,h,_⟩|⟨_,_,h,_⟩|⟨_,_,h,_⟩|⟨_,_,h,_⟩⟩:=h
 ·exact⟨_,_,_,h⟩
 ·obtain⟨b,c,h⟩:=h.slice;exact⟨_,_,_,h⟩
 all_goals exact⟨_,_,_,h⟩
theorem zAU.cells{w:World}{N:Nat}{f:F}{d:Nat}{v:Value}(h:zAU w N f d v):∃ (kind n:Int) (mb:Option Addr) (mn mc:Nat) (bits ext:Int) (text:List UInt8) (kb:Option Addr) (kn kc:Nat),v=.agg (zAa kind n false (.slice mb mn mc) bits ext (zAc text) (.slice kb kn kc)):=by
 cases f with
 | stop=>exact h.elim
 | node t X fs=>
  obtain⟨kind,n,mag,bits,ext,text,kids,m,rfl,hf,_,hk⟩:=h;obtain⟨mb,mn,mc,rfl⟩:=hf.mag;rcases hk with ⟨_,rfl,_⟩|⟨_,b,o,cap,xs,ds,rfl,_⟩
  ·exact⟨_,_,_,_,_,_,_,_,_,_,_,rfl⟩
  ·exact⟨_,_,_,_,_,_,_,_,_,_,_,rfl⟩
theorem zDW.leaf{w:World}{N:Nat}{kind n:Int}{mag:Value}{bits ext:Int}{text:List UInt8}{X:Nat}(h:zDW w N kind n mag bits ext text 0 X):kind≠7/\kind≠8/\kind≠9:=by
 obtain⟨_,h|h|h|h|h|h|h⟩:=h <;> obtain⟨rfl,h⟩:=h <;> first|(refine⟨?_,?_,?_⟩ <;> decide)|(exfalso;omega)|skip
 all_goals (exfalso;obtain⟨_,_,_,_,h⟩:=h;omega)
theorem zDW.cont{w:World}{N:Nat}{kind n:Int}{mag:Value}{bits ext:Int}{text:List UInt8}{m X:Nat}(h:zDW w N kind n mag bits ext text m X)(hm:0<m):kind=7 \/ kind=8 \/ kind=9:=by
 obtain⟨_,⟨_,_,_,_,_,h⟩|⟨_,_,_,_,h,_⟩|⟨_,_,_,_,_,h⟩|⟨_,_,_,_,_,h⟩|⟨h,_⟩|⟨h,_⟩|⟨h,_⟩⟩:=h
 ·omega
 ·omega
 ·omega
 ·omega
 ·exact .inl h
 ·exact .inr (.inl h)
 ·exact .inr (.inr h)
theorem zJZ(N:Nat)(fw:FuncId)(hfw:∀ (args:Array Value) (w:World),(callFunc fw args).run Tryz.prog w=.ok (.enter fw args) w)(w0:World)(hw:∀ (f:F) (d:Nat) (v:Value) (ar:Nat) (w:World),Below N w0 w->zAU w N f d v->ar+d<=128->Calls Tryz.prog fw #[v,.int .i64 (ar:Int)] w fun e w'=>e=.returned (.bool false)/\Below w.heap.size w w'):
  ∀ (f:F) (d:Nat) (v:Value) (ar:Nat) (w:World) (n:Nat),Below N w0 w->zAU w N f d v->ar+d<=128->n+d<=128->WM w N fw n ->
   Calls Tryz.prog 71 #[v,.int .i64 (ar:Int),.pointer (some ⟨N+1,0,none⟩),.pointer (some ⟨N+2,0,none⟩),.pointer (some ⟨N+3,0,none⟩)] w fun e w'=>e=.returned (.bool false)/\WM w' N fw n/\Ex (fun k=>k=N+2) (N+4) w w':=by
 intro f
 induction f with
 | stop=>intro d v ar w n _ h;exact h.elim
 | node t X0 fs ih=>
  intro d v ar w n h00 hT hd hn hM;have H00:=zz h00;clear h00;have HIH:=zz ih;have HW:=zz (hw (.node t X0 fs) d v ar);have HT:=zz hT;clear ih hw;obtain⟨kind,nn,mag,bits,ext,text,kids,m,rfl,hf,_,hk⟩:=hT;have HF:=zz hf;have HK:=zz hk;have HM:=zz hM;clear hf hk hM;obtain⟨X,hX⟩:∃ X,X=w.heap.size:=⟨_,rfl⟩;have hXs:N+4<=X:=by rw[hX];exact HM.out.size
  have hbx:Below w.heap.size w (w.alloc (.cells (zAa kind nn false mag bits ext (zAc text) kids) 31)):=(zK _ _).alloc (zQ _) _;have hbl:=Blk.new w (zAa kind nn false mag bits ext (zAc text) kids) 31;have hsz:(w.alloc (.cells (zAa kind nn false mag bits ext (zAc text) kids) 31)).heap.size=X+1:=by rw[hX];simp
  rw[<-hX] at hbl;have HX:=zz hX;have hM1:=HM.out.below hbx;have HBX:=zz hbx;have HT1:=zz (zAU.below (hbx.mono (by have:=HM.out.size;omega)) _ _ _ HT.out);clear hX hbx HM HT;go_enter Tryz.func71,Tryz.ntmps71
  go_upto_region 1 with fail
  change Code.wp _ _ _ _ (w.alloc (.cells (zAa kind nn false mag bits ext (zAc text) kids) 31));rw[<-HX.out];generalize w.alloc (.cells (zAa kind nn false mag bits ext (zAc text) kids) 31)=w1 at hbl hsz hM1 HBX HT1 ⊢;have c1:=hM1.wrong;have HM1:=zz hM1;have HSZ:=zz hsz;have HBL:=zz hbl;clear hM1 hsz hbl;go_upto_region 1 with fail
  refine wp_region_lit ?_;iterate 3 go_step
  refine wpList_load_row rfl 31 _ rfl X rfl 31 _ (0,0) _ HBL.out Tryz.underlying31 rfl (by kernel_rfl) ?_;go_wp2_with fail
  refine (HW.out _ (H00.out.trans (HBX.out.mono (by rw[<-HX.out];omega))) HT1.out hd).mono ?_;rintro e w2 ⟨rfl,hb2⟩;have HM2:=zz (HM1.out.below hb2);have HBL2:=zz (HBL.out.below hb2 HBL.out.lt);have HT2:=zz (zAU.below (hb2.mono (by rw[HSZ.out];omega)) _ _ _ HT1.out);have HB2:=zz (HBX.out.trans (hb2.mono HBX.out.size));have HK2:Hid (Ex (fun k=>k=N+2) (N+4) w w2):=zz ((Ex.of_below HB2.out).mono (by rw[<-HX.out];exact hXs) (fun _ h=>h));clear hb2 HM1 HBL HT1 HSZ HBX c1 HW;rcases HK.out with ⟨rfl,rfl,rfl⟩|⟨h0,b,o,cap,xs,ds,rfl,hmc,hcap,hbN,hrow,hkid,hex⟩
  ·obtain⟨k7,k8,k9⟩:=HF.out.leaf;clear HK;go_upto_region 3 with fail
   refine wp_region_lit ?_;refine wpList_load_row rfl 31 _ rfl X rfl 31 _ (0,0) _ HBL2.out Tryz.underlying31 rfl (by kernel_rfl) ?_;go_wp2_with fail
   refine (zBB w2 kind nn false mag bits ext (zAc text) _ k7 k8 k9).mono ?_;rintro e w3 ⟨rfl,hb3⟩;have hBL3:=HBL2.out.below hb3 HBL2.out.lt;have HM3:=zz (HM2.out.below hb3);have HK3:Hid (Ex (fun k=>k=N+2) (N+4) w w3):=zz (HK2.out.trans ((Ex.of_below hb3).mono (by have:=HM2.out.size;omega) (fun _ h=>h)));have c7:=hBL3.cell 7;simp only[zAa,zv,zk,zx] at c7;clear hb3 hBL3 HM2 HBL2 HT2 HB2 HK2 k7 k8 k9;go_wp2;go_loopw [8,9,21] (fun _ _ i wr=>i=.int .i64 0/\wr=w3) (fun _ _ _ _=>0)
   case atStart=>exact⟨rfl,rfl⟩
   case round=>
    obtain⟨rfl,rfl⟩:=hrel;go_wp2;go_ret;exact⟨rfl,HM3.out,HK3.out⟩
  ·have hcont:=HF.out.cont h0;clear hex;have HROW:Hid (zBO w2 b o m xs):=zz (hrow.below (N:=N) (HB2.out.mono (by rw[<-HX.out];omega)) hbN);have HKID:Hid (∀ i,i<m->zAU w2 N (fs i) (ds i) (.agg (xs i))/\ds i<d):=zz (fun i hi=>⟨zAU.below (HB2.out.mono (by rw[<-HX.out];omega)) _ _ _ (hkid i hi).1,(hkid i hi).2⟩);clear HK hrow hkid;go_upto_region 3 with fail
   refine wp_region_lit ?_;refine wpList_load_row rfl 31 _ rfl X rfl 31 _ (0,0) _ HBL2.out Tryz.underlying31 rfl (by kernel_rfl) ?_;go_wp2_with fail
   refine (zBh w2 kind nn false mag bits ext (zAc text) _ hcont).mono ?_;rintro e w3 ⟨rfl,hb3⟩;have hBL3:=HBL2.out.below hb3 HBL2.out.lt;have HM3:=zz (HM2.out.below hb3);have hs2:=HM2.out.size;have HK3:Hid (Ex (fun k=>k=N+2) (N+4) w w3):=zz (HK2.out.trans ((Ex.of_below hb3).mono (by omega) (fun _ h=>h)));have HROW3:=zz (HROW.out.below (hb3.mono (show N<=_ by omega)) hbN);have HKID3:Hid (∀ i,i<m->zAU w3 N (fs i) (ds i) (.agg (xs i))/\ds i<d):=zz (fun i hi=>⟨zAU.below (hb3.mono (by omega)) _ _ _ (HKID.out i hi).1,(HKID.out i hi).2⟩);have c7:=hBL3.cell 7;simp only[zAa,zv,zk,zx] at c7;have gar:IntKind.i64.wrap ((ar:Int)+1)=(ar:Int)+1:=zY _ (by omega);clear hb3 hBL3 HM2 HBL2 HT2 HB2 HK2 hcont HF HROW HKID;go_wp2;go_loopw [8,9,21] (fun _ _ i wr=>∃ k:Nat,k<=m/\i=.int .i64 k/\Hid (WM wr N fw n)/\Hid (Ex (fun k=>k=N+2) (N+4) w3 wr)) (fun _ _ i _=>m - (intOf i).toNat)
   case atStart=>exact⟨0,by omega,rfl,HM3,zz (Ex.refl _ _ _)⟩
   case round=>
    clear c7 gar;obtain⟨k,hkm,rfl,HMr,HEr⟩:=hrel;by_cases h1:k<m
    ·have hbb:Below N w3 wr:=HEr.out.below (by omega) (fun j (hj:j=N+2)=>by omega);have hTk:=zAU.below hbb _ _ _ (HKID3.out k h1).1;have hdk:=(HKID3.out k h1).2;obtain⟨hx8,hxc⟩:=(HROW3.out.below hbb hbN) k h1;have HTK:=zz hTk;obtain⟨kind',nn',mb',mn',mc',bits',ext',text',kb',kn',kc',hxk⟩:=hTk.cells;simp only[Value.agg.injEq] at hxk;rw[hxk] at hxc HTK;have d0:=hxc 0 (by omega);have d1:=hxc 1 (by omega);have d2:=hxc 2 (by omega);have d3:=hxc 3 (by omega);have d4:=hxc 4 (by omega);have d5:=hxc 5 (by omega);have d6:=hxc 6 (by omega);have d7:=hxc 7 (by omega);simp only[zAa,zv,zk,zx,Nat.add_zero] at d0 d1 d2 d3 d4 d5 d6 d7;clear hx8 hxc hxk hbb hTk;have g1:(k:Int)<(m:Int):=by omega
     go_upto_region 8 with fail
     obtain⟨Y,hY⟩:∃ Y,Y=wr.heap.size:=⟨_,rfl⟩;have hby:Below wr.heap.size wr (wr.alloc (.cells (zAa kind' nn' false (.slice mb' mn' mc') bits' ext' (zAc text') (.slice kb' kn' kc')) 31)):=(zK _ _).alloc (zQ _) _;have hbl:=Blk.new wr (zAa kind' nn' false (.slice mb' mn' mc') bits' ext' (zAc text') (.slice kb' kn' kc')) 31;have hsr:=HMr.out.size;have HM4:=zz (HMr.out.below hby);have HE4:Hid (Ex (fun k=>k=N+2) (N+4) w3 (wr.alloc (.cells (zAa kind' nn' false (.slice mb' mn' mc') bits' ext' (zAc text') (.slice kb' kn' kc')) 31))):=zz (HEr.out.trans ((Ex.of_below hby).mono (by omega) (fun _ h=>h)));have HT4:=zz (zAU.below (hby.mono (by omega)) _ _ _ HTK.out);rw[<-hY] at hbl hsr;have HBl4:=zz hbl;have hs4:(wr.alloc (.cells (zAa kind' nn' false (.slice mb' mn' mc') bits' ext' (zAc text') (.slice kb' kn' kc')) 31)).heap.size=Y+1:=by rw[hY];simp
     have HS4:=zz hs4;have HY:=zz hY;clear hby hbl hY hs4 HMr HEr HTK d0 d1 d2 d3 d4 d5 d6 d7;change Code.wp _ _ _ _ (wr.alloc (.cells (zAa kind' nn' false (.slice mb' mn' mc') bits' ext' (zAc text') (.slice kb' kn' kc')) 31));rw[<-HY.out];generalize wr.alloc (.cells (zAa kind' nn' false (.slice mb' mn' mc') bits' ext' (zAc text') (.slice kb' kn' kc')) 31)=w4 at HM4 HE4 HT4 HBl4 HS4 ⊢;obtain⟨v,ys,hv1,hv2,hv3⟩:=HM4.out.steps;have HOWN:=zz hv3;obtain⟨i0,hi0,hz0,hs0,hb0⟩:=zNl;have HI0:=zz hi0;have HZ0:=zz hz0;have HS0:=zz hs0;have HB0:=zz hb0;clear hv3 hi0 hz0 hs0 hb0;refine wp_region_lit ?_;iterate 9 go_step
     refine wpList_append_own _ rfl (.tmp 26) (.tmp 28) 95 rfl (N+4) 3 i0 (.int .i64 0) 1 8 Tryz.underlying95 HI0.out HZ0.out HS0.out HB0.out rfl (by decide) v n ys rfl (HOWN.out.alloc _) ⟨w4.heap.size,0,none⟩ 1 1 [.int .i64 (k:Int)] rfl rfl ?c1 ?c2 ?c3 ?c4 ?c5 ?_
     case c1=>
      intro j u hj
      cases j with
      | zero=>
       have e:u=.int .i64 (k:Int):=by simpa using hj.symm
       subst e;have:=(Blk.new w4 #[.int .i64 (k:Int)] 3).cell 0
       simp[Addr.add,this]
      | succ j=>simp at hj
     case c2=>intro u hu;simp only[List.mem_cons,List.not_mem_nil,or_false] at hu;subst hu;rfl
     case c3=>unfold maxLen;omega
     case c4=>omega
     case c5=>have:=HM4.out.size;simp;omega
     intro v' w5 hown' hgrow _;obtain⟨b',c',rfl⟩:=zCc hown'
     have hneY:v.ownBlock≠some Y:=by
      intro e;obtain⟨_,⟨rfl,_⟩|⟨g,cap',cur,rfl,_,hc,_⟩⟩:=HOWN.out
      ·simp[Value.ownBlock] at e
      ·simp only[Value.ownBlock,Option.some.injEq] at e;subst e;have:=HBl4.out;unfold Blk at this;rw[hc] at this;simp at this
     have hrowN:∀ j,v.ownBlock=some j->N+4<=j:=fun j hj=>(HOWN.out.lt j hj).1
     have hE45:Ex (fun k=>k=N+2) (N+4) w4 w5:=
      ((Ex.refl _ _ _).alloc (by have:=HM4.out.size;omega) _).trans (zHA hgrow (by have:=HM4.out.size;simp;omega) hrowN)
     have hk2:some (N+2)≠v.ownBlock:=fun e=>by have:=hrowN _ e.symm;omega
     have hlt4:=HM4.out.size;have e2:w5.heap[N+2]?=w4.heap[N+2]?:=by rw[hgrow.block (N+2) (by simp;omega) hk2];exact Below.heap_alloc w4 _ _ (by omega)
     have c2:w5.cell? ⟨N+2,0,none⟩=some v:=by rw[World.cell?_of_block (w:=w4) e2];exact hv1
     have f2:w5.frozen? ⟨N+2,0,none⟩=false:=by rw[World.frozen?_of_block (w:=w4) e2];exact hv2
     have hBl5:Blk w5 Y (zAa kind' nn' false (.slice mb' mn' mc') bits' ext' (zAc text') (.slice kb' kn' kc')) 31:=by
      unfold Blk;rw[hgrow.block Y (by simp;have:=HS4.out;omega) (fun e=>hneY e.symm),Below.heap_alloc w4 _ _ HBl4.out.lt];exact HBl4.out
     have hT5:=zAU.below (hE45.below (B':=N) (by omega) (fun j (hj:j=N+2)=>by omega)) _ _ _ HT4.out
     have hM5:WM (w5.setCell ⟨N+2,0,none⟩ (.slice b' (n+1) c')) N fw (n+1):=by
      refine⟨?_,?_,?_,_,_,?_,?_,zD2 hown' _ _ (by omega) _⟩
      ·have:=hE45.size;simp;omega
      ·rw[World.cell?_of_block (w:=w5) (Below.heap_setCell _ _ _ _ (by simp)),hE45.cell (a:=⟨N+1,0,none⟩) (by simp) (by simp)];exact HM4.out.wrong
      ·rw[World.cell?_of_block (w:=w5) (Below.heap_setCell _ _ _ _ (by simp)),hE45.cell (a:=⟨N+3,0,none⟩) (by simp) (by simp)];exact HM4.out.visit
      ·exact World.cell?_setCell_same _ _ _ c2
      ·simpa using f2
     have hE5:Ex (fun k=>k=N+2) (N+4) w3 (w5.setCell ⟨N+2,0,none⟩ (.slice b' (n+1) c')):=(HE4.out.trans hE45).setCell (N+2) 0 (.inl rfl) _;have hBl6:=hBl5.set_other ⟨N+2,0,none⟩ (.slice b' (n+1) c') (by simp;omega);have hT6:=zAU.below (((zK N w5)).setCell (p:=⟨N+2,0,none⟩) (by simp) (.slice b' (n+1) c')) _ _ _ hT5;have HM5:=zz hM5;have HE5:=zz hE5;have HB6:=zz hBl6;have HT6:=zz hT6;clear hM5 hE5 hBl6 hT6 hT5 hBl5 hE45 hgrow hown' HOWN HM4 HE4 HT4 HBl4 hneY hrowN hk2 e2 hv1 hv2;go_upto_region 9 with fail
     clear c2 f2;generalize w5.setCell ⟨N+2,0,none⟩ (.slice b' (n+1) c')=w6 at HM5 HE5 HB6 HT6 ⊢;have c3:=HM5.out.visit;refine wp_region_lit ?_;iterate 3 go_step
     refine wpList_load_row rfl 31 _ rfl Y rfl 31 _ (0,0) _ HB6.out Tryz.underlying31 rfl (by kernel_rfl) ?_;go_wp2_with fail
     rw[show ((ar:Int)+1)=((ar+1:Nat):Int) by simp];refine (HIH.out k (ds k) _ (ar+1) w6 (n+1) (H00.out.trans ((HK3.out.trans HE5.out).below (by omega) (fun j (hj:j=N+2)=>by omega))) HT6.out (by omega) (by omega) HM5.out).mono ?_;clear c3;rintro e w7 ⟨rfl,hM7,hE7⟩;have hlt7:=hM7.size;obtain⟨v7,ys7,q1,q2,q3⟩:=hM7.steps;obtain⟨b7,c7,rfl⟩:=zCc q3;obtain⟨r1,r2,⟨g7,rfl⟩,zs,r3⟩:=zLs q3;unfold maxLen at r2
     have hM8:WM (w7.setCell ⟨N+2,0,none⟩ (.slice (some ⟨g7,0,none⟩) n c7)) N fw n:=by
      refine⟨?_,?_,?_,_,_,?_,?_,zD2 r3 _ _ (by omega) _⟩
      ·simpa using hlt7
      ·rw[World.cell?_of_block (w:=w7) (Below.heap_setCell _ _ _ _ (by simp))];exact hM7.wrong
      ·rw[World.cell?_of_block (w:=w7) (Below.heap_setCell _ _ _ _ (by simp))];exact hM7.visit
      ·exact World.cell?_setCell_same _ _ _ q1
      ·simpa using q2
     have HM8:=zz hM8;have HE8:Hid (Ex (fun k=>k=N+2) (N+4) w3 (w7.setCell ⟨N+2,0,none⟩ (.slice (some ⟨g7,0,none⟩) n c7))):=zz ((HE5.out.trans hE7).setCell (N+2) 0 (.inl rfl) _);clear hM8 hM7 hE7 q3 r3 HM5 HE5 HB6 HT6;have g7:IntKind.i64.wrap ((n:Int)+1 - 1)=(n:Int):=by rw[zY _ (by omega)];omega
     have g8:(n:Int)+1 - 1=(n:Int):=by omega
     go_wp2;go_roundw
     case rel=>exact⟨k+1,by omega,by simp,HM8,HE8⟩
     case measure=>simp[intOf];omega
    ·have g1:¬ (k:Int)<(m:Int):=by omega
     go_wp2;go_ret;exact⟨rfl,HMr.out,HK3.out.trans HEr.out⟩
theorem zD7(fw:FuncId)(hfw:∀ (args:Array Value) (w:World),(callFunc fw args).run Tryz.prog w=.ok (.enter fw args) w)(w:World)(hw:∀ (f:F) (d:Nat) (v:Value) (ar:Nat) (w':World),Below w.heap.size w w'->zAU w' w.heap.size f d v->ar+d<=128->Calls Tryz.prog fw #[v,.int .i64 (ar:Int)] w' fun e w''=>e=.returned (.bool false)/\Below w'.heap.size w' w'')
  (N:Nat) (f:F) (d:Nat) (v:Value) (hN:N<=w.heap.size) (hT:zAU w N f d v) (hd:d<=128) :
  Calls Tryz.prog 34 #[v,.func (.func fw) #[] #[]] w fun e w'=>e=.returned (.tuple #[.string ⟨#[]⟩,.bool false])/\Below w.heap.size w w':=by
 obtain⟨kind,nn,mb,mn,mc,bits,ext,text,kb,kn,kc,rfl⟩:=hT.cells;obtain⟨M,hM⟩:∃ M,M=w.heap.size:=⟨_,rfl⟩;have HV:=zz (zJZ w.heap.size fw hfw w hw);clear hw;have HT:=zz (zAU.mono hN _ _ _ hT);have HM:=zz hM;clear hT hM hN;have hmf:∀ (fn:Fn) (first cap:Array Value) (w:World),(Instr.makeFunc fn first cap).run Tryz.prog w=.ok (.func fn first cap) w:=fun _ _ _ _=>rfl
 go_enter Tryz.func34,Tryz.ntmps34
 go_upto_region 4 with fail
 clear hmf;obtain⟨W1,hW1⟩:∃ W1,W1=w.alloc (.cells (zAa kind nn false (.slice mb mn mc) bits ext (zAc text) (.slice kb kn kc)) 31):=⟨_,rfl⟩;obtain⟨W2,hW2⟩:∃ W2,W2=W1.alloc (.cells #[.func (.func fw) #[] #[]] 80):=⟨_,rfl⟩;obtain⟨W3,hW3⟩:∃ W3,W3=W2.alloc (.cells #[.slice none 0 0] 95):=⟨_,rfl⟩;obtain⟨W4,hW4⟩:∃ W4,W4=W3.alloc (.cells #[.func (.func 71) #[] #[.pointer (some ⟨w.heap.size+1,0,none⟩),.pointer (some ⟨w.heap.size+1+1,0,none⟩),.pointer (some ⟨w.heap.size+1+1+1,0,none⟩)]] 80):=⟨_,rfl⟩;rw[<-hW1,<-hW2,<-hW3,<-hW4];have s1:W1.heap.size=w.heap.size+1:=by rw[hW1];simp
 have s2:W2.heap.size=w.heap.size+2:=by rw[hW2];simp;omega
 have s3:W3.heap.size=w.heap.size+3:=by rw[hW3];simp;omega
 have s4:W4.heap.size=w.heap.size+4:=by rw[hW4];simp;omega
 have k1:Blk W1 w.heap.size (zAa kind nn false (.slice mb mn mc) bits ext (zAc text) (.slice kb kn kc)) 31:=by rw[hW1];exact Blk.new _ _ _
 have k2:Blk W2 (w.heap.size+1) #[.func (.func fw) #[] #[]] 80:=by rw[hW2,<-s1];exact Blk.new _ _ _
 have k3:Blk W3 (w.heap.size+2) #[.slice none 0 0] 95:=by rw[hW3,<-s2];exact Blk.new _ _ _
 have k4:Blk W4 (w.heap.size+3) #[.func (.func 71) #[] #[.pointer (some ⟨w.heap.size+1,0,none⟩),.pointer (some ⟨w.heap.size+1+1,0,none⟩),.pointer (some ⟨w.heap.size+1+1+1,0,none⟩)]] 80:=by rw[hW4,<-s3];exact Blk.new _ _ _
 have b4:Below w.heap.size w W4:=by
  rw[hW4,hW3,hW2,hW1];exact ((((zK _ _).alloc (zQ _) _).alloc (by simp) _).alloc (by simp;omega) _).alloc (by simp;omega) _
 have k1':Blk W4 w.heap.size (zAa kind nn false (.slice mb mn mc) bits ext (zAc text) (.slice kb kn kc)) 31:=by
  rw[hW4,hW3,hW2];exact ((k1.alloc _).alloc _).alloc _
 have k2':Blk W4 (w.heap.size+1) #[.func (.func fw) #[] #[]] 80:=by
  rw[hW4,hW3];exact (k2.alloc _).alloc _
 have k3':Blk W4 (w.heap.size+2) #[.slice none 0 0] 95:=by rw[hW4];exact k3.alloc _
 have hM4:WM W4 w.heap.size fw 0:=⟨by omega,k2'.cell 0,k4.cell 0,_,[],k3'.cell 0,k3'.free 0,World.ownsRow_nil _ _ _ _⟩;have HT4:=zz (zAU.below b4 _ _ _ HT.out);have HM4:=zz hM4;have HB4:=zz b4;have HK1:=zz k1';have HS4:=zz s4;have c3:W4.cell? ⟨w.heap.size+1+1+1,0,none⟩=some (.func (.func 71) #[] #[.pointer (some ⟨w.heap.size+1,0,none⟩),.pointer (some ⟨w.heap.size+1+1,0,none⟩),.pointer (some ⟨w.heap.size+1+1+1,0,none⟩)]):=hM4.visit;clear hM4 b4 k1 k2 k3 k4 k1' k2' k3' s1 s2 s3 s4 hW1 hW2 hW3 hW4 HT;refine wp_region_lit ?_;iterate 3 go_step
 refine wpList_load_row rfl 31 _ rfl w.heap.size rfl 31 _ (0,0) _ HK1.out Tryz.underlying31 rfl (by kernel_rfl) ?_;go_wp2_with fail
 refine (HV.out f d _ 0 W4 0 HB4.out HT4.out (by omega) (by omega) HM4.out).mono ?_;rintro e w7 ⟨rfl,hM7,hE7⟩;have HB7:=zz (HB4.out.trans (hE7.below (B':=w.heap.size) (by omega) (fun j (hj:j=w.heap.size+2)=>by omega)));clear hM7 hE7 c3;go_wp2;refine bodyPost_ret (v:=.tuple #[.string ⟨#[]⟩,.bool false]) (by simp[results,Tryz.results34,go_sem]) rfl ⟨rfl,HB7.out⟩
end Go.Proofs.YtcanfakaigpkgaaGreatDoor.D
