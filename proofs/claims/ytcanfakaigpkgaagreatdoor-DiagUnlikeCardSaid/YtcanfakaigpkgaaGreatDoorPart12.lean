/-
  Of the proof that the law DiagUnlike answers true at every two values: a part, without conditions of its own.
-/
import Derived.Test.YtcanfakaigpkgaaGreatDoorPart09
import Derived.Test.YtcanfakaigpkgaaGreatDoorPart08
set_option linter.unusedVariables false
set_option linter.unusedSimpArgs false
set_option maxRecDepth 100000
set_option maxHeartbeats 8000000
namespace Go.Proofs.YtcanfakaigpkgaaGreatDoor.D
open Go Limb
theorem zNp(z:Int):zFO (zAZ z.natAbs):=zDm _
theorem zPD(z:List UInt8):∀ c,(44 :: z).head?=some c->zEA c=false:=by
 intro c hc;simp only[List.head?_cons,Option.some.injEq] at hc;subst hc;decide
theorem zPv(z:List UInt8):∀ c,(41 :: z).head?=some c->zEA c=false:=by
 intro c hc;simp only[List.head?_cons,Option.some.injEq] at hc;subst hc;decide
theorem zPU{z v:Int}{x y:List UInt8}(h:zEF z ++ 44 :: x=zEF v ++ 44 :: y):z=v/\x=y:=by
 have tz:∀ z:Int,∀ c ∈ zEF z,zEA c=true:=fun z=>by unfold zEF;exact zBf (zGL _) (zBw _)
 obtain⟨e1,e2⟩:=zDy (tz z) (tz v) (zPD x) (zPD y) h;unfold zEF at e1;obtain⟨e3,e4⟩:=zHL (zNp z) (zNp v) e1;have e5:=zDC e4;have e6:(z<0) ↔ (v<0):=by simpa using e3
 refine⟨by omega,by simpa using e2⟩
theorem zNM{n k:Nat}{x y:List UInt8}(hn:n<2)(hk:k<2)(h:(if n=1 then [116,114,117,101] else [102,97,108,115,101]:List UInt8) ++ x=(if k=1 then [116,114,117,101] else [102,97,108,115,101]) ++ y):n=k/\x=y:=by
 split at h <;> split at h
 ·exact⟨by omega,List.append_cancel_left h⟩
 ·exact absurd (List.cons.inj h).1 (by decide)
 ·exact absurd (List.cons.inj h).1 (by decide)
 ·exact⟨by omega,List.append_cancel_left h⟩
theorem zKW{n k:Nat}{x y:List UInt8}(h:(if n=23 then [117,110,100,101,102,105,110,101,100] else [115,105,109,112,108,101,40] ++ zAZ n ++ [41]:List UInt8) ++ x=(if k=23 then [117,110,100,101,102,105,110,101,100] else [115,105,109,112,108,101,40] ++ zAZ k ++ [41]) ++ y):n=k/\x=y:=by
 split at h <;> split at h
 ·exact⟨by omega,List.append_cancel_left h⟩
 ·exact absurd (List.cons.inj h).1 (by decide)
 ·exact absurd (List.cons.inj h).1 (by decide)
 ·simp only[List.cons_append,List.nil_append,List.append_assoc,List.cons.injEq,true_and] at h;obtain⟨e1,e2⟩:=zDy (zBw n) (zBw k) (zPv x) (zPv y) h;exact⟨zDC e1,by simpa using e2⟩
theorem zOI(fl:Nat->List UInt8)(a b:VA)(m k:Nat)(ts us:Nat->List UInt8)(S:Nat->Prop)(x y:List UInt8)(ha:a.ok m)(hb:b.ok k)(hfa:a.kind=4->zEK a.bits (fl a.bits))(hfb:b.kind=4->zEK b.bits (fl b.bits))
  (ht:∀ i,i<m->∀ cl,cl=93 \/ cl=125->ts i≠[]/\(ts i).head?≠some cl) (hu:∀ i,i<k->∀ cl,cl=93 \/ cl=125->us i≠[]/\(us i).head?≠some cl)
  (ih:∀ i x y,i<m->i<k->zEE x->zEE y->ts i ++ x=us i ++ y->S i/\x=y) (hx:zEE x) (hy:zEE y) (h:zBP fl a m ts ++ x=zBP fl b k us ++ y):a=b/\m=k/\(∀ i,i<m->S i)/\x=y:=by
 obtain⟨c,r,e1,c1⟩:=zFI fl a m ts ha hfa;obtain⟨d,q,e2,c2⟩:=zFI fl b k us hb hfb
 have hcd:c=d:=by
  rw[e1,e2] at h;exact (List.cons.inj h).1
 subst hcd;clear e1 e2;have s1:zG0 [44,32]:=.inl rfl;have s2:zG0 [58,32]:=.inr rfl;rcases ha with ⟨hk,h1,h0⟩|⟨hk,⟨n,hn,h1⟩,h0⟩|⟨hk,⟨neg,z,hz,h1⟩,h0⟩|⟨hk,⟨n,h1⟩,h0⟩|⟨hk,⟨t,h1⟩,h0⟩|⟨hk,⟨t,h1⟩,h0⟩|⟨hk,h1⟩|⟨hk,h1,h0⟩|⟨hk,⟨n,h1⟩,h0⟩|⟨hk,⟨n,h1⟩,h0⟩|⟨hk,⟨z,t,h1⟩,h0⟩ <;>
 rcases hb with ⟨jk,j1,j0⟩|⟨jk,⟨n',jn,j1⟩,j0⟩|⟨jk,⟨neg',z',jz,j1⟩,j0⟩|⟨jk,⟨n',j1⟩,j0⟩|⟨jk,⟨t',j1⟩,j0⟩|⟨jk,⟨t',j1⟩,j0⟩|⟨jk,j1⟩|⟨jk,j1,j0⟩|⟨jk,⟨n',j1⟩,j0⟩|⟨jk,⟨n',j1⟩,j0⟩|⟨jk,⟨z',t',j1⟩,j0⟩ <;>
 first
 | (exfalso;rw[hk] at c1;rw[jk] at c2;omega)
 | skip
 ·subst h1 j1;simp only[zBP,Nat.reduceEqDiff,if_true,if_false] at h;exact⟨rfl,by omega,fun i hi=>by omega,List.append_cancel_left h⟩
 ·subst h1 j1;simp only[zBP,Nat.reduceEqDiff,if_true,if_false] at h;obtain⟨e1,e2⟩:=zNM hn jn h;subst e1;exact⟨rfl,by omega,fun i hi=>by omega,e2⟩
 ·subst h1 j1;simp only[zBP,Nat.reduceEqDiff,if_true,if_false] at h;obtain⟨e1,e2⟩:=zDy (zFo _ _) (zFo _ _) hx.tok hy.tok h;obtain⟨e3,e4⟩:=zPS e1;rw[zAe,zAe] at e4;subst e3 e4;exact⟨rfl,by omega,fun i hi=>by omega,e2⟩
 ·subst h1 j1;simp only[zBP,Nat.reduceEqDiff,if_true,if_false] at h;exact (zKb (hfb rfl) hx hy h).elim
 ·subst h1 j1;simp only[zBP,Nat.reduceEqDiff,if_true,if_false] at h;simp only[List.append_assoc,List.cons_append,List.nil_append] at h;exact (zLj hx h).elim
 ·subst h1 j1;simp only[zBP,Nat.reduceEqDiff,if_true,if_false] at h;exact (zKb (hfa rfl) hy hx h.symm).elim
 ·subst h1 j1;simp only[zBP,Nat.reduceEqDiff,if_true,if_false] at h;obtain⟨e1,e2⟩:=zOq (hfa rfl) (hfb rfl) hx hy h;have e3:n=n':=e1;subst e3;exact⟨rfl,by omega,fun i hi=>by omega,e2⟩
 ·subst h1 j1;simp only[zBP,Nat.reduceEqDiff,if_true,if_false] at h;simp only[List.append_assoc,List.cons_append,List.nil_append] at h;exact (zJQ (hfa rfl) hx h).elim
 ·subst h1 j1;simp only[zBP,Nat.reduceEqDiff,if_true,if_false] at h;obtain⟨e1,e2⟩:=zMk h;subst e1;exact⟨rfl,by omega,fun i hi=>by omega,e2⟩
 ·subst h1 j1;simp only[zBP,Nat.reduceEqDiff,if_true,if_false] at h;simp only[List.append_assoc,List.cons_append,List.nil_append,List.cons.injEq,true_and] at h;obtain⟨e1,e2⟩:=zKT h;subst e1;exact⟨rfl,by omega,fun i hi=>by omega,e2⟩
 ·subst h1 j1;simp only[zBP,Nat.reduceEqDiff,if_true,if_false] at h;simp only[List.append_assoc,List.cons_append,List.nil_append,List.cons.injEq,true_and] at h;obtain⟨e1,e2,e3⟩:=zLw s1 s1 (.inl rfl) (fun i hi=>ht i hi 93 (.inl rfl)) (fun i hi=>hu i hi 93 (.inl rfl)) ih h;exact⟨rfl,e1,e2,e3⟩
 ·subst h1 j1;simp only[zBP,Nat.reduceEqDiff,if_true,if_false] at h;simp only[List.append_assoc,List.cons_append,List.nil_append,List.cons.injEq,true_and] at h;obtain⟨e1,e2,e3⟩:=zLw s2 s1 (.inr rfl) (fun i hi=>ht i hi 125 (.inr rfl)) (fun i hi=>hu i hi 125 (.inr rfl)) ih h;exact⟨rfl,e1,e2,e3⟩
 ·subst h1 j1;simp only[zBP,Nat.reduceEqDiff,if_true,if_false] at h;simp only[List.append_assoc,List.cons_append,List.nil_append] at h;exact (zLj hy h.symm).elim
 ·subst h1 j1;simp only[zBP,Nat.reduceEqDiff,if_true,if_false] at h;simp only[List.append_assoc,List.cons_append,List.nil_append] at h;exact (zJQ (hfb rfl) hy h.symm).elim
 ·subst h1 j1;simp only[zBP,Nat.reduceEqDiff,if_true,if_false] at h;subst h0 j0;simp only[List.append_assoc,List.cons_append,List.nil_append,zBc,Nat.lt_irrefl,Nat.zero_add,if_false,List.append_nil] at h;obtain⟨e1,e2⟩:=zDy (zBw _) (zBw _) (zL7 _) (zL7 _) h;have e3:=zDC e1;subst e3;simp only[List.cons.injEq,true_and] at e2;obtain⟨e4,e5⟩:=ih 0 _ _ (by omega) (by omega) (fun c hc=>by simp only[List.head?_cons,Option.some.injEq] at hc;exact .inr (.inr (.inr (.inl hc.symm)))) (fun c hc=>by simp only[List.head?_cons,Option.some.injEq] at hc;exact .inr (.inr (.inr (.inl hc.symm)))) e2;exact⟨rfl,rfl,fun i hi=>by rw[show i=0 by omega];exact e4,by simpa using e5⟩
 ·subst h1 j1;simp only[zBP,Nat.reduceEqDiff,if_true,if_false] at h;obtain⟨e1,e2⟩:=zKW h;subst e1;exact⟨rfl,by omega,fun i hi=>by omega,e2⟩
 ·subst h1 j1;simp only[zBP,Nat.reduceEqDiff,if_true,if_false] at h;simp only[List.append_assoc,List.cons_append,List.nil_append,List.cons.injEq,true_and] at h;obtain⟨e1,e2⟩:=zPU h;simp only[List.cons.injEq,true_and] at e2;obtain⟨e3,e4⟩:=zKT e2;subst e1 e3;exact⟨rfl,by omega,fun i hi=>by omega,by simpa using e4⟩
theorem zPN(fl:Nat->List UInt8):∀ (f g:VT),f.ok fl->g.ok fl->∀ x y,zEE x->zEE y->f.txt fl ++ x=g.txt fl ++ y->f.same g/\x=y:=by
 have hds:∀ g:VT,g.ok fl->∀ cl:UInt8,cl=93 \/ cl=125->g.txt fl≠[]/\(g.txt fl).head?≠some cl:=by
  intro g hg cl hcl
  cases g with
  | stop=>exact hg.elim
  | node b k gs=>
   obtain⟨hb,hfb,hgk⟩:=hg;obtain⟨c,r,e,h⟩:=zFI fl b k (fun i=>(gs i).txt fl) hb hfb;have e':(VT.node b k gs).txt fl=c :: r:=e;rw[e'];refine⟨by simp,fun hc=>?_⟩;simp only[List.head?_cons,Option.some.injEq] at hc;subst hc;have hb':b.kind<=11:=by rcases hb with h|h|h|h|h|h|h|h|h|h|h <;> omega
   rcases hcl with rfl|rfl
   ·rw[show cls 93=99 by decide] at h;omega
   ·rw[show cls 125=99 by decide] at h;omega
 intro f
 induction f with
 | stop=>intro g hf;exact hf.elim
 | node a m fs ih=>
  intro g hf hg x y hx hy h
  cases g with
  | stop=>exact hg.elim
  | node b k gs=>
   obtain⟨ha,hfa,hfk⟩:=hf;obtain⟨hb,hfb,hgk⟩:=hg
   obtain⟨e1,e2,e3,e4⟩:=zOI fl a b m k (fun i=>(fs i).txt fl) (fun i=>(gs i).txt fl) (fun i=>(fs i).same (gs i)) x y ha hb hfa hfb (fun i hi=>hds _ (hfk i hi)) (fun i hi=>hds _ (hgk i hi))
    (fun i x y hi hj hx hy h=>ih i (gs i) (hfk i hi) (hgk i hj) x y hx hy h) hx hy h
   exact⟨⟨e1,e2,e3⟩,e4⟩
def sgI(a b:Int):Int:=if a<b then -1 else if b<a then 1 else 0
theorem zFu{a b:Int}:sgI a b=0 ↔ a=b:=by
 unfold sgI
 split
 ·constructor <;> intro h <;> omega
 ·split <;> constructor <;> intro h <;> omega
def zCO(neg:Bool)(x:Nat):Int:=if x=0 then 0 else if neg then -1 else 1
def zJy(p:Bool)(x:Nat)(q:Bool)(y:Nat):Int:=
 if zCO p x<zCO q y then -1 else if zCO q y<zCO p x then 1 else zCO p x*zBo x y
theorem zF7{x y:Nat}:zBo x y=0 ↔ x=y:=by
 unfold zBo
 split
 ·constructor <;> intro h <;> omega
 ·split <;> constructor <;> intro h <;> omega
theorem zLp{p q:Bool}{x y:Nat}(hp:x=0->p=false)(hq:y=0->q=false):zJy p x q y=0 ↔ p=q/\x=y:=by
 unfold zJy;constructor
 ·intro h
  split at h
  ·omega
  ·split at h
   ·omega
   ·rename_i h1 h2
    have hs:zCO p x=zCO q y:=by omega
    have hz:=Int.mul_eq_zero.1 h;unfold zCO at hs hz;rcases hz with hz|hz
    ·have hx:x=0:=by
      rcases Nat.eq_zero_or_pos x with h3|h3
      ·exact h3
      ·rw[if_neg (by omega)] at hz;cases p <;> simp at hz
     have hy:y=0:=by
      rcases Nat.eq_zero_or_pos y with h3|h3
      ·exact h3
      ·rw[if_pos hx,if_neg (by omega)] at hs;cases q <;> simp at hs
     exact⟨by rw[hp hx,hq hy],by rw[hx,hy]⟩
    ·have hxy:=zF7.1 hz;subst hxy;refine⟨?_,rfl⟩;rcases Nat.eq_zero_or_pos x with h3|h3
     ·rw[hp h3,hq h3]
     ·have hne:¬ x=0:=by omega
      simp only[if_neg hne] at hs;cases p <;> cases q <;> first|rfl|(exfalso;simp at hs)
 ·rintro⟨rfl,rfl⟩;rw[if_neg (by omega),if_neg (by omega),zF7.2 rfl,Int.mul_zero]
def zJv(b c:Nat):Int:=
 if 9223372036854775808<=b then (if 9223372036854775808<=c then sgI c b else -1) else (if 9223372036854775808<=c then 1 else sgI b c)
theorem zLe{b c:Nat}:zJv b c=0 ↔ b=c:=by
 unfold zJv
 split <;> split
 ·rw[zFu];constructor <;> intro h <;> omega
 ·constructor <;> intro h <;> omega
 ·constructor <;> intro h <;> omega
 ·rw[zFu];constructor <;> intro h <;> omega
def zJb(s t:List UInt8):Int:=if s=t then 0 else if s<t then -1 else 1
theorem zLk{s t:List UInt8}:zJb s t=0 ↔ s=t:=by
 unfold zJb
 split
 ·simp_all
 ·split <;> simp_all
def orC:List Int->Int
 | []=>0
 | c :: l=>if c=0 then orC l else c
theorem zIi:∀ {l:List Int},orC l=0 ↔ ∀ c ∈ l,c=0
 | []=>by simp[orC]
 | c :: l=>by
  unfold orC
  split
  ·rename_i h;rw[zIi (l:=l)];simp[h]
  ·rename_i h;simp[h]
def zOT(a b:VA):Int:=orC [sgI a.kind b.kind,sgI a.n b.n,sgI a.ext b.ext,zJy a.neg (val a.mag) b.neg (val b.mag),zJv a.bits b.bits,zJb a.text b.text]
def zFB(cs:Nat->Int)(m k:Nat):Nat->Int
 | 0=>if m<k then -1 else 0
 | r+1=>if k<=m - (r+1) then 1 else if cs (m - (r+1))=0 then zFB cs m k r else cs (m - (r+1))
def VT.cmp:VT->VT->Int
 | .node a m fs,.node b k gs=>if zOT a b=0 then zFB (fun i=>(fs i).cmp (gs i)) m k m else zOT a b
 | _,_=>0
theorem zGf{cs:Nat->Int}{m k:Nat}:∀ r,r<=m->(m - r<=k)->(zFB cs m k r=0 ↔ m=k/\∀ i,m - r<=i->i<m->cs i=0)
 | 0,h,hk=>by
  unfold zFB
  split
  ·constructor
   ·intro h;omega
   ·rintro⟨h,_⟩;omega
  ·constructor
   ·intro _;exact⟨by omega,fun i h1 h2=>by omega⟩
   ·intro _;rfl
 | r+1,h,hk=>by
  unfold zFB
  split
  ·constructor
   ·intro h;omega
   ·rintro⟨h,_⟩;omega
  ·split
   ·rename_i h1 h2
    rw[zGf r (by omega) (by omega)];constructor
    ·rintro⟨e,h3⟩;refine⟨e,fun i i1 i2=>?_⟩;rcases Nat.lt_or_ge (m - (r+1)) i with h4|h4
     ·exact h3 i (by omega) i2
     ·rw[show i=m - (r+1) by omega];exact h2
    ·rintro⟨e,h3⟩;exact⟨e,fun i i1 i2=>h3 i (by omega) i2⟩
   ·rename_i h1 h2
    constructor
    ·intro h;exact absurd h h2
    ·rintro⟨e,h3⟩;exact absurd (h3 _ (zQ _) (by omega)) h2
theorem VA.ok.norm{a:VA}{m:Nat}(h:a.ok m):∃ x,a.mag=zAb x/\(x=0->a.neg=false):=by
 have h0:zAb 0=[]:=zAn;rcases h with ⟨_,h,_⟩|⟨_,⟨n,_,h⟩,_⟩|⟨_,⟨neg,x,hx,h⟩,_⟩|⟨_,⟨b,h⟩,_⟩|⟨_,⟨t,h⟩,_⟩|⟨_,⟨t,h⟩,_⟩|⟨_,h⟩|⟨_,h,_⟩|⟨_,⟨n,h⟩,_⟩|⟨_,⟨n,h⟩,_⟩|⟨_,⟨z,t,h⟩,_⟩ <;> rw[h]
 all_goals first
  | exact⟨x,rfl,hx⟩
  | exact⟨0,h0.symm,fun _=>rfl⟩
theorem zLa{a b:VA}{m k:Nat}(ha:a.ok m)(hb:b.ok k):zOT a b=0 ↔ a=b:=by
 obtain⟨x,ex,hx⟩:=ha.norm;obtain⟨y,ey,hy⟩:=hb.norm;unfold zOT;rw[zIi];simp only[List.mem_cons,List.not_mem_nil,or_false,forall_eq_or_imp,forall_eq,zFu,zLe,zLk,ex,ey,zAe,zLp hx hy];constructor
 ·rintro⟨h1,h2,h3,⟨h4,h5⟩,h6,h7⟩;obtain⟨k1,n1,g1,m1,b1,e1,t1⟩:=a;obtain⟨k2,n2,g2,m2,b2,e2,t2⟩:=b;simp only at *;subst h4 h5 ex ey h6 h7 h3;obtain rfl:k1=k2:=by omega
  obtain rfl:n1=n2:=by omega
  rfl
 ·rintro rfl;rw[ex] at ey;have:=congrArg val ey;rw[zAe,zAe] at this;exact⟨rfl,rfl,rfl,⟨rfl,this⟩,rfl,rfl⟩
theorem zLS(fl:Nat->List UInt8):∀ (f g:VT),f.ok fl->g.ok fl->(f.cmp g=0 ↔ f.same g):=by
 intro f
 induction f with
 | stop=>intro g hf;exact hf.elim
 | node a m fs ih=>
  intro g hf hg
  cases g with
  | stop=>exact hg.elim
  | node b k gs=>
   obtain⟨ha,_,hfk⟩:=hf;obtain⟨hb,_,hgk⟩:=hg;simp only[VT.cmp,VT.same];have hz:=zLa ha hb
   split
   ·rename_i h0
    rw[zGf m (zQ _) (by omega)];constructor
    ·rintro⟨e,h⟩;exact⟨hz.1 h0,e,fun i hi=>(ih i (gs i) (hfk i hi) (hgk i (by omega))).1 (h i (by omega) hi)⟩
    ·rintro⟨e1,e2,h⟩;exact⟨e2,fun i _ hi=>(ih i (gs i) (hfk i hi) (hgk i (by omega))).2 (h i hi)⟩
   ·rename_i h0
    constructor
    ·intro h;exact absurd h h0
    ·rintro⟨e1,_⟩;exact absurd (hz.2 e1) h0
theorem zEb{one two:List UInt8}{m:Nat}{ts us:Nat->List UInt8}:∀ r,(∀ i,i<r->ts i=us i)->zBc one two m ts r=zBc one two m us r
 | 0,_=>rfl
 | r+1,h=>by rw[zBc,zBc,zEb r (fun i hi=>h i (by omega)),h r (by omega)]
theorem zLR(fl:Nat->List UInt8):∀ (f g:VT),f.same g->f.txt fl=g.txt fl:=by
 intro f
 induction f with
 | stop=>intro g h;cases g with
  | stop=>rfl
  | node=>exact h.elim
 | node a m fs ih=>
  intro g h
  cases g with
  | stop=>exact h.elim
  | node b k gs=>
   obtain⟨rfl,rfl,h3⟩:=h;have e:∀ one two,zBc one two m (fun i=>(fs i).txt fl) m=zBc one two m (fun i=>(gs i).txt fl) m:=fun one two=>zEb m (fun i hi=>ih i (gs i) (h3 i hi))
   simp only[VT.txt,zBP,e]
def upC(ev:Bool)(n h:Nat):Nat->Nat->Nat
 | 0,_=>0
 | k+1,d=>if zBd n d h ev then upC ev n h k (d*10)+1 else 0
theorem zNr(ev:Bool)(n h:Nat):∀ k d,n+h<d*10 ^ k->zBd n (d*10 ^ upC ev n h k d) h ev=false
 | 0,d,hk=>by
  unfold upC zBd;rw[Nat.pow_zero,Nat.mul_one] at hk ⊢;have h1:¬ d<n+h:=by omega
  have h2:¬ n+h=d:=by omega
  simp[h1,h2]
 | k+1,d,hk=>by
  unfold upC
  split
  ·rw[show d*10 ^ (upC ev n h k (d*10)+1)=d*10*10 ^ upC ev n h k (d*10) by rw[Nat.pow_succ',Nat.mul_assoc]];exact zNr ev n h k (d*10) (by rw[Nat.mul_assoc,<-Nat.pow_succ'];exact hk)
  ·rename_i h1
   simpa using h1
def dnC(ev:Bool)(d:Nat):Nat->Nat->Nat->Nat
 | 0,_,_=>0
 | k+1,n,h=>if zBd (n*10) d (h*10) ev then 0 else dnC ev d k (n*10) (h*10)+1
theorem zNz(ev:Bool)(d:Nat):∀ k n h,0<h->zBd n d h ev=false->d<=n*10 ^ k ->
  zBd (n*10 ^ dnC ev d k n h) d (h*10 ^ dnC ev d k n h) ev=false/\zBd (n*10 ^ dnC ev d k n h*10) d (h*10 ^ dnC ev d k n h*10) ev=true
 | 0,n,h,h0,hno,hk=>by
  exfalso
  have:=(zCK hno).1
  omega
 | k+1,n,h,h0,hno,hk=>by
  unfold dnC
  split
  ·rename_i h1
   simp only[Nat.pow_zero,Nat.mul_one];exact⟨hno,h1⟩
  ·rename_i h1
   have:=zNz ev d k (n*10) (h*10) (by omega) (by simpa using h1) (by rw[Nat.mul_assoc,<-Nat.pow_succ'];exact hk);rw[show n*10 ^ (dnC ev d k (n*10) (h*10)+1)=n*10*10 ^ dnC ev d k (n*10) (h*10) by rw[Nat.pow_succ',Nat.mul_assoc],show h*10 ^ (dnC ev d k (n*10) (h*10)+1)=h*10*10 ^ dnC ev d k (n*10) (h*10) by rw[Nat.pow_succ',Nat.mul_assoc]];exact this
theorem zE7(x d:Nat)(h:0<d):x<d*10 ^ x:=by
 have h1:x<10 ^ x:=Nat.lt_pow_self (by omega);have h2:1*10 ^ x<=d*10 ^ x:=Nat.mul_le_mul_right _ h;omega
def zGh(ev:Bool)(n d l h:Nat)(q:Int):List Nat × Int:=
 let a:=(-q).toNat
 let b:=q.toNat
 let n1:=n*10 ^ a
 let h1:=h*10 ^ a
 let d1:=d*10 ^ b
 let u:=upC ev n1 h1 (n1+h1) d1
 let d2:=d1*10 ^ u
 let v:=dnC ev d2 d2 n1 h1
 (zEJ ev d2 d2 (n1*10 ^ v) (l*10 ^ a*10 ^ v) (h1*10 ^ v),q+u - v)
theorem zOg(ev:Bool)(n d l h:Nat)(q:Int)(hd:0<d)(hl:0<l)(hh:0<h)(hln:l<n):
  ∃ a b:Nat,(zGh ev n d l h q).2=(b:Int) - a/\zK6 ev (d*10 ^ b) (n*10 ^ a) (l*10 ^ a) (h*10 ^ a) (zGh ev n d l h q).1/\zGq (zGh ev n d l h q).1:=by
 have p1:0<10 ^ (-q).toNat:=Nat.pow_pos (by omega);have p2:0<10 ^ q.toNat:=Nat.pow_pos (by omega);have hn1:0<n*10 ^ (-q).toNat:=Nat.mul_pos (by omega) p1;have hh1:0<h*10 ^ (-q).toNat:=Nat.mul_pos hh p1;have hd1:0<d*10 ^ q.toNat:=Nat.mul_pos hd p2;have hu:=zNr ev (n*10 ^ (-q).toNat) (h*10 ^ (-q).toNat) (n*10 ^ (-q).toNat+h*10 ^ (-q).toNat) (d*10 ^ q.toNat) (zE7 _ _ hd1);obtain⟨u,hu'⟩:∃ u,u=upC ev (n*10 ^ (-q).toNat) (h*10 ^ (-q).toNat) (n*10 ^ (-q).toNat+h*10 ^ (-q).toNat) (d*10 ^ q.toNat):=⟨_,rfl⟩;rw[<-hu'] at hu;have hd2:0<d*10 ^ q.toNat*10 ^ u:=Nat.mul_pos hd1 (Nat.pow_pos (by omega));have hv:=zNz ev (d*10 ^ q.toNat*10 ^ u) (d*10 ^ q.toNat*10 ^ u) (n*10 ^ (-q).toNat) (h*10 ^ (-q).toNat) hh1 hu (Nat.le_of_lt (zE7 _ _ hn1));obtain⟨v,hv'⟩:∃ v,v=dnC ev (d*10 ^ q.toNat*10 ^ u) (d*10 ^ q.toNat*10 ^ u) (n*10 ^ (-q).toNat) (h*10 ^ (-q).toNat):=⟨_,rfl⟩;rw[<-hv'] at hv;have pv:0<10 ^ v:=Nat.pow_pos (by omega);have hl1:0<l*10 ^ (-q).toNat*10 ^ v:=Nat.mul_pos (Nat.mul_pos hl p1) pv;have hlt:l*10 ^ (-q).toNat*10 ^ v<n*10 ^ (-q).toNat*10 ^ v:=Nat.mul_lt_mul_of_pos_right (Nat.mul_lt_mul_of_pos_right hln p1) pv
 have hlo:zDF (n*10 ^ (-q).toNat*10 ^ v) (l*10 ^ (-q).toNat*10 ^ v) ev=false:=by
  unfold zDF;have e1:¬ n*10 ^ (-q).toNat*10 ^ v<l*10 ^ (-q).toNat*10 ^ v:=by omega
  have e2:¬ n*10 ^ (-q).toNat*10 ^ v=l*10 ^ (-q).toNat*10 ^ v:=by omega
  rw[decide_eq_false e1,decide_eq_false e2];rfl
 have hg:=zNA (ev:=ev) (d:=d*10 ^ q.toNat*10 ^ u) (d*10 ^ q.toNat*10 ^ u) (n*10 ^ (-q).toNat*10 ^ v) (l*10 ^ (-q).toNat*10 ^ v) (h*10 ^ (-q).toNat*10 ^ v) hd2 hl1 (Nat.mul_pos hh1 pv) hv.1 hlo (Nat.le_of_lt (zE7 _ _ hl1));have hhd:=zLx (k:=d*10 ^ q.toNat*10 ^ u) hlo hv.2
 have e1:(zGh ev n d l h q).1=zEJ ev (d*10 ^ q.toNat*10 ^ u) (d*10 ^ q.toNat*10 ^ u) (n*10 ^ (-q).toNat*10 ^ v) (l*10 ^ (-q).toNat*10 ^ v) (h*10 ^ (-q).toNat*10 ^ v):=by
  rw[hv',hu'];rfl
 have e2:(zGh ev n d l h q).2=q+u - v:=by rw[hv',hu'];rfl
 have ea:∀ x:Nat,x*10 ^ (-q).toNat*10 ^ v=x*10 ^ ((-q).toNat+v):=fun x=>by rw[Nat.pow_add,Nat.mul_assoc]
 have eb:d*10 ^ q.toNat*10 ^ u=d*10 ^ (q.toNat+u):=by rw[Nat.pow_add,Nat.mul_assoc]
 rw[<-e1] at hg hhd;rw[ea,ea,ea,eb] at hg;refine⟨(-q).toNat+v,q.toNat+u,by rw[e2];omega,hg,⟨hg.dig,hg.some_,hhd⟩⟩
def zDv(E s:Nat):List Nat × Int:=
 zGh (decide (s % 2=0)) (sM s*zBV s*2 ^ (sK s - (E - 1))) (zBV s*2 ^ (E - 1 - sK s)) (2 ^ (sK s - (E - 1))) (zFy s*2 ^ (sK s - (E - 1))) (Int.tdiv (((sK s:Int) - ((E - 1:Nat):Int)+(zA7 (sM s):Nat))*30103) 100000)
theorem zMJ(s:Nat):2<=zBV s:=by unfold zBV;split <;> omega
theorem zMY(s:Nat):1<=zFy s:=by unfold zFy;split <;> omega
theorem zFl(E s:Nat)(hE:0<E)(hs:0<s):
  zGq (zDv E s).1/\InI E s (zBW (zDv E s).1*10 ^ ((zDv E s).2 - (zDv E s).1.length).toNat) (10 ^ ((zDv E s).1.length - (zDv E s).2).toNat)/\(zDv E s).1.getLast?≠some 0:=by
 have hX:0<2 ^ (sK s - (E - 1)):=Nat.two_pow_pos _;have hY:0<2 ^ (E - 1 - sK s):=Nat.two_pow_pos _;have hu:=zMJ s;have hh:=zMY s;have hM:=zFW hs
 have h2:1<sM s*zBV s:=by
  have:1*2<=sM s*zBV s:=Nat.mul_le_mul hM hu;omega
 have hln:2 ^ (sK s - (E - 1))<sM s*zBV s*2 ^ (sK s - (E - 1)):=by
  have:=Nat.mul_lt_mul_of_pos_right h2 hX;omega
 have key:∀ q:Int,zDv E s=zGh (decide (s % 2=0)) (sM s*zBV s*2 ^ (sK s - (E - 1))) (zBV s*2 ^ (E - 1 - sK s)) (2 ^ (sK s - (E - 1))) (zFy s*2 ^ (sK s - (E - 1))) q ->
   zGq (zDv E s).1/\InI E s (zBW (zDv E s).1*10 ^ ((zDv E s).2 - (zDv E s).1.length).toNat) (10 ^ ((zDv E s).1.length - (zDv E s).2).toNat)/\(zDv E s).1.getLast?≠some 0:=by
  intro q hq;rw[hq];obtain⟨a,b,e,hg,hd⟩:=zOg (decide (s % 2=0)) (sM s*zBV s*2 ^ (sK s - (E - 1))) (zBV s*2 ^ (E - 1 - sK s)) (2 ^ (sK s - (E - 1))) (zFy s*2 ^ (sK s - (E - 1))) q (Nat.mul_pos (by omega) hY) hX (Nat.mul_pos (by omega) hX) hln;generalize zGh (decide (s % 2=0)) (sM s*zBV s*2 ^ (sK s - (E - 1))) (zBV s*2 ^ (E - 1 - sK s)) (2 ^ (sK s - (E - 1))) (zFy s*2 ^ (sK s - (E - 1))) q=D at *;obtain⟨ds,p⟩:=D;simp only at *;subst e
  have hE':zQA s (2 ^ (sK s - (E - 1))) (2 ^ (E - 1 - sK s)) (10 ^ b) (10 ^ (a+ds.length)) (zBW ds):=by
   obtain⟨_,_,g1,g2,g3,_⟩:=hg;have ep:(10:Nat) ^ (a+ds.length)=10 ^ a*10 ^ ds.length:=Nat.pow_add _ _ _
   have e1:(sM s*zBV s*2 ^ (sK s - (E - 1))*10 ^ a+zFy s*2 ^ (sK s - (E - 1))*10 ^ a)*10 ^ ds.length=(sM s*zBV s+zFy s)*2 ^ (sK s - (E - 1))*10 ^ (a+ds.length):=by
    rw[ep,<-Nat.add_mul,<-Nat.add_mul,Nat.mul_assoc _ (10 ^ a)]
   have e2:sM s*zBV s*2 ^ (sK s - (E - 1))*10 ^ a*10 ^ ds.length=sM s*zBV s*2 ^ (sK s - (E - 1))*10 ^ (a+ds.length):=by rw[ep,Nat.mul_assoc _ (10 ^ a)]
   have e3:2 ^ (sK s - (E - 1))*10 ^ a*10 ^ ds.length=2 ^ (sK s - (E - 1))*10 ^ (a+ds.length):=by rw[ep,Nat.mul_assoc]
   rw[e1] at g1;rw[e2,e3] at g2;rw[e1,e2,e3] at g3;exact⟨g1,g2,fun ho=>g3 (by rw[decide_eq_false (by omega)])⟩
  have hI:=zPQ (E:=E) (a:=a) (b:=b) (K:=ds.length) hs hE hE';refine⟨hd,?_,hg.last ?_⟩
  ·rw[show ((b:Int) - (a:Int) - (ds.length:Int)).toNat=b - (a+ds.length) by omega,show ((ds.length:Int) - ((b:Int) - (a:Int))).toNat=a+ds.length - b by omega];exact hI
  ·unfold zDF;have p:0<10 ^ a:=Nat.pow_pos (by omega);have:=Nat.mul_lt_mul_of_pos_right hln p;have k1:¬ sM s*zBV s*2 ^ (sK s - (E - 1))*10 ^ a<2 ^ (sK s - (E - 1))*10 ^ a:=by omega
   have k2:¬ sM s*zBV s*2 ^ (sK s - (E - 1))*10 ^ a=2 ^ (sK s - (E - 1))*10 ^ a:=by omega
   rw[decide_eq_false k1,decide_eq_false k2];rfl
 exact key _ rfl
def zNU(E s:Nat):Prop:=E<=sK s \/ ∃ a,a*2 ^ E=2*sM s*2 ^ sK s
theorem zOx(E s:Nat)(hE:0<E)(hs:0<s)(hw:¬ zNU E s):(zDv E s).2<(zDv E s).1.length:=by
 obtain⟨hd,hI,_⟩:=zFl E s hE hs;generalize zDv E s=D at *;obtain⟨ds,p⟩:=D;simp only at *;rcases Int.lt_or_le p ds.length with h|h
 ·exact h
 ·exfalso
  rw[show ((ds.length:Int) - p).toNat=0 by omega,Nat.pow_zero] at hI;rcases Nat.lt_or_ge (sK s) E with h1|h1
  ·exact hw (.inr ⟨_,hI.whole hs h1⟩)
  ·exact hw (.inl h1)
end Go.Proofs.YtcanfakaigpkgaaGreatDoor.D
namespace Go.Proofs.YtcanfakaigpkgaaGreatDoor.D
open Go Go.RowKit Limb
theorem zKu(neg:Bool)(x:Nat):-1<=zCO neg x/\zCO neg x<=1:=by
 unfold zCO
 split
 ·omega
 ·split <;> omega
theorem zCR(w:World)(neg:Bool)(v:Value)(l:List Nat)(h:zAf w v l)(hl:l.length<=34359738368):
  Calls Tryz.prog 51 #[.agg #[.bool neg,v]] w fun e w'=>Below w.heap.size w w'/\∃ v':Value,e=.returned (.tuple #[.int .i8 (zCO neg (val l)),v'])/\zAf w' v' (zAb (val l))/\New w.heap.size v':=by
 have hb:Below w.heap.size w (w.alloc (.cells #[.bool neg,v] 28)):=(zK _ _).alloc (zQ _) _;have HC:=zz (zBi _ v l (h.below hb) hl);have HT:=zz (zAv h.fit);clear h;have HB:=zz hb;clear hb;go_enter Tryz.func51,Tryz.ntmps51
 go_wp2_with fail
 refine HC.out.mono ?_;rintro e w1 ⟨hb1,v1,rfl,h1,hn1⟩;have HN1:=zz (hn1.mono (B':=w.heap.size) (by simp));clear hn1;have HB1:=zz (HB.out.trans (hb1.mono (by simp)))
 have c0:w1.cell? ⟨w.heap.size,0,none⟩=some (.bool neg):=by
  rw[hb1.cell (p:=⟨w.heap.size,0,none⟩) (by simp)];exact (Blk.new w #[.bool neg,v] 28).cell 0
 rw[HT.out] at h1;have H1:=zz h1;clear hb1 HB HC;obtain⟨b,c,rfl⟩:=h1.slice;clear h1;by_cases hx:val l=0
 ·have h0:(zAb (val l)).length=0:=by rw[hx,zAn];rfl
  rw[h0] at H1 ⊢;go_wp2;refine bodyPost_ret (v:=.tuple #[.int .i8 0,.slice none 0 0]) (by simp[results,Tryz.results51,go_sem]) rfl ⟨HB1.out,_,by unfold zCO;rw[if_pos hx],?_⟩;rw[hx,zAn];exact⟨zAf.nil _,New.none _ _ _⟩
 ·have h0:(((zAb (val l)).length:Int) == 0)=false:=beq_eq_false_iff_ne.2 (by have:=zAk hx;omega);have HX:=zz hx;clear hx;generalize (zAb (val l)).length=n at H1 h0 HN1 ⊢
  cases neg with
  | true=>
   go_wp2
   refine bodyPost_ret (v:=.tuple #[.int .i8 (-1),.slice b n c]) (by simp[results,Tryz.results51,go_sem]) rfl ⟨HB1.out,_,by unfold zCO;rw[if_neg HX.out];rfl,H1.out,HN1.out⟩
  | false=>
   go_wp2;refine bodyPost_ret (v:=.tuple #[.int .i8 1,.slice b n c]) (by simp[results,Tryz.results51,go_sem]) rfl ⟨HB1.out,_,by unfold zCO;rw[if_neg HX.out];rfl,H1.out,HN1.out⟩
theorem zLJ(w:World)(b:Option Addr)(n c:Nat)(hn:0<n):
  Calls Tryz.prog 162 #[.int .i8 (-1),.slice b n c] w fun e w'=>Below w.heap.size w w'/\e=.returned (.agg #[.bool true,.slice b n c]):=by
 have h0:(0:Int)<(n:Int):=by omega
 go_enter Tryz.func162,Tryz.ntmps162
 go_wp2;refine bodyPost_ret (v:=.agg #[.bool true,.slice b n c]) (by simp[results,Tryz.results162,go_sem]) rfl ⟨?_,rfl⟩;exact (zK _ _).alloc (zQ _) _
def zM2(neg:Bool)(x:Nat):Bool:=neg && decide (0<x)
theorem zKB(w:World)(neg:Bool)(v:Value)(l:List Nat)(h:zAf w v l)(hl:l.length<=34359738368):
  Calls Tryz.prog 108 #[.agg #[.bool neg,v]] w fun e w'=>Below w.heap.size w w'/\∃ v':Value,e=.returned (.agg #[.bool (zM2 neg (val l)),v'])/\zAf w' v' (zAb (val l))/\New w.heap.size v':=by
 obtain⟨W,hW⟩:∃ W,W=(w.alloc (.cells #[.bool neg,v] 28)).alloc (.cells #[.bool false,.slice none 0 0] 28):=⟨_,rfl⟩;have hb:Below w.heap.size w W:=by rw[hW];exact ((zK _ _).alloc (zQ _) _).alloc (by simp) _
 have hWs:W.heap.size=w.heap.size+2:=by rw[hW];simp
 have hres:=Blk.new (w.alloc (.cells #[.bool neg,v] 28)) #[.bool false,.slice none 0 0] 28;rw[<-hW] at hres;have HRES:=zz hres;have HWS:=zz hWs;have HC:=zz (zCR W neg v l (h.below hb) hl);have HB:=zz hb;have HW:=zz hW;clear h hb hW hres hWs;go_enter Tryz.func108,Tryz.ntmps108
 go_wp2_with fail
 rw[<-HW.out];refine HC.out.mono ?_;rintro e w1 ⟨hb1,v1,rfl,h1,hn1⟩;have HN1:=zz (hn1.mono (B':=w.heap.size) HB.out.size);clear hn1;have HB1:=zz hb1;have HL:=zz h1;obtain⟨b,c,rfl⟩:=h1.slice
 have HM:Hid (Calls Tryz.prog 162 #[.int .i8 (zCO neg (val l)),.slice b (zAb (val l)).length c] w1 fun e w'=>Below w1.heap.size w1 w'/\e=.returned (.agg #[.bool (zM2 neg (val l)),.slice b (zAb (val l)).length c])):=zz (by
  by_cases hx:val l=0
  ·rw[hx,show zCO neg 0=0 from rfl,show zM2 neg 0=false by unfold zM2;simp];exact zFx w1 0 (by omega) b _ c
  ·have hp:=zAk hx
   cases neg with
   | false=>
    rw[show zCO false (val l)=1 by unfold zCO;rw[if_neg hx];rfl,show zM2 false (val l)=false from rfl]
    exact zFx w1 1 (by omega) b _ c
   | true=>
    rw[show zCO true (val l)=-1 by unfold zCO;rw[if_neg hx];rfl,show zM2 true (val l)=true by unfold zM2;rw[decide_eq_true (by omega)];rfl];exact zLJ w1 b _ c hp)
 clear hb1 h1;generalize zCO neg (val l)=sg at HM ⊢;obtain⟨nb,hnb⟩:∃ nb,nb=zM2 neg (val l):=⟨_,rfl⟩;rw[<-hnb] at HM;have HNB:=zz hnb;clear hnb;go_wp2_with fail
 refine HM.out.mono ?_;rintro e w2 ⟨hb2,rfl⟩;have hr2:=(HRES.out.below HB1.out (by rw[HWS.out];simp)).below hb2 (by have:=HB1.out.size;rw[HWS.out] at this;simp;omega);rw[show (w.alloc (Obj.cells #[Value.bool neg,v] 28)).heap.size=w.heap.size+1 by simp] at hr2;have c0:=hr2.cell 0;have c1:=hr2.cell 1;have f0:=hr2.free 0;have f1:=hr2.free 1;simp only[zv,zk,zx] at c0 c1;have hb3:Below w.heap.size w w2:=(HB.out.trans (HB1.out.mono HB.out.size)).trans (hb2.mono (zJ HB.out.size HB1.out.size));have hlim:=HL.out.below hb2;have HB3:=zz hb3;have HLIM:=zz hlim;have HR2:=zz hr2;clear hr2 hb2 hb3 hlim HRES HM HC HL;generalize (zAb (val l)).length=n at HLIM HN1 ⊢;go_wp2;refine bodyPost_ret (v:=.agg #[.bool nb,.slice b n c]) (by simp[results,Tryz.results108,go_sem,c0,c1]) rfl ⟨?_,_,by rw[<-HNB.out],?_,HN1.out⟩
 ·exact (HB3.out.setCell (by simp) _).setCell (by simp) _
 ·have hs1:=HR2.out.set 0 (.bool nb)
  exact (HLIM.out.set HR2.out (zD8 _ _ (by simp) (by simp)) 0 _).set hs1 (by
   simp only[zy,zq];exact zD8 _ _ (by simp) (by simp)) 1 _
theorem zLU(w:World)(p q:Bool)(v u:Value)(a b:List Nat)(h:zAf w v a)(k:zAf w u b)(hl:a.length<=8589934592)(kl:b.length<=8589934592):
  Calls Tryz.prog 22 #[.agg #[.bool p,v],.agg #[.bool q,u]] w fun e w'=>Below w.heap.size w w'/\e=.returned (.int .i64 (zJy p (val a) q (val b))):=by
 obtain⟨w0,hw0⟩:∃ w0,w0=(w.alloc (.cells #[.bool p,v] 28)).alloc (.cells #[.bool q,u] 28):=⟨_,rfl⟩;have hb0:Below w.heap.size w w0:=by rw[hw0];exact ((zK _ _).alloc (zQ _) _).alloc (by simp) _
 have HB0:=zz hb0;have HW0:=zz hw0;have HA2:=zz (show Blk w0 (w.heap.size+1) #[.bool q,u] 28 by rw[hw0,show w.heap.size+1=(w.alloc (.cells #[.bool p,v] 28)).heap.size by simp];exact Blk.new _ _ _);have HS:=zz (zCR w0 p v a (h.below hb0) (by omega));have HK:=zz (k.below hb0);have hla:(zAb (val a)).length<=8589934592:=by rw[<-zAv h.fit,zAG];have:=zBT a;omega
 have hlb:(zAb (val b)).length<=8589934592:=by rw[<-zAv k.fit,zAG];have:=zBT b;omega
 have HLA:=zz hla;have HLB:=zz hlb;have hkl:b.length<=34359738368:=by omega
 have HKL:=zz hkl;clear h k hl kl hla hlb hkl hb0 hw0;go_enter Tryz.func22,Tryz.ntmps22
 go_wp2_with fail
 rw[<-HW0.out];refine HS.out.mono ?_;rintro e w1 ⟨hb1,v1,rfl,h1,_⟩;have HS2:=zz (zCR w1 q u b (HK.out.below hb1) HKL.out);have HB1:=zz (HB0.out.trans (hb1.mono HB0.out.size));have H1:=zz h1;have hA2:=HA2.out.below hb1 HA2.out.lt;have c0:=hA2.cell 0;have c1:=hA2.cell 1;simp only[zv,zk,zx] at c0 c1;clear hb1 h1 HS HK HA2 hA2;go_wp2_with fail
 clear c0 c1;refine HS2.out.mono ?_;rintro e w2 ⟨hb2,v2,rfl,h2,_⟩;have HB2:=zz (HB1.out.trans (hb2.mono HB1.out.size));have HCM:=zz (zC7 w2 v1 v2 _ _ (H1.out.below hb2) h2 (zJ HLA.out (by omega)) (zJ HLB.out (by omega)));rw[zAe,zAe] at HCM;have hI:zJy p (val a) q (val b)=if zCO p (val a)<zCO q (val b) then -1 else if zCO q (val b)<zCO p (val a) then 1 else zCO p (val a)*zBo (val a) (val b):=rfl
 obtain⟨Z,hZ⟩:∃ Z,Z=zJy p (val a) q (val b):=⟨_,rfl⟩;rw[<-hZ] at hI;have HZ:=zz hZ;have HI:=zz hI;have s1:=zKu p (val a);have s2:=zKu q (val b)
 have hc:-1<=zBo (val a) (val b)/\zBo (val a) (val b)<=1:=by
  unfold zBo
  split
  ·omega
  ·split <;> omega
 clear hb2 h2 HS2 hI HB1 H1 HLA HLB HKL hZ;generalize zCO p (val a)=s at *;generalize zCO q (val b)=t at *;generalize zBo (val a) (val b)=cc at *;by_cases k1:s<t
 ·have HJ:Hid (Z=-1):=zz (by rw[HI.out,if_pos k1]);clear HI;go_wp2;go_ret;exact⟨HB2.out,by rw[<-HZ.out,HJ.out];rfl⟩
 ·by_cases k2:t<s
  ·have HJ:Hid (Z=1):=zz (by rw[HI.out,if_neg k1,if_pos k2]);clear HI;go_wp2;go_ret;exact⟨HB2.out,by rw[<-HZ.out,HJ.out];rfl⟩
  ·have HJ:Hid (Z=s*cc):=zz (by rw[HI.out,if_neg k1,if_neg k2]);clear HI;obtain rfl:s=t:=by omega
   have hw1:IntKind.i64.wrap s=s:=zY _ (by omega)
   have hm:s*cc=0 \/ s*cc=cc \/ s*cc=-cc:=by
    have:s=-1 \/ s=0 \/ s=1:=by omega
    rcases this with rfl|rfl|rfl
    ·right;right;omega
    ·left;omega
    ·right;left;omega
   have hw2:IntKind.i64.wrap (s*cc)=s*cc:=zY _ (by rcases hm with h|h|h <;> rw[h] <;> omega);clear hm s1 s2 hc;go_wp2_with fail
   refine HCM.out.mono ?_;rintro e w3 ⟨rfl,hb3⟩;have HB3:=zz (HB2.out.trans (hb3.mono HB2.out.size));clear hb3;go_wp2;go_ret;exact⟨HB3.out,by rw[<-HZ.out,HJ.out];rfl⟩
theorem zKc{b:Nat}(hb:b<18446744073709551616):bits .and .u64 (b:Int) zDe=((if 9223372036854775808<=b then 9223372036854775808 else 0:Nat):Int):=by
 have h:=zDE b 9223372036854775808 hb (by decide);unfold zDe;refine h.trans ?_;congr 1;apply Nat.eq_of_testBit_eq;intro i;have e:(9223372036854775808:Nat).testBit i=decide (63=i):=Nat.testBit_two_pow (n:=63) (m:=i);rw[Nat.testBit_and,e];by_cases hi:63=i
 ·subst hi
  have h2:b.testBit 63=decide (9223372036854775808<=b):=by
   rw[Nat.testBit_eq_decide_div_mod_eq];exact decide_eq_decide.2 (by omega)
  rw[h2];by_cases h3:9223372036854775808<=b
  ·rw[if_pos h3,e];simp[h3]
  ·rw[if_neg h3];simp[h3]
 ·split
  ·rw[e];simp[hi]
  ·simp[hi]
theorem zE1{b:Nat}(hb:b<18446744073709551616):bits .andNot .u64 (b:Int) zDe=((b % 9223372036854775808:Nat):Int):=by
 have h:bits .andNot .u64 (b:Int) zDe=IntKind.u64.wrap (((BitVec.ofInt 64 (b:Int)) &&& ~~~(BitVec.ofInt 64 zDe):BitVec 64).toNat:Int):=by rfl
 have h2:(~~~(BitVec.ofInt 64 zDe):BitVec 64)=BitVec.ofNat 64 9223372036854775807:=by decide
 rw[h,zNX,h2,BitVec.toNat_and,BitVec.toNat_ofNat,BitVec.toNat_ofNat,Nat.mod_eq_of_lt hb,Nat.mod_eq_of_lt (by decide),show (9223372036854775807:Nat)=2 ^ 63 - 1 by decide,Nat.and_two_pow_sub_one_eq_mod,IntKind.wrap_u64];omega
theorem zHw{b:Nat}(hb:b<18446744073709551616):bits .and .u64 (b:Int) 4503599627370495=((b % 4503599627370496:Nat):Int):=by
 have h:=zDE b 4503599627370495 hb (by decide);refine h.trans ?_;rw[show (4503599627370495:Nat)=2 ^ 52 - 1 by decide,Nat.and_two_pow_sub_one_eq_mod]
theorem zKt{b:Nat}(hb:b<4503599627370496):bits .or .u64 (b:Int) 4503599627370496=((4503599627370496+b:Nat):Int):=by
 have h:=zEW b 1 52 hb (by omega);have e:((1*2 ^ 52:Nat):Int)=4503599627370496:=by decide
 rw[e] at h;rw[h];congr 1;omega
theorem zCz(w:World)(hG:zAK w)(b:Nat)(hb:b<18446744073709551616):
  Calls Tryz.prog 53 #[.int .u64 (b:Int)] w fun e w'=>e=.returned (.tuple #[.bool (decide (9223372036854775808<=b)),.int .u64 ((b % 9223372036854775808:Nat):Int)])/\Below w.heap.size w w':=by
 have h1:=zKc hb;have h2:=zE1 hb;generalize ((b % 9223372036854775808:Nat):Int)=s at h2 ⊢;by_cases h3:9223372036854775808<=b
 ·rw[if_pos h3] at h1;have h1':bits .and .u64 (b:Int) zDe=9223372036854775808:=h1;rw[decide_eq_true h3];clear h1 h3 hb;generalize (b:Int)=B at *;go_enter Tryz.func53,Tryz.ntmps53
  go_wp2_with fail
  refine (zCy w hG).mono ?_;rintro e w1 ⟨rfl,hb1⟩;go_wp2_with fail
  refine (zD6 w1).mono ?_;rintro e w2 ⟨rfl,hb2⟩;have HB:=zz (hb1.trans (hb2.mono hb1.size));clear hb1 hb2;go_wp2;refine bodyPost_ret (v:=.tuple #[.bool true,.int .u64 s]) (by simp[results,Tryz.results53,go_sem]) rfl ⟨rfl,HB.out⟩
 ·rw[if_neg h3] at h1;have h1':bits .and .u64 (b:Int) zDe=0:=h1;rw[decide_eq_false h3];clear h1 h3 hb;generalize (b:Int)=B at *;go_enter Tryz.func53,Tryz.ntmps53
  go_wp2_with fail
  refine (zCy w hG).mono ?_;rintro e w1 ⟨rfl,hb1⟩;go_wp2_with fail
  refine (zD6 w1).mono ?_;rintro e w2 ⟨rfl,hb2⟩;have HB:=zz (hb1.trans (hb2.mono hb1.size));clear hb1 hb2;go_wp2;refine bodyPost_ret (v:=.tuple #[.bool false,.int .u64 s]) (by simp[results,Tryz.results53,go_sem]) rfl ⟨rfl,HB.out⟩
def zCV(s:Nat):Int:=if 9218868437227405312<s then 5 else if s=9218868437227405312 then 4 else if s=0 then 1 else if s<4503599627370496 then 2 else 3
theorem zEC(w:World)(hG:zAK w)(b:Nat)(hb:b<18446744073709551616):
  Calls Tryz.prog 82 #[.int .u64 (b:Int)] w fun e w'=>e=.returned (.int .i8 (zCV (b % 9223372036854775808)))/\Below w.heap.size w w':=by
 have HS:=zz (fun w hG=>zCz w hG b hb);obtain⟨s,hs⟩:∃ s,s=b % 9223372036854775808:=⟨_,rfl⟩;have hsl:s<9223372036854775808:=by omega
 rw[<-hs] at HS ⊢;clear hs hb;have HG:=zz hG;clear hG;generalize decide (9223372036854775808<=b)=sg at HS;go_enter Tryz.func82,Tryz.ntmps82
 go_wp2_with fail
 refine (zCy w HG.out).mono ?_;rintro e w1 ⟨rfl,hb1⟩;have hG1:=HG.out.below hb1 HG.out.size;go_upto_region 2 with fail
 have hbx:Below w1.heap.size w1 (w1.alloc (.cells #[.int .i64 52,.int .i64 (-1074),.int .i64 11] 144)):=(zK _ _).alloc (zQ _) _;have hB:=Blk.new w1 #[.int .i64 52,.int .i64 (-1074),.int .i64 11] 144;have hG2:=hG1.below hbx hG1.size;have hbb:=hb1.trans (hbx.mono hb1.size);obtain⟨X,hX⟩:∃ X,X=w1.heap.size:=⟨_,rfl⟩;rw[<-hX] at hB ⊢;clear hb1 hG1 hbx hX;generalize w1.alloc (.cells #[.int .i64 52,.int .i64 (-1074),.int .i64 11] 144)=w2 at hB hG2 hbb ⊢;go_wp2_with fail
 refine (HS.out w2 hG2).mono ?_;rintro e w3 ⟨rfl,hb3⟩;have hB3:=hB.below hb3 hB.lt;have hbb3:=hbb.trans (hb3.mono hbb.size);have d0:=hB3.cell 0;have d1:=hB3.cell 1;have d2:=hB3.cell 2;simp only[zv,zk,zx] at d0 d1 d2;clear hb3 hB hbb hG2 HS;have HI:Hid (∀ w,Calls Tryz.prog 133 #[.agg #[.int .i64 52,.int .i64 (-1074),.int .i64 11]] w fun e w'=>e=.returned (.int .u64 9218868437227405312)/\Below w.heap.size w w'):=zz (fun w=>zDH w);by_cases k1:9218868437227405312<s
 ·have hlt:(9218868437227405312:Int)<(s:Int):=by omega
  have HC:Hid (zCV s=5):=zz (by unfold zCV;rw[if_pos k1]);clear k1 hsl;generalize (s:Int)=Z at *;go_wp2_with fail
  refine (HI.out w3).mono ?_;rintro e w4 ⟨rfl,hb4⟩;have HB:=zz (hbb3.trans (hb4.mono hbb3.size));clear d0 d1 d2 hb4 hbb3 hB3;go_wp2;go_ret;exact⟨by rw[HC.out];rfl,HB.out⟩
 ·have hlt:¬ (9218868437227405312:Int)<(s:Int):=by omega
  have hlt2:((s:Int) == 9218868437227405312)=decide (s=9218868437227405312):=by
   by_cases h:s=9218868437227405312
   ·rw[h];rfl
   ·rw[decide_eq_false h];exact beq_eq_false_iff_ne.2 (by omega)
  have hz:((s:Int) == 0)=decide (s=0):=by
   by_cases h:s=0
   ·rw[h];rfl
   ·rw[decide_eq_false h];exact beq_eq_false_iff_ne.2 (by omega)
  have hsh:((s:Int) / 4503599627370496 == 0)=decide (s<4503599627370496):=by
   by_cases h:s<4503599627370496
   ·rw[decide_eq_true h];exact beq_iff_eq.2 (by omega)
   ·rw[decide_eq_false h];exact beq_eq_false_iff_ne.2 (by omega)
  have HC:Hid (zCV s=if s=9218868437227405312 then 4 else if s=0 then 1 else if s<4503599627370496 then 2 else 3):=zz (by unfold zCV;rw[if_neg k1]);clear k1;have HZ:=zz hz;have HSH:=zz hsh;clear hz hsh hsl;go_wp2_with fail
  refine (HI.out w3).mono ?_;rintro e w4 ⟨rfl,hb4⟩;have hB4:=hB3.below hb4 hB3.lt;have hbb4:=hbb3.trans (hb4.mono hbb3.size);clear d0 d1 d2 hb4 hbb3 hB3;have d0:=hB4.cell 0;have d1:=hB4.cell 1;have d2:=hB4.cell 2;simp only[zv,zk,zx] at d0 d1 d2;by_cases k2:s=9218868437227405312
  ·rw[decide_eq_true k2] at hlt2;have HC5:Hid (zCV s=4):=zz (by rw[HC.out,if_pos k2]);clear HZ HSH HC k2;generalize (s:Int)=Z at *;go_wp2_with fail
   refine (HI.out w4).mono ?_;rintro e w5 ⟨rfl,hb5⟩;have HB:=zz (hbb4.trans (hb5.mono hbb4.size));clear d0 d1 d2 hb5 hbb4 hB4;go_wp2;go_ret;exact⟨by rw[HC5.out];rfl,HB.out⟩
  ·rw[decide_eq_false k2] at hlt2;have HC5:Hid (zCV s=if s=0 then 1 else if s<4503599627370496 then 2 else 3):=zz (by rw[HC.out,if_neg k2]);clear HC k2;go_wp2_with fail
   refine (HI.out w4).mono ?_;rintro e w5 ⟨rfl,hb5⟩;have hB5:=hB4.below hb5 hB4.lt;have HB:=zz (hbb4.trans (hb5.mono hbb4.size));clear d0 d1 d2 hb5 hbb4 hB4;have d0:=hB5.cell 0;simp only[zv,zk,zx] at d0;clear hB5;have hz:=HZ.out;have hsh:=HSH.out;clear HZ HSH;by_cases k3:s=0
   ·rw[decide_eq_true k3] at hz;have HC6:Hid (zCV s=1):=zz (by rw[HC5.out,if_pos k3]);clear k3 hsh HC5;generalize (s:Int)=Z at *;go_wp2;go_ret;exact⟨by rw[HC6.out];rfl,HB.out⟩
   ·rw[decide_eq_false k3] at hz;have HC6:Hid (zCV s=if s<4503599627370496 then 2 else 3):=zz (by rw[HC5.out,if_neg k3]);clear k3 HC5;by_cases k4:s<4503599627370496
    ·rw[decide_eq_true k4] at hsh;have HC7:Hid (zCV s=2):=zz (by rw[HC6.out,if_pos k4]);clear k4 HC6;generalize (s:Int)=Z at *;go_wp2;go_ret;exact⟨by rw[HC7.out];rfl,HB.out⟩
    ·rw[decide_eq_false k4] at hsh;have HC7:Hid (zCV s=3):=zz (by rw[HC6.out,if_neg k4]);clear k4 HC6;generalize (s:Int)=Z at *;go_wp2;go_ret;exact⟨by rw[HC7.out];rfl,HB.out⟩
end Go.Proofs.YtcanfakaigpkgaaGreatDoor.D
