/-
  Of the proof that the law DiagUnlike answers true at every two values: a part, without conditions of its own.
-/
import Derived.Test.YtcanfakaigpkgaaGreatDoorPart06
import Derived.Test.YtcanfakaigpkgaaGreatDoorPart03
import Derived.Test.YtcanfakaigpkgaaGreatDoorPart05
set_option linter.unusedVariables false
set_option linter.unusedSimpArgs false
set_option maxRecDepth 100000
set_option maxHeartbeats 8000000
namespace Go.Proofs.YtcanfakaigpkgaaGreatDoor.D
open Go Go.RowKit Limb
theorem zP3(most:Int):BTy 51 [.int .i64 most]:=⟨by decide,by kernel_rfl⟩
def Wr(B p:Nat)(most:Int)(L:List UInt8)(w:World):Prop:=BIs 51 [.int .i64 most] B p L w
theorem Wr.at2{B p:Nat}{most:Int}{L:List UInt8}{w:World}(h:Wr B p most L w):w.cell? ⟨p,2,none⟩=some (.int .i64 most):=by
 obtain⟨q,hB,v,hbk,hown,hne⟩:=h.at_;rw[Lib.cell_of_heap hbk];rfl
theorem Wr.drewN{B p:Nat}{most:Int}{L:List UInt8}{w:World}(h:Wr B p most L w)(n:Nat):Wr B p most L (w.drewN n):=BIs.below h (zAd (zK _ _) n)
def zCZ(ss:Nat->List UInt8):Nat->List UInt8
 | 0=>[]
 | k+1=>zCZ ss k ++ ss k
theorem zHf(ss:Nat->List UInt8):∀ (n k:Nat),k<=n->(zCZ ss k).length<=(zCZ ss n).length
 | 0,k,h=>by
  obtain rfl:k=0:=by omega
  exact zQ _
 | n+1,k,h=>by
  rcases Nat.lt_or_ge k (n+1) with h1|h1
  ·have:=zHf ss n k (by omega);rw[zCZ,List.length_append];omega
  ·obtain rfl:k=n+1:=by omega
   exact zQ _
theorem zJB(B p:Nat)(most:Int)(L:List UInt8)(w:World)(h:Wr B p most L w)(k n cap:Nat)(ss:Nat->List UInt8)(c:Array Value)(fr:Nat × Nat)(hk:w.heap[k]?=some (.cells c 9 fr))(hkp:k≠p)(hc:∀ i,i<n->c[i]?=some (.string (zAc (ss i))))(hn:n<=1000)(hm:(((L ++ zCZ ss n).length:Nat):Int)<=most)(hlen:(L ++ zCZ ss n).length<=140737488355328)(hB:B<=w.heap.size):
  Calls Tryz.prog 39 #[.pointer (some ⟨p,0,none⟩),.slice (some ⟨k,0,none⟩) n cap] w fun e w'=>e=.returned (.tuple #[])/\Wr B p most (L ++ zCZ ss n) w'/\Wk B p w w':=by
 have HW:=zz h;have HC:=zz hc;have HK:=zz hk;have HM:=zz hm;have HL:=zz hlen;clear h hc hk hm hlen;go_enter Tryz.func39,Tryz.ntmps39
 go_wp2;go_loopw [5,8] (fun _ i wr=>∃ j:Nat,j<=n/\i=.int .i64 j/\Hid (Wr B p most (L ++ zCZ ss j) wr)/\Hid (Wk B p w wr)) (fun _ i _=>n - (intOf i).toNat)
 case atStart=>exact⟨0,by omega,rfl,by rw[zCZ,List.append_nil];exact HW,zz (Wk.refl _ _ _)⟩
 case round=>
  obtain⟨j,hj,rfl,HWr,HF⟩:=hrel;clear HW;by_cases h1:j<n
  ·have g1:(j:Int)<(n:Int):=by omega
   have hcell:wr.cell? ⟨k,j,none⟩=some (.string (zAc (ss j))):=by
    have e:=HF.out.2.2 k (Array.getElem?_eq_some_iff.1 HK.out).1 hkp (fun c' fr' he=>by rw[HK.out] at he;simp at he);rw[HK.out] at e;rw[Lib.cell_of_heap e];exact HC.out j h1
   have hlj:=zHf ss n j hj;have hlj1:=zHf ss n (j+1) (by omega);have hsum:(L ++ zCZ ss (j+1)).length=(L ++ zCZ ss j).length+(ss j).length:=by rw[zCZ,<-List.append_assoc,List.length_append (bs:=ss j)]
   have HLl:=zz (zDf (T:=51) (r:=[.int .i64 most]) B p (L ++ zCZ ss j) (wr.drew) (BIs.below HWr.out (zAd (zK _ _) 1)));have c2:=HWr.out.at2
   have g2:(((L ++ zCZ ss j).length:Nat):Int)<=most:=by
    have:=HM.out;rw[List.length_append] at this ⊢;omega
   have h47:(L ++ zCZ ss j).length+(ss j).length<=140737488355328:=by
    have:=HL.out;rw[<-hsum];rw[List.length_append] at this ⊢;omega
   have HQ:Hid (∀ w',Wr B p most (L ++ zCZ ss j) w'->Calls Tryz.prog 14 #[.pointer (some ⟨p,0,none⟩)] w' fun e w''=>e=.returned (.int .i64 (L ++ zCZ ss j).length)/\w''=w'):=zz (fun w' h=>zDf B p _ w' h);have HE:Hid (L ++ zCZ ss (j+1)=(L ++ zCZ ss j) ++ ss j):=zz (by rw[zCZ,List.append_assoc]);clear HLl hlj hlj1 hsum;generalize hT:L ++ zCZ ss j=T at HWr g2 h47 HQ HE;clear hT;go_upto_region 3 with fail
   go_quiet ((go_at_call 14;exact Calls.quiet_of_same (HQ.out _ (HWr.out.drewN _))))
   have HWq:=zz (HWr.out.drewN nq);have HFq:=zz (HF.out.drewN nq);clear HWr HF c2 hcell;generalize wr.drewN nq=w1 at HWq HFq ⊢;go_wp2_with fail
   refine (zAY (zP3 most) B p T (ss j) w1 HWq.out h47 (by have:=HFq.out.1.size;omega)).mono ?_;rintro e w2 ⟨rfl,hb2,hk2⟩;have HW2:Hid (Wr B p most (L ++ zCZ ss (j+1)) w2):=zz (by rw[HE.out];exact .inr hb2);have HF2:=zz (HFq.out.trans hk2);clear hb2 hk2 HWq HFq;go_wp2;go_roundw
   case rel=>exact⟨j+1,by omega,by simp,HW2,HF2⟩
   case measure=>simp[intOf];omega
  ·obtain rfl:j=n:=by omega
   have g1:¬ (j:Int)<(j:Int):=by omega
   go_wp2;go_end0
   exact⟨rfl,HWr.out,HF.out⟩
end Go.Proofs.YtcanfakaigpkgaaGreatDoor.D
namespace Go.Proofs.YtcanfakaigpkgaaGreatDoor.D
open Go Limb
theorem zE6{x y:Nat}(hx:x<=9)(hy:y<=9)(h:dig x=dig y):x=y:=by
 unfold dig at h;have:=congrArg UInt8.toNat h;simp only[UInt8.toNat_ofNat'] at this;omega
theorem zA4{x:Nat}(hx:x<=9):(dig x).toNat=48+x:=by
 unfold dig;simp only[UInt8.toNat_ofNat'];omega
theorem zDJ:∀ {a b:List Nat},(∀ x ∈ a,x<=9)->(∀ x ∈ b,x<=9)->a.map dig=b.map dig->a=b
 | [],[],_,_,_=>rfl
 | [],_ :: _,_,_,h=>by simp at h
 | _ :: _,[],_,_,h=>by simp at h
 | x :: a,y :: b,ha,hb,h=>by
  simp only[List.map_cons,List.cons.injEq] at h;rw[zE6 (ha x (List.mem_cons_self ..)) (hb y (List.mem_cons_self ..)) h.1,zDJ (fun z hz=>ha z (List.mem_cons_of_mem _ hz)) (fun z hz=>hb z (List.mem_cons_of_mem _ hz)) h.2]
def zGr(x:Nat):List Nat:=if x<10 then [x] else zGr (x / 10) ++ [x % 10]
 termination_by x
theorem zC5(x:Nat):∀ y ∈ zGr x,y<=9:=by
 induction x using Nat.strongRecOn with
 | ind x ih=>
  intro y hy;rw[zGr] at hy
  split at hy
  ·rw[List.mem_singleton.1 hy];omega
  ·rcases List.mem_append.1 hy with h|h
   ·exact ih (x / 10) (by omega) y h
   ·rw[List.mem_singleton.1 h];omega
theorem zGo(a b:List Nat):zBW (a ++ b)=zBW a*10 ^ b.length+zBW b:=by
 induction a with
 | nil=>simp[zBW]
 | cons x a ih=>simp only[List.cons_append,zBW,ih,List.length_append,Nat.pow_add,Nat.add_mul,Nat.mul_assoc];omega
theorem zEY(x:Nat):zBW (zGr x)=x:=by
 induction x using Nat.strongRecOn with
 | ind x ih=>
  rw[zGr]
  split
  ·simp[zBW]
  ·rw[zGo,ih (x / 10) (by omega)];simp[zBW];omega
theorem zOu{x y:Nat}(h:zGr x=zGr y):x=y:=by rw[<-zEY x,h,zEY]
def zAZ(x:Nat):List UInt8:=(zGr x).map dig
theorem zDC{x y:Nat}(h:zAZ x=zAZ y):x=y:=zOu (zDJ (zC5 x) (zC5 y) h)
theorem zKI(x:Nat):zGr x≠[]:=by rw[zGr];split <;> simp
def zDQ(ds:List Nat)(n:Int):List UInt8:=
 if n<=21/\(ds.length:Int)<=n then ds.map dig ++ List.replicate (n - ds.length).toNat 48
 else if n<=21/\0<n then (ds.take n.toNat).map dig ++ [46] ++ (ds.drop n.toNat).map dig
 else if n<=0/\-6<n then [48,46] ++ List.replicate (-n).toNat 48 ++ ds.map dig
 else (ds.take 1).map dig ++ (if 1<ds.length then [46] ++ (ds.drop 1).map dig else []) ++ [101] ++ (if 0<n then [43] ++ zAZ (n - 1).toNat else [45] ++ zAZ (1 - n).toNat)
theorem zFg{c:UInt8}:∀ {a b x y:List UInt8},c ∉ a->c ∉ b->a ++ [c] ++ x=b ++ [c] ++ y->a=b/\x=y
 | [],[],x,y,_,_,h=>by simpa using h
 | [],q :: b,x,y,_,hb,h=>by
  simp only[List.nil_append,List.cons_append,List.cons.injEq] at h
  exact absurd (by rw[h.1];exact List.mem_cons_self ..) hb
 | p :: a,[],x,y,ha,_,h=>by
  simp only[List.nil_append,List.cons_append,List.cons.injEq] at h
  exact absurd (by rw[<-h.1];exact List.mem_cons_self ..) ha
 | p :: a,q :: b,x,y,ha,hb,h=>by
  simp only[List.cons_append,List.cons.injEq] at h;have:=zFg (fun hm=>ha (List.mem_cons_of_mem _ hm)) (fun hm=>hb (List.mem_cons_of_mem _ hm)) h.2;exact⟨by rw[h.1,this.1],this.2⟩
theorem zFT{x:Nat}{c:UInt8}(hx:x<=9)(hc:c.toNat<48 \/ 57<c.toNat):dig x≠c:=by
 intro h;have:=zA4 hx;rw[h] at this;omega
theorem zA9{l:List Nat}{c:UInt8}(hl:∀ x ∈ l,x<=9)(hc:c.toNat<48 \/ 57<c.toNat):c ∉ l.map dig:=by
 intro h;obtain⟨x,hx,e⟩:=List.mem_map.1 h;exact zFT (hl x hx) hc e
theorem zHK:∀ {i j:Nat} {a b:List Nat},(∀ x ∈ a,x<=9)->(∀ x ∈ b,x<=9)->a≠[]->b≠[]->a.head?≠some 0->b.head?≠some 0->List.replicate i (48:UInt8) ++ a.map dig=List.replicate j 48 ++ b.map dig->i=j/\a=b
 | 0,0,a,b,ha,hb,_,_,_,_,h=>⟨rfl,zDJ ha hb (by simpa using h)⟩
 | 0,j+1,[],b,ha,hb,h1,_,_,_,h=>absurd rfl h1
 | 0,j+1,x :: a,b,ha,hb,_,_,h2,_,h=>by
  exfalso
  simp only[List.replicate_zero,List.nil_append,List.map_cons,List.replicate_succ,List.cons_append,List.cons.injEq] at h;have:=zE6 (y:=0) (ha x (List.mem_cons_self ..)) (by omega) h.1;rw[this] at h2
  exact h2 rfl
 | i+1,0,a,[],ha,hb,_,h1,_,_,h=>absurd rfl h1
 | i+1,0,a,x :: b,ha,hb,_,_,_,h2,h=>by
  exfalso
  simp only[List.replicate_zero,List.nil_append,List.map_cons,List.replicate_succ,List.cons_append,List.cons.injEq] at h;have:=zE6 (y:=0) (hb x (List.mem_cons_self ..)) (by omega) h.1.symm;rw[this] at h2
  exact h2 rfl
 | i+1,j+1,a,b,ha,hb,h1,h2,h3,h4,h=>by
  simp only[List.replicate_succ,List.cons_append,List.cons.injEq,true_and] at h;have:=zHK ha hb h1 h2 h3 h4 h;exact⟨by omega,this.2⟩
structure zGq (ds:List Nat):Prop where
 le:∀ x ∈ ds,x<=9
 ne:ds≠[]
 head:ds.head?≠some 0
theorem zKi{ds:List Nat}{i:Nat}(h:zGq ds):(101:UInt8) ∉ (ds.take i).map dig ++ [46] ++ (ds.drop i).map dig:=by
 intro hm;rcases List.mem_append.1 hm with hm|hm
 ·rcases List.mem_append.1 hm with hm|hm
  ·exact zA9 (fun x hx=>h.le x (List.mem_of_mem_take hx)) (by decide) hm
  ·exact absurd (List.mem_singleton.1 hm) (by decide)
 ·exact zA9 (fun x hx=>h.le x (List.mem_of_mem_drop hx)) (by decide) hm
theorem zKj{ds:List Nat}{i:Nat}(h:zGq ds):(101:UInt8) ∉ [48,46] ++ List.replicate i 48 ++ ds.map dig:=by
 intro hm;rcases List.mem_append.1 hm with hm|hm
 ·rcases List.mem_append.1 hm with hm|hm
  ·revert hm;decide
  ·exact absurd (List.eq_of_mem_replicate hm) (by decide)
 ·exact zA9 h.le (by decide) hm
def zNg(ds:List Nat):List UInt8:=(ds.take 1).map dig ++ (if 1<ds.length then [46] ++ (ds.drop 1).map dig else [])
theorem zLc{ds:List Nat}(h:zGq ds):(101:UInt8) ∉ zNg ds:=by
 unfold zNg;intro hm;rcases List.mem_append.1 hm with hm|hm
 ·exact zA9 (fun x hx=>h.le x (List.mem_of_mem_take hx)) (by decide) hm
 ·split at hm
  ·rcases List.mem_append.1 hm with hm|hm
   ·exact absurd (List.mem_singleton.1 hm) (by decide)
   ·exact zA9 (fun x hx=>h.le x (List.mem_of_mem_drop hx)) (by decide) hm
  ·cases hm
theorem zNT{a b:List Nat}(ha:zGq a)(hb:zGq b)(h:zNg a=zNg b):a=b:=by
 unfold zNg at h
 match a,b,ha,hb,h with
 | [],_,ha,_,_=>exact absurd rfl ha.ne
 | _ :: _,[],_,hb,_=>exact absurd rfl hb.ne
 | [x],[y],ha,hb,h=>
  simp at h
  rw[zE6 (ha.le x (by simp)) (hb.le y (by simp)) h]
 | [x],y :: z :: l,_,_,h=>simp at h
 | x :: z :: l,[y],_,_,h=>simp at h
 | x :: z :: l,y :: u :: r,ha,hb,h=>
  simp only[List.take_succ_cons,List.take_zero,List.map_cons,List.map_nil,List.length_cons,List.drop_succ_cons,List.drop_zero,List.cons_append,List.nil_append,List.cons.injEq] at h;rw[if_pos (by omega),if_pos (by omega)] at h;simp only[List.cons_append,List.nil_append,List.cons.injEq,true_and] at h;have e1:=zE6 (ha.le x (by simp)) (hb.le y (by simp)) h.1;have e2:=zDJ (a:=z :: l) (b:=u :: r) (fun w hw=>ha.le w (List.mem_cons_of_mem _ hw)) (fun w hw=>hb.le w (List.mem_cons_of_mem _ hw)) (by simpa using h.2);rw[e1,e2]
def zOS(n:Int):List UInt8:=if 0<n then [43] ++ zAZ (n - 1).toNat else [45] ++ zAZ (1 - n).toNat
theorem zN4{n m:Int}(h:zOS n=zOS m):n=m:=by
 unfold zOS at h
 split at h <;> split at h <;> simp only[List.cons_append,List.nil_append,List.cons.injEq,true_and] at h
 ·have:=zDC h;omega
 ·exact absurd h.1 (by decide)
 ·exact absurd h.1 (by decide)
 ·have:=zDC h;omega
theorem zCd{ds:List Nat}{n:Int}(hn:n<ds.length):
  (0<n/\n<=21/\zDQ ds n=(ds.take n.toNat).map dig ++ [46] ++ (ds.drop n.toNat).map dig) \/
  (n<=0/\-6<n/\zDQ ds n=[48,46] ++ List.replicate (-n).toNat 48 ++ ds.map dig) \/
  ((21<n \/ n<=-6)/\zDQ ds n=zNg ds ++ [101] ++ zOS n):=by
 unfold zDQ;rw[if_neg (by omega)];by_cases h1:n<=21/\0<n
 ·rw[if_pos h1];exact .inl ⟨h1.2,h1.1,rfl⟩
 ·rw[if_neg h1];by_cases h2:n<=0/\-6<n
  ·rw[if_pos h2];exact .inr (.inl ⟨h2.1,h2.2,rfl⟩)
  ·rw[if_neg h2];exact .inr (.inr ⟨by omega,rfl⟩)
theorem zDB(a x:List UInt8)(c:UInt8):c ∈ a ++ [c] ++ x:=by simp
theorem zPc{a b:List Nat}{n:Int}{j:Nat}{y:List UInt8}(ha:zGq a)(h0:0<n)(h:(a.take n.toNat).map dig ++ [46] ++ (a.drop n.toNat).map dig=[48,46] ++ List.replicate j 48 ++ y):False:=by
 match a,ha with
 | [],ha=>exact ha.ne rfl
 | x :: l,ha=>
  obtain⟨k,hk⟩:∃ k,n.toNat=k+1:=⟨n.toNat - 1,by omega⟩;rw[hk] at h;simp only[List.take_succ_cons,List.map_cons,List.cons_append,List.cons.injEq] at h;have e:=zE6 (y:=0) (ha.le x (List.mem_cons_self ..)) (by omega) h.1;rw[e] at ha;exact ha.head rfl
theorem zP1{a b:List Nat}{n m:Int}(ha:zGq a)(hb:zGq b)(hn:n<a.length)(hm:m<b.length)(h:zDQ a n=zDQ b m):a=b/\n=m:=by
 rcases zCd hn with ⟨i1,i2,e1⟩|⟨i1,i2,e1⟩|⟨i1,e1⟩ <;> rcases zCd hm with ⟨j1,j2,e2⟩|⟨j1,j2,e2⟩|⟨j1,e2⟩ <;> rw[e1,e2] at h
 ·obtain⟨h1,h2⟩:=zFg (zA9 (fun x hx=>ha.le x (List.mem_of_mem_take hx)) (by decide)) (zA9 (fun x hx=>hb.le x (List.mem_of_mem_take hx)) (by decide)) h;have t1:=zDJ (fun x hx=>ha.le x (List.mem_of_mem_take hx)) (fun x hx=>hb.le x (List.mem_of_mem_take hx)) h1;have t2:=zDJ (fun x hx=>ha.le x (List.mem_of_mem_drop hx)) (fun x hx=>hb.le x (List.mem_of_mem_drop hx)) h2;refine⟨by rw[<-List.take_append_drop n.toNat a,t1,t2,List.take_append_drop],?_⟩;have:=congrArg List.length t1;simp only[List.length_take] at this;omega
 ·exact (zPc (b:=b) ha i1 h).elim
 ·exact absurd (by rw[h];exact zDB _ _ _) (zKi (i:=n.toNat) ha)
 ·exact (zPc (b:=a) hb j1 h.symm).elim
 ·simp only[List.append_assoc,List.cons_append,List.nil_append,List.cons.injEq,true_and] at h;obtain⟨h1,h2⟩:=zHK ha.le hb.le ha.ne hb.ne ha.head hb.head h;exact⟨h2,by omega⟩
 ·exact absurd (by rw[h];exact zDB _ _ _) (zKj (i:=(-n).toNat) ha)
 ·exact absurd (by rw[<-h];exact zDB _ _ _) (zKi (i:=m.toNat) hb)
 ·exact absurd (by rw[<-h];exact zDB _ _ _) (zKj (i:=(-m).toNat) hb)
 ·obtain⟨h1,h2⟩:=zFg (zLc ha) (zLc hb) h;exact⟨zNT ha hb h1,zN4 h2⟩
def zFK(c:UInt8):List UInt8:=
 if c=34 then [92,34] else if c=92 then [92,92] else if c=8 then [92,98] else if c=9 then [92,116] else if c=10 then [92,110] else if c=12 then [92,102] else if c=13 then [92,114]
 else if c.toNat<32 then [92,117,48,48,zCk (c.toNat / 16),zCk (c.toNat % 16)] else [c]
def zBC(s:List UInt8):List UInt8:=[34] ++ s.flatMap zFK ++ [34]
def zFR(c:UInt8):Nat:=if c.toNat<58 then c.toNat - 48 else c.toNat - 87
def zMD:List UInt8->Option (UInt8 × List UInt8)
 | []=>none
 | 92 :: 34 :: u=>some (34,u)
 | 92 :: 92 :: u=>some (92,u)
 | 92 :: 98 :: u=>some (8,u)
 | 92 :: 116 :: u=>some (9,u)
 | 92 :: 110 :: u=>some (10,u)
 | 92 :: 102 :: u=>some (12,u)
 | 92 :: 114 :: u=>some (13,u)
 | 92 :: 117 :: _ :: _ :: a :: b :: u=>some (UInt8.ofNat (zFR a*16+zFR b),u)
 | 34 :: _=>none
 | c :: u=>some (c,u)
theorem zDk:∀ x:Nat,x<16->zFR (zCk x)=x:=by decide
theorem zEe(c:UInt8)(u:List UInt8):zMD (zFK c ++ u)=some (c,u):=by
 unfold zFK;by_cases h1:c=34
 ·subst h1;rfl
 rw[if_neg h1];by_cases h2:c=92
 ·subst h2;rfl
 rw[if_neg h2];by_cases h3:c=8
 ·subst h3;rfl
 rw[if_neg h3];by_cases h4:c=9
 ·subst h4;rfl
 rw[if_neg h4];by_cases h5:c=10
 ·subst h5;rfl
 rw[if_neg h5];by_cases h6:c=12
 ·subst h6;rfl
 rw[if_neg h6];by_cases h7:c=13
 ·subst h7;rfl
 rw[if_neg h7];by_cases h8:c.toNat<32
 ·rw[if_pos h8];show some (UInt8.ofNat (zFR (zCk (c.toNat / 16))*16+zFR (zCk (c.toNat % 16))),u)=_;rw[zDk _ (by omega),zDk _ (by omega),show c.toNat / 16*16+c.toNat % 16=c.toNat by omega];simp
 ·rw[if_neg h8];simp only[List.cons_append,List.nil_append];unfold zMD
  split <;> simp_all
theorem zH8(c:UInt8)(u:List UInt8):(zFK c ++ u).head?≠some 34:=by
 have:=zEe c u;intro h
 cases hl:zFK c ++ u with
 | nil=>rw[hl] at h;cases h
 | cons x l=>
  rw[hl] at h this;simp only[List.head?_cons,Option.some.injEq] at h;subst h;have e:zMD (34 :: l)=none:=by unfold zMD;split <;> simp_all
  rw[e] at this;cases this
theorem zNt:∀ {a b x y:List UInt8},a.flatMap zFK ++ 34 :: x=b.flatMap zFK ++ 34 :: y->a=b/\x=y
 | [],[],x,y,h=>⟨rfl,by simpa using h⟩
 | [],q :: b,x,y,h=>by
  exfalso
  simp only[List.flatMap_nil,List.nil_append,List.flatMap_cons,List.append_assoc] at h;have:=zH8 q (b.flatMap zFK ++ 34 :: y);rw[<-h] at this
  exact this rfl
 | p :: a,[],x,y,h=>by
  exfalso
  simp only[List.flatMap_nil,List.nil_append,List.flatMap_cons,List.append_assoc] at h;have:=zH8 p (a.flatMap zFK ++ 34 :: x);rw[h] at this
  exact this rfl
 | p :: a,q :: b,x,y,h=>by
  simp only[List.flatMap_cons,List.append_assoc] at h;have h1:=zEe p (a.flatMap zFK ++ 34 :: x);rw[h,zEe,Option.some.injEq,Prod.mk.injEq] at h1;obtain⟨rfl,h2⟩:=h1;obtain⟨rfl,h3⟩:=zNt h2.symm;exact⟨rfl,h3⟩
theorem zMk{a b x y:List UInt8}(h:zBC a ++ x=zBC b ++ y):a=b/\x=y:=by
 unfold zBC at h;simp only[List.append_assoc,List.cons_append,List.nil_append,List.cons.injEq,true_and] at h;exact zNt h
theorem zJS{x:Nat}(h:x<16):zCk x≠39:=by
 revert x;decide
theorem zGt{x y:Nat}(hx:x<16)(hy:y<16)(h:zCk x=zCk y):x=y:=by rw[<-zDk x hx,h,zDk y hy]
theorem zKT:∀ {a b x y:List UInt8},zBJ a ++ 39 :: x=zBJ b ++ 39 :: y->a=b/\x=y
 | [],[],x,y,h=>⟨rfl,by simpa[zBJ] using h⟩
 | [],q :: b,x,y,h=>by
  simp only[zBJ,List.flatMap_nil,List.nil_append,List.flatMap_cons,List.cons_append,List.cons.injEq] at h
  exact absurd h.1.symm (zJS (by have:=q.toNat_lt;omega))
 | p :: a,[],x,y,h=>by
  simp only[zBJ,List.flatMap_nil,List.nil_append,List.flatMap_cons,List.cons_append,List.cons.injEq] at h
  exact absurd h.1 (zJS (by have:=p.toNat_lt;omega))
 | p :: a,q :: b,x,y,h=>by
  simp only[zBJ,List.flatMap_cons,List.cons_append,List.nil_append,List.cons.injEq] at h;obtain⟨h1,h2,h3⟩:=h;have e1:=zGt (by have:=p.toNat_lt;omega) (by have:=q.toNat_lt;omega) h1;have e2:=zGt (by omega) (by omega) h2;obtain⟨rfl,h4⟩:=zKT (a:=a) (b:=b) h3;refine⟨?_,h4⟩;congr 1;exact UInt8.toNat_inj.1 (by omega)
def zEA(c:UInt8):Bool:=(48<=c.toNat && c.toNat<=57) || c == 43 || c == 45 || c == 46 || c == 120 || (97<=c.toNat && c.toNat<=102)
theorem zDy:∀ {a b x y:List UInt8},(∀ c ∈ a,zEA c=true)->(∀ c ∈ b,zEA c=true)->(∀ c,x.head?=some c->zEA c=false)->(∀ c,y.head?=some c->zEA c=false)->a ++ x=b ++ y->a=b/\x=y
 | [],[],x,y,_,_,_,_,h=>⟨rfl,by simpa using h⟩
 | [],q :: b,x,y,_,hb,hx,_,h=>by
  exfalso
  have h1:=hb q (List.mem_cons_self ..);rw[hx q (by rw[show x=[] ++ x from rfl,h];rfl)] at h1
  cases h1
 | p :: a,[],x,y,ha,_,_,hy,h=>by
  exfalso
  have h1:=ha p (List.mem_cons_self ..);rw[hy p (by rw[show y=[] ++ y from rfl,<-h];rfl)] at h1
  cases h1
 | p :: a,q :: b,x,y,ha,hb,hx,hy,h=>by
  simp only[List.cons_append,List.cons.injEq] at h;obtain⟨h1,h2⟩:=zDy (fun c hc=>ha c (List.mem_cons_of_mem _ hc)) (fun c hc=>hb c (List.mem_cons_of_mem _ hc)) hx hy h.2;exact⟨by rw[h.1,h1],h2⟩
theorem zNS{x:Nat}(h:x<=9):zEA (dig x)=true:=by
 unfold zEA;have:=zA4 h;simp only[Bool.or_eq_true,Bool.and_eq_true,decide_eq_true_eq];exact .inl (.inl (.inl (.inl (.inl ⟨by omega,by omega⟩))))
theorem zCI{l:List Nat}(h:∀ x ∈ l,x<=9):∀ c ∈ l.map dig,zEA c=true:=by
 intro c hc;obtain⟨x,hx,rfl⟩:=List.mem_map.1 hc;exact zNS (h x hx)
def zMZ(x:Nat):List Nat:=if x<16 then [x] else zMZ (x / 16) ++ [x % 16]
 termination_by x
theorem zHm(x:Nat):∀ y ∈ zMZ x,y<16:=by
 induction x using Nat.strongRecOn with
 | ind x ih=>
  intro y hy;rw[zMZ] at hy
  split at hy
  ·rw[List.mem_singleton.1 hy];omega
  ·rcases List.mem_append.1 hy with h|h
   ·exact ih (x / 16) (by omega) y h
   ·rw[List.mem_singleton.1 h];omega
def zFE:List Nat->Nat
 | []=>0
 | d :: ds=>d*16 ^ ds.length+zFE ds
theorem zGg(a b:List Nat):zFE (a ++ b)=zFE a*16 ^ b.length+zFE b:=by
 induction a with
 | nil=>simp[zFE]
 | cons x a ih=>simp only[List.cons_append,zFE,ih,List.length_append,Nat.pow_add,Nat.add_mul,Nat.mul_assoc];omega
theorem zEM(x:Nat):zFE (zMZ x)=x:=by
 induction x using Nat.strongRecOn with
 | ind x ih=>
  rw[zMZ]
  split
  ·simp[zFE]
  ·rw[zGg,ih (x / 16) (by omega)];simp[zFE];omega
theorem zJF:∀ {a b:List Nat},(∀ x ∈ a,x<16)->(∀ x ∈ b,x<16)->a.map zCk=b.map zCk->a=b
 | [],[],_,_,_=>rfl
 | [],_ :: _,_,_,h=>by simp at h
 | _ :: _,[],_,_,h=>by simp at h
 | x :: a,y :: b,ha,hb,h=>by
  simp only[List.map_cons,List.cons.injEq] at h;rw[zGt (ha x (List.mem_cons_self ..)) (hb y (List.mem_cons_self ..)) h.1,zJF (fun z hz=>ha z (List.mem_cons_of_mem _ hz)) (fun z hz=>hb z (List.mem_cons_of_mem _ hz)) h.2]
def zGs(x:Nat):List UInt8:=(zMZ x).map zCk
theorem zNO{x y:Nat}(h:zGs x=zGs y):x=y:=by
 rw[<-zEM x,zJF (zHm x) (zHm y) h,zEM]
theorem zLQ:∀ x:Nat,x<16->zEA (zCk x)=true:=by decide
theorem zMX(x:Nat):∀ c ∈ zGs x,zEA c=true:=by
 intro c hc;obtain⟨y,hy,rfl⟩:=List.mem_map.1 hc;exact zLQ y (zHm x y hy)
def zBa(neg:Bool):List UInt8:=if neg then [45] else []
def zEH(neg:Bool)(x:Nat):List UInt8:=zBa neg ++ (if x<2 ^ 4096 then zAZ x else [48,120] ++ zGs x)
def zE4(b:Nat)(t:List UInt8):Prop:=
 ∃ (ds:List Nat) (p:Int) (s:Nat),t=zBa (decide (9223372036854775808<=b)) ++ zDQ ds p/\zGq ds/\p<ds.length/\0<s/\b=(if 9223372036854775808<=b then 9223372036854775808 else 0)+s /\
  InI 1075 s (zBW ds*10 ^ (p - ds.length).toNat) (10 ^ (ds.length - p).toNat)
def zEK(b:Nat)(t:List UInt8):Prop:=
 (b=9221120237041090560/\t=[78,97,78]) \/ (b=9218868437227405312/\t=[73,110,102,105,110,105,116,121]) \/ (b=18442240474082181120/\t=[45,73,110,102,105,110,105,116,121]) \/ zE4 b t
theorem zDm(x:Nat):∃ d r,zAZ x=dig d :: r/\d<=9:=by
 unfold zAZ
 cases h:zGr x with
 | nil=>exact absurd h (zKI x)
 | cons d r=>exact⟨d,r.map dig,rfl,zC5 x d (by rw[h];exact List.mem_cons_self ..)⟩
def zFO(t:List UInt8):Prop:=∃ d r,t=dig d :: r/\d<=9
theorem zHL{a b:Bool}{x y:List UInt8}(hx:zFO x)(hy:zFO y)(h:zBa a ++ x=zBa b ++ y):a=b/\x=y:=by
 obtain⟨d,r,rfl,hd⟩:=hx;obtain⟨e,q,rfl,he⟩:=hy;unfold zBa at h;cases a <;> cases b <;> simp only[if_true,if_false,Bool.false_eq_true,List.cons_append,List.nil_append,List.cons.injEq] at h
 ·exact⟨rfl,by rw[h.1,h.2]⟩
 ·exact absurd h.1 (zFT hd (by decide))
 ·exact absurd h.1.symm (zFT he (by decide))
 ·exact⟨rfl,by rw[h.2.1,h.2.2]⟩
theorem zEr(x:Nat):zFO (if x<2 ^ 4096 then zAZ x else [48,120] ++ zGs x):=by
 split
 ·exact zDm x
 ·exact⟨0,120 :: zGs x,rfl,by omega⟩
theorem zGe{ds:List Nat}{p:Int}(h:zGq ds)(hp:p<ds.length):zFO (zDQ ds p):=by
 match ds,h with
 | [],h=>exact absurd rfl h.ne
 | d :: l,h=>
  have hd:=h.le d (List.mem_cons_self ..);rcases zCd hp with ⟨i1,i2,e⟩|⟨i1,i2,e⟩|⟨i1,e⟩ <;> rw[e]
  ·obtain⟨k,hk⟩:∃ k,p.toNat=k+1:=⟨p.toNat - 1,by omega⟩;rw[hk];exact⟨d,_,rfl,hd⟩
  ·exact⟨0,_,rfl,by omega⟩
  ·exact⟨d,_,rfl,hd⟩
theorem zDj(x:Nat):(120:UInt8) ∉ zAZ x:=zA9 (zC5 x) (by decide)
theorem zMh(x:Nat):(46:UInt8) ∉ zAZ x:=zA9 (zC5 x) (by decide)
theorem zJ3(x:Nat):(101:UInt8) ∉ zAZ x:=zA9 (zC5 x) (by decide)
theorem zKQ{ds:List Nat}{p:Int}(hp:p<ds.length):(46:UInt8) ∈ zDQ ds p \/ (101:UInt8) ∈ zDQ ds p:=by
 rcases zCd hp with ⟨i1,i2,e⟩|⟨i1,i2,e⟩|⟨i1,e⟩ <;> rw[e]
 ·exact .inl (zDB _ _ _)
 ·exact .inl (by simp)
 ·exact .inr (zDB _ _ _)
theorem zKN{ds:List Nat}{p:Int}(h:zGq ds)(hp:p<ds.length):(120:UInt8) ∉ zDQ ds p:=by
 intro hm;rcases zCd hp with ⟨i1,i2,e⟩|⟨i1,i2,e⟩|⟨i1,e⟩ <;> rw[e] at hm
 ·rcases List.mem_append.1 hm with hm|hm
  ·rcases List.mem_append.1 hm with hm|hm
   ·exact zA9 (fun x hx=>h.le x (List.mem_of_mem_take hx)) (by decide) hm
   ·exact absurd (List.mem_singleton.1 hm) (by decide)
  ·exact zA9 (fun x hx=>h.le x (List.mem_of_mem_drop hx)) (by decide) hm
 ·rcases List.mem_append.1 hm with hm|hm
  ·rcases List.mem_append.1 hm with hm|hm
   ·revert hm;decide
   ·exact absurd (List.eq_of_mem_replicate hm) (by decide)
  ·exact zA9 h.le (by decide) hm
 ·rcases List.mem_append.1 hm with hm|hm
  ·rcases List.mem_append.1 hm with hm|hm
   ·unfold zNg at hm;rcases List.mem_append.1 hm with hm|hm
    ·exact zA9 (fun x hx=>h.le x (List.mem_of_mem_take hx)) (by decide) hm
    ·split at hm
     ·rcases List.mem_append.1 hm with hm|hm
      ·exact absurd (List.mem_singleton.1 hm) (by decide)
      ·exact zA9 (fun x hx=>h.le x (List.mem_of_mem_drop hx)) (by decide) hm
     ·cases hm
   ·exact absurd (List.mem_singleton.1 hm) (by decide)
  ·unfold zOS at hm
   split at hm
   ·rcases List.mem_append.1 hm with hm|hm
    ·exact absurd (List.mem_singleton.1 hm) (by decide)
    ·exact zDj _ hm
   ·rcases List.mem_append.1 hm with hm|hm
    ·exact absurd (List.mem_singleton.1 hm) (by decide)
    ·exact zDj _ hm
theorem zPS{a b:Bool}{x y:Nat}(h:zEH a x=zEH b y):a=b/\x=y:=by
 unfold zEH at h;obtain⟨h1,h2⟩:=zHL (zEr x) (zEr y) h;refine⟨h1,?_⟩
 split at h2 <;> split at h2
 ·exact zDC h2
 ·exact absurd (by rw[h2];simp) (zDj x)
 ·exact absurd (by rw[<-h2];simp) (zDj y)
 ·exact zNO (by simpa using h2)
theorem zPx{t:List UInt8}{b:Nat}(a:Bool)(x:Nat)(h:zE4 b t):zEH a x≠t:=by
 obtain⟨ds,p,s,rfl,hd,hp,_⟩:=h;intro h;unfold zEH at h;obtain⟨_,h2⟩:=zHL (zEr x) (zGe hd hp) h
 split at h2
 ·rcases zKQ hp with hm|hm
  ·rw[<-h2] at hm;exact zMh x hm
  ·rw[<-h2] at hm;exact zJ3 x hm
 ·exact zKN hd hp (by rw[<-h2];simp)
theorem zK5{b c:Nat}{t:List UInt8}(h:zE4 b t)(k:zE4 c t):b=c:=by
 obtain⟨ds,p,s,rfl,hd,hp,h0,hb,hi⟩:=h;obtain⟨es,q,r,e,hd',hp',h0',hc,hi'⟩:=k;obtain⟨h1,h2⟩:=zHL (zGe hd hp) (zGe hd' hp') e;obtain⟨rfl,rfl⟩:=zP1 hd hd' hp hp' h2;have hs:=hi.eq hi' (Nat.pow_pos (by omega));subst hs;have h3:(9223372036854775808<=b) ↔ (9223372036854775808<=c):=by simpa using h1
 rw[hb,hc];by_cases h4:9223372036854775808<=b
 ·rw[if_pos h4,if_pos (h3.1 h4)]
 ·rw[if_neg h4,if_neg (fun h=>h4 (h3.2 h))]
theorem zBf{a b:List UInt8}(ha:∀ c ∈ a,zEA c=true)(hb:∀ c ∈ b,zEA c=true):∀ c ∈ a ++ b,zEA c=true:=fun c hc=>(List.mem_append.1 hc).elim (ha c) (hb c)
theorem zGL(a:Bool):∀ c ∈ zBa a,zEA c=true:=by cases a <;> decide
theorem zBw(x:Nat):∀ c ∈ zAZ x,zEA c=true:=zCI (zC5 x)
theorem zFo(a:Bool)(x:Nat):∀ c ∈ zEH a x,zEA c=true:=by
 unfold zEH;refine zBf (zGL a) ?_
 split
 ·exact zBw x
 ·exact zBf (by decide) (zMX x)
theorem zN0(n:Nat):∀ c ∈ List.replicate n (48:UInt8),zEA c=true:=fun c hc=>by rw[List.eq_of_mem_replicate hc];decide
theorem zOG{ds:List Nat}{p:Int}(h:zGq ds)(hp:p<ds.length):∀ c ∈ zDQ ds p,zEA c=true:=by
 rcases zCd hp with ⟨i1,i2,e⟩|⟨i1,i2,e⟩|⟨i1,e⟩ <;> rw[e]
 ·exact zBf (zBf (zCI (fun x hx=>h.le x (List.mem_of_mem_take hx))) (by decide)) (zCI (fun x hx=>h.le x (List.mem_of_mem_drop hx)))
 ·exact zBf (zBf (by decide) (zN0 _)) (zCI h.le)
 ·refine zBf (zBf ?_ (by decide)) ?_
  ·unfold zNg;refine zBf (zCI (fun x hx=>h.le x (List.mem_of_mem_take hx))) ?_
   split
   ·exact zBf (by decide) (zCI (fun x hx=>h.le x (List.mem_of_mem_drop hx)))
   ·intro c hc;cases hc
  ·unfold zOS
   split
   ·exact zBf (by decide) (zBw _)
   ·exact zBf (by decide) (zBw _)
theorem zFp{b:Nat}{t:List UInt8}(h:zE4 b t):∀ c ∈ t,zEA c=true:=by
 obtain⟨ds,p,s,rfl,hd,hp,_⟩:=h;exact zBf (zGL _) (zOG hd hp)
structure VA where
 kind:Nat
 n:Nat
 neg:Bool
 mag:List Nat
 bits:Nat
 ext:Int
 text:List UInt8
inductive VT where
 | stop:VT
 | node (a:VA) (m:Nat) (fs:Nat->VT):VT
def VT.same:VT->VT->Prop
 | .stop,.stop=>True
 | .node a m fs,.node b k gs=>a=b/\m=k/\∀ i,i<m->(fs i).same (gs i)
 | _,_=>False
def zBc(one two:List UInt8)(m:Nat)(ts:Nat->List UInt8):Nat->List UInt8
 | 0=>[]
 | k+1=>zBc one two m ts k ++ ts k ++ (if k+1<m then (if k % 2=1 then two else one) else [])
def zEF(z:Int):List UInt8:=zBa (decide (z<0)) ++ zAZ z.natAbs
def zBP(fl:Nat->List UInt8)(a:VA)(m:Nat)(ts:Nat->List UInt8):List UInt8:=
 if a.kind=1 then [110,117,108,108]
 else if a.kind=2 then (if a.n=1 then [116,114,117,101] else [102,97,108,115,101])
 else if a.kind=3 then zEH a.neg (val a.mag)
 else if a.kind=4 then fl a.bits
 else if a.kind=5 then zBC a.text
 else if a.kind=6 then [104,39] ++ zBJ a.text ++ [39]
 else if a.kind=7 then [91] ++ zBc [44,32] [44,32] m ts m ++ [93]
 else if a.kind=8 then [123] ++ zBc [58,32] [44,32] m ts m ++ [125]
 else if a.kind=9 then zAZ a.n ++ [40] ++ zBc [] [] m ts m ++ [41]
 else if a.kind=10 then (if a.n=23 then [117,110,100,101,102,105,110,101,100] else [115,105,109,112,108,101,40] ++ zAZ a.n ++ [41])
 else [101,120,116,40] ++ zEF a.ext ++ [44,32,104,39] ++ zBJ a.text ++ [39,41]
def VT.txt(fl:Nat->List UInt8):VT->List UInt8
 | .stop=>[]
 | .node a m fs=>zBP fl a m (fun i=>(fs i).txt fl)
def VA.ok(a:VA)(m:Nat):Prop:=
 (a.kind=1/\a=⟨1,0,false,[],0,0,[]⟩/\m=0) \/
 (a.kind=2/\(∃ n,n<2/\a=⟨2,n,false,[],0,0,[]⟩)/\m=0) \/
 (a.kind=3/\(∃ neg x,(x=0->neg=false)/\a=⟨3,0,neg,zAb x,0,0,[]⟩)/\m=0) \/
 (a.kind=4/\(∃ b,a=⟨4,0,false,[],b,0,[]⟩)/\m=0) \/
 (a.kind=5/\(∃ t,a=⟨5,0,false,[],0,0,t⟩)/\m=0) \/
 (a.kind=6/\(∃ t,a=⟨6,0,false,[],0,0,t⟩)/\m=0) \/
 (a.kind=7/\a=⟨7,0,false,[],0,0,[]⟩) \/
 (a.kind=8/\a=⟨8,0,false,[],0,0,[]⟩/\m % 2=0) \/
 (a.kind=9/\(∃ n,a=⟨9,n,false,[],0,0,[]⟩)/\m=1) \/
 (a.kind=10/\(∃ n,a=⟨10,n,false,[],0,0,[]⟩)/\m=0) \/
 (a.kind=11/\(∃ z t,a=⟨11,0,false,[],0,z,t⟩)/\m=0)
def VT.ok(fl:Nat->List UInt8):VT->Prop
 | .stop=>False
 | .node a m fs=>a.ok m/\(a.kind=4->zEK a.bits (fl a.bits))/\∀ i,i<m->(fs i).ok fl
def zEE(x:List UInt8):Prop:=∀ c,x.head?=some c->c=44 \/ c=93 \/ c=125 \/ c=41 \/ c=58
theorem zEE.tok{x:List UInt8}(h:zEE x):∀ c,x.head?=some c->zEA c=false:=by
 intro c hc;rcases h c hc with rfl|rfl|rfl|rfl|rfl <;> decide
theorem zEE.not40{x:List UInt8}(h:zEE x):x.head?≠some 40:=by
 intro hc;rcases h 40 hc with h|h|h|h|h <;> revert h <;> decide
def zDa(one two:List UInt8)(m:Nat)(ts:Nat->List UInt8):Nat->List UInt8
 | 0=>[]
 | r+1=>ts (m - (r+1)) ++ (if m - (r+1)+1<m then (if (m - (r+1)) % 2=1 then two else one) else []) ++ zDa one two m ts r
theorem zNh(one two:List UInt8)(m:Nat)(ts:Nat->List UInt8):∀ r,r<=m->zBc one two m ts (m - r) ++ zDa one two m ts r=zBc one two m ts m
 | 0,_=>by simp[zDa]
 | r+1,h=>by
  have e:m - r=(m - (r+1))+1:=by omega
  rw[<-zNh one two m ts r (by omega),e,zBc,zDa];simp only[List.append_assoc]
theorem zJT(one two:List UInt8)(m:Nat)(ts:Nat->List UInt8):zBc one two m ts m=zDa one two m ts m:=by
 rw[<-zNh one two m ts m (zQ _),Nat.sub_self];rfl
def zG0(s:List UInt8):Prop:=s.head?=some 44 \/ s.head?=some 58
theorem zHC{one two:List UInt8}{m k:Nat}{ts us:Nat->List UInt8}{cl:UInt8}{S:Nat->Prop}{x y:List UInt8}(h1:zG0 one)(h2:zG0 two)(hcl:cl=93 \/ cl=125)
  (ht:∀ i,i<m->ts i≠[]/\(ts i).head?≠some cl) (hu:∀ i,i<k->us i≠[]/\(us i).head?≠some cl)
  (ih:∀ i x y,i<m->i<k->zEE x->zEE y->ts i ++ x=us i ++ y->S i/\x=y) :
  ∀ (r q i:Nat),i+r=m->i+q=k->zDa one two m ts r ++ cl :: x=zDa one two k us q ++ cl :: y->r=q/\(∀ j,i<=j->j<m->S j)/\x=y
 | 0,0,i,hr,hq,h=>⟨rfl,fun j h1 h2=>by omega,by simpa[zDa] using h⟩
 | 0,q+1,i,hr,hq,h=>by
  exfalso
  have hi:k - (q+1)=i:=by omega
  simp only[zDa,hi,List.nil_append,List.append_assoc] at h;obtain⟨a1,a2⟩:=hu i (by omega)
  cases hl:us i with
  | nil=>exact a1 hl
  | cons c l=>
   rw[hl] at h a2;simp only[List.cons_append,List.cons.injEq] at h
   exact a2 (by rw[h.1];rfl)
 | r+1,0,i,hr,hq,h=>by
  exfalso
  have hi:m - (r+1)=i:=by omega
  simp only[zDa,hi,List.nil_append,List.append_assoc] at h;obtain⟨a1,a2⟩:=ht i (by omega)
  cases hl:ts i with
  | nil=>exact a1 hl
  | cons c l=>
   rw[hl] at h a2;simp only[List.cons_append,List.cons.injEq] at h
   exact a2 (by rw[<-h.1];rfl)
 | r+1,q+1,i,hr,hq,h=>by
  have hi:m - (r+1)=i:=by omega
  have hi':k - (q+1)=i:=by omega
  simp only[zDa,hi,hi',List.append_assoc] at h;have hsep:zG0 (if i % 2=1 then two else one):=by split <;> assumption
  generalize (if i % 2=1 then two else one)=sp at h hsep
  have hT:∀ (b:Prop) [Decidable b] (z w:List UInt8),(¬ b->z=[])->zEE ((if b then sp else []) ++ (z ++ cl :: w)):=by
   intro b _ z w hz c hc
   split at hc
   ·rcases hsep with hs|hs
    ·cases sp with
     | nil=>cases hs
     | cons e l=>simp only[List.head?_cons,Option.some.injEq] at hs;simp only[List.cons_append,List.head?_cons,Option.some.injEq] at hc;left;rw[<-hc,hs]
    ·cases sp with
     | nil=>cases hs
     | cons e l=>simp only[List.head?_cons,Option.some.injEq] at hs;simp only[List.cons_append,List.head?_cons,Option.some.injEq] at hc;right;right;right;right;rw[<-hc,hs]
   ·rename_i hb
    rw[hz hb] at hc;simp only[List.nil_append,List.head?_cons,Option.some.injEq] at hc;rcases hcl with h|h
    ·right;left;rw[<-hc,h]
    ·right;right;left;rw[<-hc,h]
  obtain⟨hS,hR⟩:=ih i _ _ (by omega) (by omega) (hT _ _ _ (fun hb=>by rw[show r=0 by omega];rfl)) (hT _ _ _ (fun hb=>by rw[show q=0 by omega];rfl)) h
  have hno:sp.head?≠some cl:=by
   rcases hsep with hs|hs <;> rcases hcl with h|h <;> rw[hs,h] <;> decide
  by_cases b1:i+1<m <;> by_cases b2:i+1<k
  ·rw[if_pos b1,if_pos b2] at hR;obtain⟨e1,e2,e3⟩:=zHC h1 h2 hcl ht hu ih r q (i+1) (by omega) (by omega) (List.append_cancel_left hR);refine⟨by omega,fun j hj1 hj2=>?_,e3⟩;rcases Nat.lt_or_ge i j with h'|h'
   ·exact e2 j h' hj2
   ·rw[show j=i by omega];exact hS
  ·exfalso
   rw[if_pos b1,if_neg b2,show q=0 by omega] at hR;simp only[zDa,List.nil_append] at hR
   cases sp with
   | nil=>rcases hsep with hs|hs <;> cases hs
   | cons e l=>
    simp only[List.cons_append,List.cons.injEq] at hR;exact hno (by rw[hR.1];rfl)
  ·exfalso
   rw[if_neg b1,if_pos b2,show r=0 by omega] at hR;simp only[zDa,List.nil_append] at hR
   cases sp with
   | nil=>rcases hsep with hs|hs <;> cases hs
   | cons e l=>
    simp only[List.cons_append,List.cons.injEq] at hR;exact hno (by rw[<-hR.1];rfl)
  ·rw[if_neg b1,if_neg b2,show r=0 by omega,show q=0 by omega] at hR;simp only[zDa,List.nil_append,List.cons.injEq,true_and] at hR;refine⟨by omega,fun j hj1 hj2=>?_,hR⟩;rw[show j=i by omega];exact hS
theorem zLw{one two:List UInt8}{m k:Nat}{ts us:Nat->List UInt8}{cl:UInt8}{S:Nat->Prop}{x y:List UInt8}(h1:zG0 one)(h2:zG0 two)(hcl:cl=93 \/ cl=125)
  (ht:∀ i,i<m->ts i≠[]/\(ts i).head?≠some cl) (hu:∀ i,i<k->us i≠[]/\(us i).head?≠some cl)
  (ih:∀ i x y,i<m->i<k->zEE x->zEE y->ts i ++ x=us i ++ y->S i/\x=y)
  (h:zBc one two m ts m ++ cl :: x=zBc one two k us k ++ cl :: y):m=k/\(∀ j,j<m->S j)/\x=y:=by
 rw[zJT,zJT] at h;obtain⟨e1,e2,e3⟩:=zHC h1 h2 hcl ht hu ih m k 0 (by omega) (by omega) h;exact⟨e1,fun j hj=>e2 j (by omega) hj,e3⟩
def cls(c:UInt8):Nat:=
 if (48<=c.toNat/\c.toNat<=57) \/ c=45 then 0 else if c=110 then 1 else if c=116 \/ c=102 then 2 else if c=78 \/ c=73 then 4 else if c=34 then 5 else if c=104 then 6
 else if c=91 then 7 else if c=123 then 8 else if c=117 \/ c=115 then 10 else if c=101 then 11 else 99
theorem zGT{d:Nat}(h:d<=9):cls (dig d)=0:=by
 unfold cls;rw[if_pos (.inl (by rw[zA4 h];omega))]
theorem zNc{b:Bool}{t:List UInt8}(h:zFO t):∃ c r,zBa b ++ t=c :: r/\cls c=0:=by
 obtain⟨d,r,rfl,hd⟩:=h;cases b
 ·exact⟨_,_,rfl,zGT hd⟩
 ·exact⟨_,_,rfl,by decide⟩
theorem zO8{b:Nat}{t:List UInt8}(h:zEK b t):∃ c r,t=c :: r/\(cls c=4 \/ cls c=0):=by
 rcases h with ⟨_,rfl⟩|⟨_,rfl⟩|⟨_,rfl⟩|⟨ds,p,s,rfl,hd,hp,_⟩
 ·exact⟨_,_,rfl,.inl (by decide)⟩
 ·exact⟨_,_,rfl,.inl (by decide)⟩
 ·exact⟨_,_,rfl,.inr (by decide)⟩
 ·obtain⟨c,r,e,h⟩:=zNc (zGe hd hp);exact⟨c,r,e,.inr h⟩
theorem zFI(fl:Nat->List UInt8)(a:VA)(m:Nat)(ts:Nat->List UInt8)(h:a.ok m)(hf:a.kind=4->zEK a.bits (fl a.bits)):
  ∃ c r,zBP fl a m ts=c :: r/\(cls c=a.kind \/ (cls c=0/\(a.kind=3 \/ a.kind=4 \/ a.kind=9))):=by
 rcases h with ⟨hk,h⟩|⟨hk,⟨n,hn,h⟩,_⟩|⟨hk,⟨neg,x,hx,h⟩,_⟩|⟨hk,⟨b,h⟩,_⟩|⟨hk,⟨t,h⟩,_⟩|⟨hk,⟨t,h⟩,_⟩|⟨hk,h⟩|⟨hk,h,_⟩|⟨hk,⟨n,h⟩,_⟩|⟨hk,⟨n,h⟩,_⟩|⟨hk,⟨z,t,h⟩,_⟩ <;> unfold zBP <;> simp only[hk,Nat.reduceEqDiff,if_true,if_false]
 ·exact⟨_,_,rfl,.inl (by decide)⟩
 ·split
  ·exact⟨_,_,rfl,.inl (by decide)⟩
  ·exact⟨_,_,rfl,.inl (by decide)⟩
 ·obtain⟨c,r,e,h⟩:=zNc (b:=a.neg) (zEr (val a.mag));exact⟨c,r,e,.inr ⟨h,by decide⟩⟩
 ·obtain⟨c,r,e,h⟩:=zO8 (hf hk);rcases h with h|h
  ·exact⟨c,r,e,.inl h⟩
  ·exact⟨c,r,e,.inr ⟨h,by decide⟩⟩
 ·exact⟨_,_,rfl,.inl (by decide)⟩
 ·exact⟨_,_,rfl,.inl (by decide)⟩
 ·exact⟨_,_,rfl,.inl (by decide)⟩
 ·exact⟨_,_,rfl,.inl (by decide)⟩
 ·obtain⟨d,r,e,hd⟩:=zDm a.n;rw[e];exact⟨_,_,rfl,.inr ⟨zGT hd,by decide⟩⟩
 ·split
  ·exact⟨_,_,rfl,.inl (by decide)⟩
  ·exact⟨_,_,rfl,.inl (by decide)⟩
 ·exact⟨_,_,rfl,.inl (by decide)⟩
theorem zES{b:Nat}{t:List UInt8}(h:zE4 b t):∃ g u,t=zBa g ++ u/\zFO u:=by
 obtain⟨ds,p,s,rfl,hd,hp,_⟩:=h;exact⟨_,_,rfl,zGe hd hp⟩
theorem zCu{g:Bool}{u x:List UInt8}(h:zFO u){c:UInt8}{l:List UInt8}(hc:cls c≠0 \/ (c=45/\∃ l',l=73 :: l')):zBa g ++ u ++ x≠c :: l:=by
 obtain⟨d,r,rfl,hd⟩:=h;intro e;cases g
 ·simp only[zBa,Bool.false_eq_true,if_false,List.nil_append,List.cons_append,List.cons.injEq] at e;rcases hc with hc|⟨hc,_⟩
  ·rw[<-e.1,zGT hd] at hc;exact hc rfl
  ·rw[hc] at e;exact zFT hd (by decide) e.1
 ·simp only[zBa,if_true,List.cons_append,List.nil_append,List.cons.injEq] at e;rcases hc with hc|⟨_,l',hl⟩
  ·rw[<-e.1] at hc;exact hc (by decide)
  ·rw[hl,List.cons.injEq] at e;exact zFT hd (by decide) e.2.1
theorem zOq{b c:Nat}{t u x y:List UInt8}(h:zEK b t)(k:zEK c u)(hx:zEE x)(hy:zEE y)(e:t ++ x=u ++ y):b=c/\x=y:=by
 rcases h with ⟨rfl,rfl⟩|⟨rfl,rfl⟩|⟨rfl,rfl⟩|h <;> rcases k with ⟨rfl,rfl⟩|⟨rfl,rfl⟩|⟨rfl,rfl⟩|k
 ·exact⟨rfl,List.append_cancel_left e⟩
 ·exact absurd (List.cons.inj e).1 (by decide)
 ·exact absurd (List.cons.inj e).1 (by decide)
 ·obtain⟨g,v,rfl,hv⟩:=zES k;exact absurd e.symm (zCu hv (.inl (by decide)))
 ·exact absurd (List.cons.inj e).1 (by decide)
 ·exact⟨rfl,List.append_cancel_left e⟩
 ·exact absurd (List.cons.inj e).1 (by decide)
 ·obtain⟨g,v,rfl,hv⟩:=zES k;exact absurd e.symm (zCu hv (.inl (by decide)))
 ·exact absurd (List.cons.inj e).1 (by decide)
 ·exact absurd (List.cons.inj e).1 (by decide)
 ·exact⟨rfl,List.append_cancel_left e⟩
 ·obtain⟨g,v,rfl,hv⟩:=zES k;exact absurd e.symm (zCu hv (.inr ⟨rfl,_,rfl⟩))
 ·obtain⟨g,v,rfl,hv⟩:=zES h;exact absurd e (zCu hv (.inl (by decide)))
 ·obtain⟨g,v,rfl,hv⟩:=zES h;exact absurd e (zCu hv (.inl (by decide)))
 ·obtain⟨g,v,rfl,hv⟩:=zES h;exact absurd e (zCu hv (.inr ⟨rfl,_,rfl⟩))
 ·obtain⟨e1,e2⟩:=zDy (zFp h) (zFp k) hx.tok hy.tok e;subst e1;exact⟨zK5 h k,e2⟩
theorem zKb{g:Bool}{n c:Nat}{u x y:List UInt8}(k:zEK c u)(hx:zEE x)(hy:zEE y)(e:zEH g n ++ x=u ++ y):False:=by
 rcases k with ⟨rfl,rfl⟩|⟨rfl,rfl⟩|⟨rfl,rfl⟩|k
 ·exact zCu (zEr n) (.inl (by decide)) e
 ·exact zCu (zEr n) (.inl (by decide)) e
 ·exact zCu (zEr n) (.inr ⟨rfl,_,rfl⟩) e
 ·obtain⟨e1,_⟩:=zDy (zFo g n) (zFp k) hx.tok hy.tok e;exact zPx g n k e1
theorem zL7(z:List UInt8):∀ c,(40 :: z).head?=some c->zEA c=false:=by
 intro c hc;simp only[List.head?_cons,Option.some.injEq] at hc;subst hc;decide
theorem zLj{g:Bool}{n c:Nat}{x z:List UInt8}(hx:zEE x)(e:zEH g n ++ x=zAZ c ++ 40 :: z):False:=by
 obtain⟨_,e2⟩:=zDy (zFo g n) (zBw c) hx.tok (zL7 z) e;exact hx.not40 (by rw[e2];rfl)
theorem zJQ{n c:Nat}{t x z:List UInt8}(h:zEK n t)(hx:zEE x)(e:t ++ x=zAZ c ++ 40 :: z):False:=by
 have hd:=zDm c;rcases h with ⟨rfl,rfl⟩|⟨rfl,rfl⟩|⟨rfl,rfl⟩|h
 ·exact zCu (g:=false) hd (.inl (by decide)) e.symm
 ·exact zCu (g:=false) hd (.inl (by decide)) e.symm
 ·exact zCu (g:=false) hd (.inr ⟨rfl,_,rfl⟩) e.symm
 ·obtain⟨_,e2⟩:=zDy (zFp h) (zBw c) hx.tok (zL7 z) e;exact hx.not40 (by rw[e2];rfl)
end Go.Proofs.YtcanfakaigpkgaaGreatDoor.D
