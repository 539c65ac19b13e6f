/-
  Of the proof that the law DiagUnlike answers true at every two values: a part, without conditions of its own.
-/
import Derived.Lib.Hide
import Derived.IntWalk
import Derived.Below
import Derived.Test.YtcanfakaigpkgaaGreatDoorProg
import Derived.WalkKit
import Derived.StillTailTactics
import Derived.Deep.QuietTactic
import Derived.BigQuiet
import Derived.Deep.Cut
import Derived.Deep.CutBlock
import Derived.Deep.RegionWith
import Derived.Deep.RegionHeld3
import Derived.Deep.DeepMust
import Derived.Laws.CopyOwn
set_option linter.unusedVariables false
set_option linter.unusedSimpArgs false
set_option maxRecDepth 100000
set_option maxHeartbeats 8000000
namespace Go.Proofs.YtcanfakaigpkgaaGreatDoor
open Go Go.RowKit
theorem zz {p : Prop} (h : p) : Hid p := Lib.hid h
theorem zy.{u} {α : Type u} (l : List α) (i : Nat) (a : α) : l.toArray.setIfInBounds i a = (l.set i a).toArray := List.setIfInBounds_toArray l i a
theorem zq.{u} {α : Type u} {x : α} {xs : List α} {a : α} : (x :: xs).set 0 a = a :: xs := List.set_cons_zero
theorem zj.{u} {α : Type u} {x : α} {xs : List α} {i : Nat} {a : α} : (x :: xs).set (i + 1) a = x :: xs.set i a := List.set_cons_succ
theorem zk.{u} {α : Type u} {a : α} {l : List α} : (a :: l)[0]? = some a := List.getElem?_cons_zero
theorem zx.{u} {α : Type u} {a : α} {i : Nat} {l : List α} : (a :: l)[i + 1]? = l[i]? := List.getElem?_cons_succ
theorem zv.{u} {α : Type u} {xs : List α} {i : Nat} : xs.toArray[i]? = xs[i]? := List.getElem?_toArray
theorem zw.{u} {α : Type u} {l : List α} {i : Nat} {a : α} : l.getD i a = l[i]?.getD a := List.getD_eq_getElem?_getD
theorem zZ.{u} {α : Type u} {l : List α} {i : Nat} (h : i < l.length) : l[i]? = some l[i] := List.getElem?_eq_getElem h
theorem zY (n : Int) (h : -9223372036854775808 ≤ n ∧ n ≤ 9223372036854775807) : IntKind.i64.wrap n = n := IntWalk.i64_in n h
theorem zQ (n : Nat) : n ≤ n := Nat.le_refl n
theorem zJ {n m k : Nat} (h : n ≤ m) (h2 : m ≤ k) : n ≤ k := Nat.le_trans h h2
theorem zK (B : Nat) (w : World) : Below B w w := Below.refl B w
end Go.Proofs.YtcanfakaigpkgaaGreatDoor
namespace Go.Proofs.YtcanfakaigpkgaaGreatDoor.D
open Go Go.RowKit
def Blk(w:World)(k:Nat)(c:Array Value)(t:TypeId):Prop:=w.heap[k]?=some (.cells c t (0,0))
theorem Blk.cell{w:World}{k:Nat}{c:Array Value}{t:TypeId}(h:Blk w k c t)(i:Nat):w.cell? ⟨k,i,none⟩=c[i]?:=by
 unfold Blk at h;simp[World.cell?,h]
theorem Blk.free{w:World}{k:Nat}{c:Array Value}{t:TypeId}(h:Blk w k c t)(i:Nat):w.frozen? ⟨k,i,none⟩=false:=by
 unfold Blk at h;simp[World.frozen?,h]
theorem Blk.lt{w:World}{k:Nat}{c:Array Value}{t:TypeId}(h:Blk w k c t):k<w.heap.size:=(Array.getElem?_eq_some_iff.1 h).1
theorem Blk.drew{w:World}{k:Nat}{c:Array Value}{t:TypeId}(h:Blk w k c t):Blk w.drew k c t:=h
theorem Blk.drewN{w:World}{k:Nat}{c:Array Value}{t:TypeId}(h:Blk w k c t)(m:Nat):Blk (w.drewN m) k c t:=h
theorem Blk.alloc{w:World}{k:Nat}{c:Array Value}{t:TypeId}(h:Blk w k c t)(o:Obj):Blk (w.alloc o) k c t:=by
 have:=h.lt;unfold Blk at *;rw[Below.heap_alloc w o k this];exact h
theorem Blk.new(w:World)(c:Array Value)(t:TypeId):Blk (w.alloc (.cells c t)) w.heap.size c t:=by
 show (w.heap.push _)[w.heap.size]?=_;simp
theorem Blk.set{w:World}{k:Nat}{c:Array Value}{t:TypeId}(h:Blk w k c t)(i:Nat)(v:Value):Blk (w.setCell ⟨k,i,none⟩ v) k (c.setIfInBounds i v) t:=by
 rw[setCell_eq_setRow w k i c t (0,0) v h];exact setRow_heap w k c _ t (0,0) h
theorem Blk.set_other{w:World}{k:Nat}{c:Array Value}{t:TypeId}(h:Blk w k c t)(a:Addr)(v:Value)(hne:k≠a.block):Blk (w.setCell a v) k c t:=by
 unfold Blk at *;rw[Below.heap_setCell w a v k hne];exact h
theorem Blk.below{w w':World}{B k:Nat}{c:Array Value}{t:TypeId}(h:Blk w k c t)(hb:Below B w w')(hk:k<B):Blk w' k c t:=by
 unfold Blk at *;rw[hb.block k hk];exact h
theorem zAd{B:Nat}{a w:World}(h:Below B a w)(m:Nat):Below B a (w.drewN m):=⟨h.os,h.tape,h.output,h.size,h.block⟩
theorem zAO{B:Nat}{a w:World}(h:Below B a w){g:Nat}(hg:B<=g)(c:Array Value):Below B a (w.setRow g c):=
 h.trans ⟨rfl,rfl,rfl,by simp,fun k hk=>setRow_other _ _ _ _ (by omega)⟩
structure Ex (S:Nat->Prop) (B:Nat) (w w':World):Prop where
 os:w'.os=w.os
 tape:w'.tape=w.tape
 output:w'.output=w.output
 size:w.heap.size<=w'.heap.size
 block:∀ k,k<B->¬ S k->w'.heap[k]?=w.heap[k]?
theorem Ex.refl(S:Nat->Prop)(B:Nat)(w:World):Ex S B w w:=⟨rfl,rfl,rfl,zQ _,fun _ _ _=>rfl⟩
theorem Ex.trans{S:Nat->Prop}{B:Nat}{a b c:World}(h:Ex S B a b)(k:Ex S B b c):Ex S B a c:=
 ⟨k.os.trans h.os,k.tape.trans h.tape,k.output.trans h.output,zJ h.size k.size,fun i hi hp=>(k.block i hi hp).trans (h.block i hi hp)⟩
theorem Ex.of_below{S:Nat->Prop}{B:Nat}{w w':World}(h:Below B w w'):Ex S B w w':=⟨h.os,h.tape,h.output,h.size,fun k hk _=>h.block k hk⟩
theorem Ex.mono{S T:Nat->Prop}{B B':Nat}{w w':World}(h:Ex S B w w')(hB:B'<=B)(hS:∀ k,S k->T k):Ex T B' w w':=⟨h.os,h.tape,h.output,h.size,fun k hk hs=>h.block k (by omega) (fun e=>hs (hS k e))⟩
theorem Ex.drewN{S:Nat->Prop}{B:Nat}{a w:World}(h:Ex S B a w)(m:Nat):Ex S B a (w.drewN m):=⟨h.os,h.tape,h.output,h.size,h.block⟩
theorem Ex.alloc{S:Nat->Prop}{B:Nat}{a w:World}(h:Ex S B a w)(hB:B<=w.heap.size)(o:Obj):Ex S B a (w.alloc o):=h.trans (Ex.of_below ((zK _ _).alloc hB o))
theorem Ex.setCell{S:Nat->Prop}{B:Nat}{a w:World}(h:Ex S B a w)(p i:Nat)(hp:S p \/ B<=p)(v:Value):Ex S B a (w.setCell ⟨p,i,none⟩ v):=
 h.trans ⟨rfl,rfl,rfl,by simp[World.setCell],fun k hk hs=>Below.heap_setCell _ _ _ _ (fun e=>by subst e;rcases hp with h|h;exact hs h;omega)⟩
theorem Ex.below{S:Nat->Prop}{B B':Nat}{w w':World}(h:Ex S B w w')(hB:B'<=B)(hS:∀ k,S k->B'<=k):Below B' w w':=
 ⟨h.os,h.tape,h.output,h.size,fun k hk=>h.block k (by omega) (fun e=>by have:=hS k e;omega)⟩
theorem Ex.blk{S:Nat->Prop}{B k:Nat}{w w':World}{c:Array Value}{t:TypeId}(h:Ex S B w w')(hk:Blk w k c t)(hB:k<B)(hp:¬ S k):Blk w' k c t:=by
 unfold Blk at *;rw[h.block k hB hp];exact hk
theorem Ex.cell{S:Nat->Prop}{B:Nat}{w w':World}(h:Ex S B w w'){a:Addr}(hB:a.block<B)(hp:¬ S a.block):w'.cell? a=w.cell? a:=
 World.cell?_of_block (w:=w) (h.block a.block hB hp)
def zAc(l:List UInt8):ByteArray:=⟨l.toArray⟩
theorem zAg(l:List UInt8):(zAc l).size=l.length:=rfl
theorem zBm(a b:List UInt8):zAc a ++ zAc b=zAc (a ++ b):=by
 apply ByteArray.ext;simp[zAc]
def b8(x:UInt8):Int:=(x.toNat:Int)
def ch(D:List UInt8)(i:Nat):Int:=b8 (D.getD i 0)
theorem zAI(w:World)(D:List UInt8)(i:Nat)(h:i<D.length):(Instr.index 9 (.string (zAc D)) (.int .i64 (i:Int))).run Tryz.prog w=.ok (.int .u8 (ch D i)) w:=by
 rw[run_index_string w 9 _ .i64 (i:Int) Tryz.underlying9];rw[dif_pos ⟨by omega,by rw[zAg];omega⟩];congr 2;unfold ch b8;rw[zw,zZ h];rfl
def sub(S:List UInt8)(a b:Nat):List UInt8:=(S.drop a).take (b - a)
theorem zNN(S:List UInt8)(a b:Nat)(h:b<=S.length):(sub S a b).length=b - a:=by simp[sub];omega
theorem zEa(S:List UInt8)(a b i:Nat)(h:i<b - a):(sub S a b).getD i 0=S.getD (a+i) 0:=by
 simp only[sub,zw,List.getElem?_take,if_pos h,List.getElem?_drop]
theorem zBX(S:List UInt8)(a b:Nat):(zAc S).extract a b=zAc (sub S a b):=by
 apply ByteArray.ext;apply Array.ext';simp[zAc,sub,ByteArray.extract,ByteArray.copySlice]
theorem zBv(w:World)(S:List UInt8)(a b:Nat)(hab:a<=b)(hb:b<=S.length):(Instr.slice 9 (.string (zAc S)) (some (.int .i64 (a:Int))) (some (.int .i64 (b:Int))) none).run Tryz.prog w=.ok (.string (zAc (sub S a b))) w:=by
 have:=run_slice_string (P:=Tryz.prog) w 9 (zAc S) .i64 .i64 (a:Int) (b:Int) Tryz.underlying9 (by omega) (by omega) (by rw[zAg];omega);rw[this,Int.toNat_natCast,Int.toNat_natCast,zBX]
theorem zAz(w:World)(S:List UInt8)(a:Nat)(ha:a<=S.length):(Instr.slice 9 (.string (zAc S)) (some (.int .i64 (a:Int))) none none).run Tryz.prog w=.ok (.string (zAc (sub S a S.length))) w:=by
 have:=run_slice_string_l (P:=Tryz.prog) (w:=w) (t:=9) (s:=zAc S) Tryz.underlying9 .i64 (a:Int) (by omega) (by rw[zAg];omega);rw[this,Int.toNat_natCast,zBX,zAg]
theorem zCJ(w:World)(S:List UInt8)(b:Nat)(hb:b<=S.length):(Instr.slice 9 (.string (zAc S)) none (some (.int .i64 (b:Int))) none).run Tryz.prog w=.ok (.string (zAc (sub S 0 b))) w:=by
 have:=run_slice_string_h (P:=Tryz.prog) (w:=w) (t:=9) (s:=zAc S) Tryz.underlying9 .i64 (b:Int) (by omega) (by rw[zAg];omega);rw[this,Int.toNat_natCast,zBX]
end Go.Proofs.YtcanfakaigpkgaaGreatDoor.D
namespace Go.Proofs.YtcanfakaigpkgaaGreatDoor.Limb
def val:List Nat->Nat
 | []=>0
 | x :: r=>x+4294967296*val r
def top:List Nat->Nat
 | []=>0
 | x :: r=>if top r=0 then (if x=0 then 0 else 1) else top r+1
def zDY(l:List Nat):List Nat:=l.take (top l)
def Fit(l:List Nat):Prop:=∀ x,x ∈ l->x<4294967296
def zAb(n:Nat):List Nat:=if h:n=0 then [] else n % 4294967296 :: zAb (n / 4294967296)
 termination_by n
 decreasing_by omega
theorem zAn:zAb 0=[]:=by rw[zAb];simp
theorem zBk{n:Nat}(h:n≠0):zAb n=n % 4294967296 :: zAb (n / 4294967296):=by rw[zAb];simp[h]
theorem zAe(n:Nat):val (zAb n)=n:=by
 induction n using Nat.strongRecOn with
 | ind n ih=>
  by_cases h:n=0
  ·subst h;rw[zAn];rfl
  ·rw[zBk h,val,ih _ (by omega)];omega
theorem zAB(n:Nat):Fit (zAb n):=by
 induction n using Nat.strongRecOn with
 | ind n ih=>
  intro x hx;by_cases h:n=0
  ·subst h;rw[zAn] at hx;cases hx
  ·rw[zBk h] at hx;rcases List.mem_cons.1 hx with e|e
   ·omega
   ·exact ih _ (by omega) x e
theorem zBT(l:List Nat):top l<=l.length:=by
 induction l with
 | nil=>simp[top]
 | cons x r ih=>simp only[top,List.length_cons];split <;> (try split) <;> omega
theorem zJU(l:List Nat):∀ i,top l<=i->l.getD i 0=0:=by
 induction l with
 | nil=>intros;simp
 | cons x r ih=>
  intro i hi;simp only[top] at hi
  cases i with
  | zero=>
   split at hi
   ·split at hi
    ·simp_all
    ·omega
   ·omega
  | succ i=>
   simp only[List.getD_cons_succ];apply ih
   split at hi
   ·omega
   ·omega
theorem zNv(l:List Nat)(h:0<top l):l.getD (top l - 1) 0≠0:=by
 induction l with
 | nil=>simp[top] at h
 | cons x r ih=>
  simp only[top] at h ⊢
  split
  ·rename_i h0
   rw[if_pos h0] at h
   split
   ·rename_i hx;simp[hx] at h
   ·rename_i hx;simpa using hx
  ·rename_i h0
   have:=ih (by omega);rw[show top r+1 - 1=(top r - 1)+1 by omega,List.getD_cons_succ];exact this
theorem zO9(l:List Nat)(n:Nat)(ha:∀ i,n<=i->i<l.length->l.getD i 0=0)(hb:0<n->l.getD (n - 1) 0≠0):top l=n:=by
 rcases Nat.lt_trichotomy (top l) n with h|h|h
 ·exact absurd (zJU l (n - 1) (by omega)) (hb (by omega))
 ·exact h
 ·exact absurd (ha (top l - 1) (by omega) (by have:=zBT l;omega)) (zNv l (by omega))
theorem zHk{l:List Nat}(h:top l=0):val l=0:=by
 induction l with
 | nil=>rfl
 | cons x r ih=>
  simp only[top] at h
  split at h
  ·rename_i h0
   split at h
   ·rename_i hx;rw[val,ih h0,hx]
   ·omega
  ·omega
theorem zBI{l:List Nat}(h:Fit l)(n:Nat):Fit (l.take n):=fun x hx=>h x (List.mem_of_mem_take hx)
theorem zAG(l:List Nat):(zDY l).length=top l:=by
 unfold zDY;rw[List.length_take];have:=zBT l;omega
theorem zAv{l:List Nat}(h:Fit l):zDY l=zAb (val l):=by
 induction l with
 | nil=>simp[zDY,val,zAn]
 | cons x r ih=>
  have hx:x<4294967296:=h x (by simp);have ihr:=ih (fun y hy=>h y (by simp[hy]));unfold zDY at ihr ⊢;simp only[top]
  split
  ·rename_i h0
   have hr:=zHk h0
   split
   ·rename_i h1;simp[val,hr,h1,zAn]
   ·rename_i h1
    rw[val,hr,zBk (by omega)];rw[show (x+4294967296*0) % 4294967296=x by omega,show (x+4294967296*0) / 4294967296=0 by omega,zAn];simp
  ·rename_i h0
   have hv:val r≠0:=by
    intro e;rw[e,zAn] at ihr;have:=congrArg List.length ihr;rw[List.length_take,List.length_nil] at this;have:=zBT r;omega
   rw[List.take_succ_cons,ihr,val,zBk (n:=x+4294967296*val r) (by omega)];rw[show (x+4294967296*val r) % 4294967296=x by omega,show (x+4294967296*val r) / 4294967296=val r by omega]
theorem zF8(n:Nat):top (zAb n)=(zAb n).length:=by
 have:=zAG (zAb n);rw[zAv (zAB n),zAe] at this;exact this.symm
theorem zJq(n:Nat):zDY (zAb n)=zAb n:=by rw[zAv (zAB n),zAe]
theorem zA3(a b:List Nat):val (a ++ b)=val a+4294967296 ^ a.length*val b:=by
 induction a with
 | nil=>simp[val]
 | cons x r ih=>
  rw[List.cons_append,val,ih,val,List.length_cons,Nat.pow_succ,Nat.mul_add,Nat.add_assoc,Nat.mul_comm (4294967296 ^ r.length) 4294967296,Nat.mul_assoc]
theorem zBY{l:List Nat}(h:Fit l):val l<4294967296 ^ l.length:=by
 induction l with
 | nil=>simp[val]
 | cons x r ih=>
  have hx:x<4294967296:=h x (by simp);have:=ih (fun y hy=>h y (by simp[hy]));rw[val,List.length_cons,Nat.pow_succ];omega
theorem zD1(l:List Nat)(k:Nat)(h:k<l.length):val (l.take (k+1))=val (l.take k)+4294967296 ^ k*l.getD k 0:=by
 rw[List.take_succ_eq_append_getElem h,zA3,List.length_take,Nat.min_eq_left (by omega),zw,zZ h];simp[val]
theorem zAk{n:Nat}(h:n≠0):0<(zAb n).length:=by rw[zBk h];simp
theorem zEO{n:Nat}(h:n≠0):(zAb n).getD ((zAb n).length - 1) 0≠0:=by
 rw[<-zF8];exact zNv _ (by rw[zF8];exact zAk h)
theorem zAu{n:Nat}(h:n<4294967296)(h0:n≠0):zAb n=[n]:=by
 rw[zBk h0,show n / 4294967296=0 by omega,zAn,Nat.mod_eq_of_lt h]
theorem zH6{n:Nat}(h:n≠0):4294967296 ^ ((zAb n).length - 1)<=n:=by
 induction n using Nat.strongRecOn with
 | ind n ih=>
  rw[zBk h];by_cases h1:n / 4294967296=0
  ·rw[h1,zAn];simp;omega
  ·have:=ih _ (by omega) h1;have hp:=zAk h1;rw[List.length_cons,show (zAb (n / 4294967296)).length+1 - 1=((zAb (n / 4294967296)).length - 1)+1 by omega,Nat.pow_succ];omega
theorem zBn(n:Nat):n<4294967296 ^ (zAb n).length:=by
 have:=zBY (zAB n)
 rwa [zAe] at this
theorem zAq{n k:Nat}(h:n<4294967296 ^ k):(zAb n).length<=k:=by
 by_cases h0:n=0
 ·subst h0;simp[zAn]
 ·rcases Nat.lt_or_ge k (zAb n).length with h1|h1
  ·have:=zH6 h0;have:4294967296 ^ k<=4294967296 ^ ((zAb n).length - 1):=Nat.pow_le_pow_right (by omega) (by omega);omega
  ·exact h1
def zA7(n:Nat):Nat:=if h:n=0 then 0 else zA7 (n / 2)+1
 termination_by n
 decreasing_by omega
theorem zCa:zA7 0=0:=by rw[zA7];simp
theorem zL4{n:Nat}(h:n≠0):zA7 n=zA7 (n / 2)+1:=by rw[zA7];simp[h]
theorem zBt(n:Nat)(h:n≠0):1<=zA7 n/\2 ^ (zA7 n - 1)<=n/\n<2 ^ zA7 n:=by
 induction n using Nat.strongRecOn with
 | ind n ih=>
  rw[zL4 h];by_cases h1:n / 2=0
  ·rw[h1,zCa];simp;omega
  ·obtain⟨a,b,c⟩:=ih _ (by omega) h1;refine⟨by omega,?_,?_⟩
   ·rw[show zA7 (n / 2)+1 - 1=(zA7 (n / 2) - 1)+1 by omega,Nat.pow_succ];omega
   ·rw[Nat.pow_succ];omega
theorem zA0{n k:Nat}(hk:1<=k)(h1:2 ^ (k - 1)<=n)(h2:n<2 ^ k):zA7 n=k:=by
 have h0:n≠0:=by have:0<2 ^ (k - 1):=Nat.two_pow_pos _;omega
 obtain⟨a,b,c⟩:=zBt n h0;rcases Nat.lt_trichotomy (zA7 n) k with h|h|h
 ·have:2 ^ zA7 n<=2 ^ (k - 1):=Nat.pow_le_pow_right (by omega) (by omega);omega
 ·exact h
 ·have:2 ^ k<=2 ^ (zA7 n - 1):=Nat.pow_le_pow_right (by omega) (by omega);omega
theorem zD3(k:Nat):4294967296 ^ k=2 ^ (32*k):=by rw[show (4294967296:Nat)=2 ^ 32 from rfl,<-Nat.pow_mul]
theorem zCF{n k:Nat}(h:n<2 ^ k):zA7 n<=k:=by
 by_cases h0:n=0
 ·subst h0;rw[zCa];omega
 ·obtain⟨a,b,c⟩:=zBt n h0;rcases Nat.lt_or_ge k (zA7 n) with h1|h1
  ·have:2 ^ k<=2 ^ (zA7 n - 1):=Nat.pow_le_pow_right (by omega) (by omega);omega
  ·exact h1
theorem zE5{n:Nat}(h:n≠0):zA7 n=32*((zAb n).length - 1)+zA7 ((zAb n).getD ((zAb n).length - 1) 0):=by
 induction n using Nat.strongRecOn with
 | ind n ih=>
  rw[zBk h];by_cases h1:n / 4294967296=0
  ·rw[h1,zAn];simp;rw[Nat.mod_eq_of_lt (by omega)]
  ·have:=ih _ (by omega) h1;have hp:=zAk h1;rw[List.length_cons,show (zAb (n / 4294967296)).length+1 - 1=((zAb (n / 4294967296)).length - 1)+1 by omega,List.getD_cons_succ,Nat.mul_add,Nat.add_right_comm,<-this];obtain⟨a,b,c⟩:=zBt _ h1;refine zA0 (by omega) ?_ ?_
   ·rw[show zA7 (n / 4294967296)+32*1 - 1=(zA7 (n / 4294967296) - 1)+32 by omega,Nat.pow_add];omega
   ·rw[Nat.mul_one,Nat.pow_add];omega
end Go.Proofs.YtcanfakaigpkgaaGreatDoor.Limb
namespace Go.Proofs.YtcanfakaigpkgaaGreatDoor.D
open Go Go.RowKit Limb
def zAf(w:World)(v:Value)(l:List Nat):Prop:=
 Fit l/\(((∃ p,v=.slice p 0 0)/\l=[]) \/ ∃ blk off cap,v=.slice (some ⟨blk,off,none⟩) l.length cap/\l.length<=cap/\cap<=9223372036854775807/\blk<w.heap.size/\∀ i,i<l.length->w.cell? ⟨blk,off+i,none⟩=some (.int .u32 (l.getD i 0:Nat)))
theorem zAf.fit{w:World}{v:Value}{l:List Nat}(h:zAf w v l):Fit l:=h.1
theorem zAf.below{w w':World}{v:Value}{l:List Nat}(h:zAf w v l)(hb:Below w.heap.size w w'):zAf w' v l:=by
 obtain⟨hf,h|⟨blk,off,cap,hv,h1,h2,h3,h4⟩⟩:=h
 ·exact⟨hf,.inl h⟩
 ·exact⟨hf,.inr ⟨blk,off,cap,hv,h1,h2,by have:=hb.size;omega,fun i hi=>by rw[hb.cell (p:=⟨blk,off+i,none⟩) h3];exact h4 i hi⟩⟩
theorem zAf.nil(w:World):zAf w (.slice none 0 0) []:=⟨(fun _ hx=>by cases hx),Or.inl ⟨⟨_,rfl⟩,rfl⟩⟩
theorem zAf.empty(w:World)(p:Option Addr):zAf w (.slice p 0 0) []:=⟨(fun _ hx=>by cases hx),Or.inl ⟨⟨_,rfl⟩,rfl⟩⟩
theorem zAf.set{w:World}{v:Value}{l:List Nat}(h:zAf w v l){k:Nat}{c:Array Value}{t:TypeId}(hk:Blk w k c t)(hc:∀ (i:Nat) (x:Int),c[i]?≠some (.int .u32 x))(i:Nat)(u:Value):zAf (w.setCell ⟨k,i,none⟩ u) v l:=by
 obtain⟨hf,h|⟨blk,off,cap,hv,h1,h2,h3,h4⟩⟩:=h
 ·exact⟨hf,.inl h⟩
 ·refine⟨hf,.inr ⟨blk,off,cap,hv,h1,h2,by simpa using h3,fun j hj=>?_⟩⟩;have h5:=h4 j hj
  have hne:blk≠k:=by
   rintro rfl;rw[hk.cell] at h5;exact hc _ _ h5
  rw[World.cell?_of_block (w:=w) (a:=⟨blk,off+j,none⟩) (Below.heap_setCell w ⟨k,i,none⟩ u blk hne)];exact h5
theorem zAf.setRow{w:World}{v:Value}{l:List Nat}(h:zAf w v l){k:Nat}{c:Array Value}{t:TypeId}(hk:Blk w k c t)(hc:∀ (i:Nat) (x:Int),c[i]?≠some (.int .u32 x))(c':Array Value):zAf (w.setRow k c') v l:=by
 obtain⟨hf,h|⟨blk,off,cap,hv,h1,h2,h3,h4⟩⟩:=h
 ·exact⟨hf,.inl h⟩
 ·refine⟨hf,.inr ⟨blk,off,cap,hv,h1,h2,by simpa using h3,fun j hj=>?_⟩⟩;have h5:=h4 j hj
  have hne:blk≠k:=by
   rintro rfl;rw[hk.cell] at h5;exact hc _ _ h5
  rw[World.cell?_of_block (w:=w) (a:=⟨blk,off+j,none⟩) (setRow_other _ _ _ _ hne)];exact h5
theorem zAf.slice{w:World}{v:Value}{l:List Nat}(h:zAf w v l):∃ b c,v=.slice b l.length c:=by
 obtain⟨_,⟨⟨p,rfl⟩,rfl⟩|⟨blk,off,cap,rfl,_⟩⟩:=h
 ·exact⟨_,_,rfl⟩
 ·exact⟨_,_,rfl⟩
theorem zAf.take{w:World}{blk off n cap:Nat}{l:List Nat}(hf:Fit l)(h3:blk<w.heap.size)(h4:∀ i,i<l.length->w.cell? ⟨blk,off+i,none⟩=some (.int .u32 (l.getD i 0:Nat)))(hn:n<=l.length)(hc:n<=cap)(hcap:cap<=9223372036854775807):
  zAf w (.slice (some ⟨blk,off,none⟩) n cap) (l.take n):=by
 have hl:(l.take n).length=n:=by rw[List.length_take];omega
 refine⟨zBI hf n,.inr ⟨blk,off,cap,by rw[hl],by omega,hcap,h3,fun i hi=>?_⟩⟩;rw[hl] at hi;rw[h4 i (by omega)];congr 3;rw[zw,zw,List.getElem?_take,if_pos hi]
theorem zC6(l:List Nat)(k:Nat)(h:∀ i,k<=i->i<l.length->l.getD i 0=0)(h2:0<k->l.getD (k - 1) 0≠0):l.take k=zDY l:=by
 unfold zDY;rw[zO9 l k h h2]
theorem zAC(w:World)(v:Value)(l:List Nat)(h:zAf w v l):
  Calls Tryz.prog 89 #[v] w fun e w'=>w'=w/\∃ v',e=.returned v'/\zAf w v' (zDY l):=by
 obtain⟨hf,⟨⟨p,rfl⟩,rfl⟩|⟨blk,off,cap,rfl,h1,h2,h3,h4⟩⟩:=h
 ·cases p with
  | none=>
   go_enter Tryz.func89,Tryz.ntmps89
   go_wp2;go_loop [3] (fun n=>n=.int .i64 0) (fun _=>0)
   case atStart=>rfl
   case round=>
    subst hrel;go_wp2;go_ret
    exact⟨rfl,_,rfl,zAf.nil w⟩
  | some ad=>
   go_enter Tryz.func89,Tryz.ntmps89
   go_wp2;go_loop [3] (fun n=>n=.int .i64 0) (fun _=>0)
   case atStart=>rfl
   case round=>
    subst hrel;go_wp2;go_ret;exact⟨rfl,_,rfl,zAf.empty w _⟩
 ·have H4:=zz h4;clear h4;obtain⟨m,hm⟩:∃ m,m=l.length:=⟨_,rfl⟩;have HM:=zz hm;rw[<-hm] at h1 ⊢;clear hm;go_enter Tryz.func89,Tryz.ntmps89
  go_wp2;go_loop [3] (fun n=>∃ k:Nat,k<=m/\n=.int .i64 k/\Hid (∀ i,k<=i->i<l.length->l.getD i 0=0)) (fun n=>(intOf n).toNat)
  case atStart=>exact⟨m,zQ _,rfl,zz (fun i h5 h6=>by rw[HM.out] at h5;omega)⟩
  case round=>
   obtain⟨k,hk,rfl,hz⟩:=hrel;by_cases h0:k=0
   ·subst h0
    have HR:Hid (zAf w (.slice (some ⟨blk,off,none⟩) 0 0) (zDY l)):=zz (by
     have:=zAf.take (n:=0) (cap:=0) hf h3 H4.out (by omega) (zQ _) (by omega)
     rwa [zC6 l 0 hz.out (by omega)] at this)
    go_wp2;go_ret;exact⟨rfl,_,rfl,HR.out⟩
   ·have g0:(0:Int)<(k:Int):=by omega
    have hc:=H4.out (k - 1) (by rw[<-HM.out];omega);have g1:((k:Int) - 1).toNat=k - 1:=by omega
    have g2:(0:Int)<=(k:Int) - 1:=by omega
    have g3:(k:Int) - 1<(m:Int):=by omega
    have g4:IntKind.i64.wrap ((k:Int) - 1)=(k:Int) - 1:=zY _ (by omega);by_cases hx:l.getD (k - 1) 0=0
    ·rw[hx] at hc
     have HZ:Hid (∀ i,k - 1<=i->i<l.length->l.getD i 0=0):=zz (fun i h5 h6=>by
      rcases Nat.lt_or_ge i k with h7|h7
      ·rw[show i=k - 1 by omega];exact hx
      ·exact hz.out i h7 h6)
     clear hx;go_wp2;go_round
     case rel=>exact⟨k - 1,by omega,by congr 1;omega,HZ⟩
     case measure=>simp[intOf];omega
    ·have HR:Hid (zAf w (.slice (some ⟨blk,off,none⟩) k k) (zDY l)):=zz (by
      have:=zAf.take (n:=k) (cap:=k) hf h3 H4.out (by rw[<-HM.out];omega) (zQ _) (by omega)
      rwa [zC6 l k hz.out (fun _=>hx)] at this)
     have hq:(((l.getD (k - 1) 0:Nat):Int) == 0)=false:=beq_eq_false_iff_ne.2 (by omega);generalize ((l.getD (k - 1) 0:Nat):Int)=q at hc hq;clear hx;go_wp2;go_ret;exact⟨rfl,_,rfl,HR.out⟩
def zAP(x:Nat):Value:=.int .u32 (x:Int)
def zAi(l:List Nat):Array Value:=(l.map zAP).toArray
theorem zAD(l:List Nat)(i:Nat)(h:i<l.length):(zAi l)[i]?=some (.int .u32 (l.getD i 0:Nat)):=by
 unfold zAi zAP;rw[zv,List.getElem?_map,zw,zZ h];rfl
theorem zAE(l:List Nat)(i:Nat)(x:Nat):(zAi l).setIfInBounds i (.int .u32 (x:Int))=zAi (l.set i x):=by
 unfold zAi;apply Array.ext_getElem?;intro j;rw[Array.getElem?_setIfInBounds,zv,zv,List.getElem?_map,List.getElem?_map,List.getElem?_set];by_cases h:i=j
 ·subst h;by_cases h2:i<l.length <;> simp[h2,zAP]
 ·simp[h]
theorem zGN(l:List Nat):(zAi l).size=l.length:=by simp[zAi]
theorem zDp(l:List Nat):∀ v ∈ l.map zAP,v.oneCell'=true:=by
 intro v hv;obtain⟨c,_,rfl⟩:=List.mem_map.1 hv;rfl
theorem zPW:(Tryz.prog.info? 139).map (fun i=>(i.zero,i.size,i.bytes))=some (some (.int .u32 0),1,4):=by kernel_rfl
theorem zEv:∃ i,Tryz.prog.info? 139=some i/\i.zero=some (.int .u32 0)/\i.size=1/\i.bytes=4:=by
 have hinfo:=zPW
 cases hq:Tryz.prog.info? 139 with
 | none=>rw[hq] at hinfo;cases hinfo
 | some i=>
  rw[hq] at hinfo;simp only[Option.map_some,Option.some.injEq,Prod.mk.injEq] at hinfo;exact⟨i,rfl,hinfo⟩
theorem zA2(w:World)(n:Nat)(hn:n<=34359738368):(Instr.makeSlice 26 (.int .i64 (n:Int)) (.int .i64 (n:Int))).run Tryz.prog w=.ok (.slice (some ⟨w.heap.size,0,none⟩) n n) (w.alloc (.cells (zAi (List.replicate n 0)) 139)):=by
 obtain⟨i,hi,hz,hsz,hby⟩:=zEv;have:=run_make (P:=Tryz.prog) w 26 139 i (.int .u32 0) Tryz.underlying26 hi hz .i64 .i64 (n:Int) (n:Int) (by omega) (by omega) (by rw[hby];omega) (by omega)
 have hc:madeCells (Value.int IntKind.u32 0).cells (n*1)=zAi (List.replicate n 0):=by
  apply Array.ext_getElem?;intro j;have hg:∀ l:List Nat,(zAi l)[j]?=(l.map zAP)[j]?:=fun l=>by unfold zAi;rw[zv]
  rw[hg,List.getElem?_map,List.getElem?_replicate];simp only[madeCells,Value.cells];by_cases hj:j<n
  ·simp[hj,Nat.mod_one];rfl
  ·simp[hj]
 rw[this,hsz,Int.toNat_natCast,hc]
theorem zCE{w:World}{k:Nat}{l:List Nat}(h:Blk w k (zAi l) 139)(hf:Fit l)(n cap:Nat)(hn:n<=l.length)(hc:n<=cap)(hcap:cap<=9223372036854775807):zAf w (.slice (some ⟨k,0,none⟩) n cap) (l.take n):=
 zAf.take hf h.lt (fun i hi=>by rw[Nat.zero_add,h.cell,zAD l i hi]) hn hc hcap
def New(B:Nat)(v:Value):Prop:=∀ b o k c,v=.slice (some ⟨b,o,none⟩) k c->B<=b
theorem New.mono{B B':Nat}{v:Value}(h:New B v)(hB:B'<=B):New B' v:=fun b o k c e=>zJ hB (h b o k c e)
theorem New.none(B n c:Nat):New B (.slice none n c):=fun b o k c e=>by simp at e
theorem zBi(w:World)(v:Value)(l:List Nat)(h:zAf w v l)(hl:l.length<=34359738368):
  Calls Tryz.prog 88 #[v] w fun e w'=>Below w.heap.size w w'/\∃ v',e=.returned v'/\zAf w' v' (zDY l)/\New w.heap.size v':=by
 have HC:=zz (zAC w v l h);clear h;go_enter Tryz.func88,Tryz.ntmps88
 go_wp2_with fail
 refine HC.out.mono ?_;rintro e w1 ⟨rfl,v1,rfl,h1⟩;obtain⟨hf,hv⟩:=h1;obtain⟨T,hT⟩:∃ T,T=zDY l:=⟨_,rfl⟩;have hn:T.length<=34359738368:=by rw[hT,zAG];have:=zBT l;omega
 rw[<-hT] at hf hv;have HT:=zz hT;clear hT hl;have hmk:=zA2 w1 T.length hn;have hB:=Blk.new w1 (zAi (List.replicate T.length 0)) 139;have hb:Below w1.heap.size w1 (w1.alloc (.cells (zAi (List.replicate T.length 0)) 139)):=(zK _ _).alloc (zQ _) _
 obtain⟨b,cap,rfl⟩:∃ b cap,v1=.slice b T.length cap:=by
  rcases hv with ⟨⟨p,rfl⟩,rfl⟩|⟨blk,off,cap,rfl,_⟩ <;> exact⟨_,_,rfl⟩
 have HV:=zz hv;clear hv;go_upto_region 3 with fail
 clear hmk;generalize w1.alloc (.cells (zAi (List.replicate T.length 0)) 139)=w2 at hB hb ⊢;refine wp_region_lit ?_;iterate 6 go_step
 refine wpList_copy_splice rfl (.tmp 9) (.tmp 10) 26 26 rfl 139 Tryz.underlying26 (by kernel_rfl) (some ⟨w1.heap.size,0,none⟩) b T.length T.length T.length cap rfl rfl w1.heap.size 0 ((List.replicate T.length 0).map zAP) 139 hB (T.map zAP) (by simp) ?_ (by simp) (zDp _) w1.heap.size w1 hb (zQ _) ?_
 ·intro h0;refine⟨rfl,?_⟩;rcases HV.out with ⟨h,h'⟩|⟨blk,off,cap',h,h1,h2,h3,h4⟩
  ·rw[h'] at h0;simp at h0
  ·simp only[Value.slice.injEq] at h;obtain⟨rfl,-,rfl⟩:=h;refine⟨_,rfl,fun j u hj=>?_⟩;rw[List.getElem?_map] at hj
   have hjl:j<T.length:=by
    rcases Nat.lt_or_ge j T.length with h|h
    ·exact h
    ·rw[List.getElem?_eq_none h] at hj;cases hj
   rw[zZ hjl] at hj;have hadd:(⟨blk,off,none⟩:Addr).add j=⟨blk,off+j,none⟩:=by unfold Addr.add;split <;> simp_all
   rw[hadd,hb.cell (p:=⟨blk,off+j,none⟩) h3,h4 j hjl,zw,zZ hjl];exact hj
 ·intro w3 hB3 hb3
  have hfin:Blk w3 w1.heap.size (zAi T) 139:=by
   have:=hB3.out;have e:splice ((List.replicate T.length 0).map zAP) 0 (T.map zAP)=T.map zAP:=by simp[splice]
   rw[e] at this;exact this
  have HF:=zz (zCE hfin hf T.length T.length (zQ _) (zQ _) (by omega));clear hB3 hB hb hfin;go_wp2;go_ret;refine⟨hb3,_,rfl,?_,fun b o k c e=>by simp at e;omega⟩;have:=HF.out;rw[List.take_of_length_le (zQ _)] at this;rw[<-HT.out];exact this
end Go.Proofs.YtcanfakaigpkgaaGreatDoor.D
namespace Go.Proofs.YtcanfakaigpkgaaGreatDoor.D
open Go Go.RowKit
theorem zNX(a:Nat):(BitVec.ofInt 64 (a:Int))=BitVec.ofNat 64 a:=by
 apply BitVec.eq_of_toNat_eq;simp
theorem zQB(a:Nat):(BitVec.ofInt 32 (a:Int))=BitVec.ofNat 32 a:=by
 apply BitVec.eq_of_toNat_eq;simp
theorem zJM(a b:Nat)(ha:a<18446744073709551616)(hb:b<18446744073709551616):bits .or .u64 (a:Int) (b:Int)=((a ||| b:Nat):Int):=by
 have:bits .or .u64 (a:Int) (b:Int)=IntKind.u64.wrap (((BitVec.ofInt 64 (a:Int)) ||| (BitVec.ofInt 64 (b:Int)):BitVec 64).toNat:Int):=by rfl
 rw[this,zNX,zNX,BitVec.toNat_or,BitVec.toNat_ofNat,BitVec.toNat_ofNat,Nat.mod_eq_of_lt ha,Nat.mod_eq_of_lt hb];have h:=Nat.or_lt_two_pow (x:=a) (y:=b) (n:=64) ha hb;rw[IntKind.wrap_u64];omega
theorem zM9(a b:Nat)(ha:a<4294967296)(hb:b<4294967296):bits .or .u32 (a:Int) (b:Int)=((a ||| b:Nat):Int):=by
 have:bits .or .u32 (a:Int) (b:Int)=IntKind.u32.wrap (((BitVec.ofInt 32 (a:Int)) ||| (BitVec.ofInt 32 (b:Int)):BitVec 32).toNat:Int):=by rfl
 rw[this,zQB,zQB,BitVec.toNat_or,BitVec.toNat_ofNat,BitVec.toNat_ofNat,Nat.mod_eq_of_lt ha,Nat.mod_eq_of_lt hb];have h:=Nat.or_lt_two_pow (x:=a) (y:=b) (n:=32) ha hb;rw[IntKind.wrap_u32];omega
theorem zDE(a b:Nat)(ha:a<18446744073709551616)(hb:b<18446744073709551616):bits .and .u64 (a:Int) (b:Int)=((a &&& b:Nat):Int):=by
 have:bits .and .u64 (a:Int) (b:Int)=IntKind.u64.wrap (((BitVec.ofInt 64 (a:Int)) &&& (BitVec.ofInt 64 (b:Int)):BitVec 64).toNat:Int):=by rfl
 rw[this,zNX,zNX,BitVec.toNat_and,BitVec.toNat_ofNat,BitVec.toNat_ofNat,Nat.mod_eq_of_lt ha,Nat.mod_eq_of_lt hb];have h:=Nat.and_lt_two_pow (x:=a) (y:=b) (n:=64) hb;rw[IntKind.wrap_u64];omega
theorem zFX(a b k:Nat)(ha:a<2 ^ k):a ||| (b*2 ^ k)=a+b*2 ^ k:=by
 rw[Nat.or_comm,<-Nat.shiftLeft_eq,<-Nat.shiftLeft_add_eq_or_of_lt ha];omega
theorem zEW(a b k:Nat)(ha:a<2 ^ k)(hb:a+b*2 ^ k<18446744073709551616):bits .or .u64 (a:Int) ((b*2 ^ k:Nat):Int)=((a+b*2 ^ k:Nat):Int):=by
 rw[zJM a _ (by omega) (by omega),zFX a b k ha]
section
variable {P:Program} {ops:Array Oper} {Q:Exit->Act->World->Prop} {md:Region.Mode} {S:Array Bool->World->Prop}
def zBU(P:Program)(md:Region.Mode)(ops:Array Oper)(Q:Exit->Act->World->Prop)(S:Array Bool->World->Prop):Nat->Array Bool->Act->World->Prop
 | 0,u,a,w=>Region.ready md ops u=[]/\Q .normal a w
 | n+1,u,a,w=>(Region.ready md ops u=[]->Q .normal a w) /\
  ∀ i ∈ Region.ready md ops u,wpOp P ops Q i (fun a' w'=>S (u.setIfInBounds i true) w'/\zBU P md ops Q S n (u.setIfInBounds i true) a' w') a w
theorem zEP:∀ (n:Nat) (u:Array Bool) (a:Act) (w:World),zBU P md ops Q S n u a w->wpAny P md ops Q n u a w
 | 0,_,_,_,h=>h
 | n+1,_,_,_,h=>⟨h.1,fun i hi=>wpOp_mono (fun a' w' h'=>zEP n _ a' w' h'.2) (h.2 i hi)⟩
theorem zDb{id:Nat}{a:Act}{w:World}(hm:P.follows .mixedOrders=true)(h:zBU P .any ops Q S ops.size (Array.replicate ops.size false) a w.drew):(Code.region id ops true).wp P Q a w:=
 wp_region_any hm (zEP _ _ _ _ h)
theorem zK7{i:Nat}{oi:Oper}{v:Value}{T:World->Prop}{D:Array Bool->Prop}(hi:ops[i]?=some oi)(hsel:∀ (j:Nat) (o:Oper) cs b,ops[j]?=some o->o.op≠.select cs b)
  (hQ:∀ c a w,Q (.panic c) (a.put oi.dst v) w->Q (.panic c) a w)
  (hA:∀ u w,S (u.setIfInBounds i true) w->S u w) (hT:∀ u w,D u->S u w->T w)
  (hD:∀ u j,D u->i ∈ Region.ready md ops u->j ∈ Region.ready md ops u->j≠i->D (u.setIfInBounds j true)) :
  ∀ (n:Nat) (u:Array Bool) (a:Act) (w:World),
   (∀ j oj,ops[j]?=some oj->j≠i->u.getD j true=false->(∀ e ∈ oj.after,Region.binds md e=true->e.on≠i)->oi.apart ops oj=true) ->
   i ∈ Region.ready md ops u->YieldsIf P ops T oi v a->D u->S u w ->
   zBU P md ops Q S n (u.setIfInBounds i true) (a.put oi.dst v) w->S (u.setIfInBounds i true) w->zBU P md ops Q S (n+1) u a w:=by
 intro n
 induction n with
 | zero=>
  intro u a w _ hr hy hd hS H hS2;refine⟨fun h=>(by rw[h] at hr;cases hr),fun j hj=>?_⟩;by_cases hji:j=i
  ·rw[hji];exact hy.wpOp hi (hT _ _ hd hS) ⟨hS2,H⟩
  ·have h3:=ready_mono hj hji;rw[H.1] at h3
   cases h3
 | succ n ih=>
  intro u a w hfree hr hy hd hS H hS2;refine⟨fun h=>(by rw[h] at hr;cases hr),fun j hj=>?_⟩;by_cases hji:j=i
  ·rw[hji];exact hy.wpOp hi (hT _ _ hd hS) ⟨hS2,H⟩
  ·obtain⟨hjun,oj,hoj,hall⟩:=mem_ready.1 hj
   have hun:∀ e ∈ oj.after,Region.binds md e=true->e.on≠i:=by
    intro e he hb heq;have h4:=hall e he hb;have h5:=(mem_ready.1 hr).1;rw[heq] at h4;rcases Nat.lt_or_ge i u.size with h6|h6
    ·simp[h6] at h4 h5;rw[h4] at h5;cases h5
    ·simp[Array.getElem?_eq_none h6] at h4
   have h1:=wpOp_putIf hoj (hfree j oj hoj hji hjun hun) (fun cs b=>hsel i oi cs b hi) (fun cs b=>hsel j oj cs b hoj) hQ hy (H.2 j (ready_mono hj hji))
   have hfree2:∀ k ok,ops[k]?=some ok->k≠i->(u.setIfInBounds j true).getD k true=false->(∀ e ∈ ok.after,Region.binds md e=true->e.on≠i)->oi.apart ops ok=true:=by
    intro k ok hk hki hku hno;by_cases hjk:j=k
    ·subst hjk;exact hfree j ok hk hki hjun hno
    ·rw[Go.getD_set_ne true hjk] at hku;exact hfree k ok hk hki hku hno
   refine wpOp_mono (fun a' w' h3=>?_) h1;obtain⟨hy2,hSS,hW⟩:=h3;rw[Array.setIfInBounds_comm _ _ (Ne.symm hji)] at hSS hW;exact⟨hA _ _ hSS,ih _ a' w' hfree2 (ready_mono hr (Ne.symm hji)) hy2 (hD u j hd hr hj hji) (hA _ _ hSS) hW hSS⟩
theorem zAp{i:Nat}{oi:Oper}{v:Value}{n:Nat}{u:Array Bool}{a:Act}{w:World}{d:Option Nat}(hd:oi.dst=d)(hi:ops[i]?=some oi)(hs:Region.noSelect ops=true)(hf:Region.free md ops u i=true)(hr:(Region.ready md ops u).contains i=true)
  (hQ:∀ c a w,Q (.panic c) (a.put oi.dst v) w->Q (.panic c) a w) (hA:∀ u w,S (u.setIfInBounds i true) w ↔ S u w)
  (hy:YieldsIf P ops (fun _=>True) oi v a) (hS:S u w)
  (h:S (u.setIfInBounds i true) w->zBU P md ops Q S n (u.setIfInBounds i true) (a.put d v) w):zBU P md ops Q S (n+1) u a w:=by
 subst hd;exact zK7 (T:=fun _=>True) (D:=fun _=>True) hi (Region.noSelect_spec hs) hQ (fun u w h=>(hA u w).1 h) (fun _ _ _ _=>trivial) (fun _ _ _ _ _ _=>trivial) n u a w (Region.free_spec hi hf) (by simpa using hr) hy trivial hS (h ((hA u w).2 hS)) ((hA u w).2 hS)
theorem zDT{i k:Nat}{oi ok:Oper}{v:Value}{T:World->Prop}{n:Nat}{u:Array Bool}{a:Act}{w:World}{d:Option Nat}(hd:oi.dst=d)(hi:ops[i]?=some oi)(hk:ops[k]?=some ok)(hw:(ok.after.any fun e=>Region.binds md e && e.on == i)=true)(hku:u.getD k true=false)
  (hs:Region.noSelect ops=true) (hf:Region.free md ops u i=true) (hr:(Region.ready md ops u).contains i=true)
  (hQ:∀ c a w,Q (.panic c) (a.put oi.dst v) w->Q (.panic c) a w) (hA:∀ u w,S (u.setIfInBounds i true) w ↔ S u w) (hT:∀ u w,u.getD k true=false->S u w->T w)
  (hy:YieldsIf P ops T oi v a) (hS:S u w)
  (h:S (u.setIfInBounds i true) w->zBU P md ops Q S n (u.setIfInBounds i true) (a.put d v) w):zBU P md ops Q S (n+1) u a w:=by
 subst hd;refine zK7 (T:=T) (D:=fun u=>u.getD k true=false) hi (Region.noSelect_spec hs) hQ (fun u w h=>(hA u w).1 h) hT ?_ n u a w (Region.free_spec hi hf) (by simpa using hr) hy hku hS (h ((hA u w).2 hS)) ((hA u w).2 hS);intro u j hD hir hjr hji
 have hjk:j≠k:=by
  rintro rfl;obtain⟨_,oj,hoj,hall⟩:=mem_ready.1 hjr;obtain rfl:oj=ok:=Option.some.inj (hoj.symm.trans hk);obtain⟨e,he,hb⟩:=Array.any_eq_true'.1 hw;simp only[Bool.and_eq_true,beq_iff_eq] at hb;have h4:=hall e he hb.1;have h5:=(mem_ready.1 hir).1;rw[hb.2] at h4;rcases Nat.lt_or_ge i u.size with h6|h6
  ·simp[h6] at h4 h5;rw[h4] at h5;cases h5
  ·simp[Array.getElem?_eq_none h6] at h4
 show (u.setIfInBounds j true).getD k true=false;rw[Go.getD_set_ne true hjk];exact hD
theorem zBr{i:Nat}{o:Oper}{n:Nat}{u:Array Bool}{a:Act}{w:World}(hr:Region.ready md ops u=[i])(ho:ops[i]?=some o)
  (h:∀ K':Act->World->Prop,Shut (∀ a w,S (u.setIfInBounds i true) w->(S (u.setIfInBounds i true) w->zBU P md ops Q S n (u.setIfInBounds i true) a w)->K' a w)->if Region.wanted o (yielded ops a.tmps)=true then Oper.wp P o a w K' Q else K' (a.put o.dst undef) w) :
  zBU P md ops Q S (n+1) u a w:=by
 refine⟨fun h0=>(by rw[hr] at h0;cases h0),fun j hj=>?_⟩;rw[hr] at hj;obtain rfl:j=i:=by simpa using hj
 exact wpOp_step ho (fun K' hK=>h K' (fun a w hS hW=>hK a w ⟨hS,hW hS⟩))
theorem zED{u:Array Bool}{a:Act}{w:World}(hr:Region.ready md ops u=[])(h:Q .normal a w):∀ n,zBU P md ops Q S n u a w
 | 0=>⟨hr,h⟩
 | _+1=>⟨fun _=>h,by rw[hr];simp⟩
end
end Go.Proofs.YtcanfakaigpkgaaGreatDoor.D
namespace Go.Proofs.YtcanfakaigpkgaaGreatDoor.D
open Go
def sM(s:Nat):Nat:=if s<4503599627370496 then s else 4503599627370496+s % 4503599627370496
def sK(s:Nat):Nat:=if s<4503599627370496 then 0 else s / 4503599627370496 - 1
def sU(s:Nat):Nat:=(2*sM s+1)*2 ^ sK s
theorem zJG(s:Nat):sU s<sU (s+1):=by
 unfold sU sM sK;by_cases h1:s+1<4503599627370496
 ·rw[if_pos (by omega),if_pos (by omega),if_pos h1,if_pos h1];omega
 ·by_cases h2:s<4503599627370496
  ·rw[if_pos h2,if_pos h2,if_neg h1,if_neg h1];obtain rfl:s=4503599627370495:=by omega
   decide
  ·rw[if_neg h2,if_neg h2,if_neg h1,if_neg h1];by_cases h3:s % 4503599627370496+1=4503599627370496
   ·have e1:(s+1) % 4503599627370496=0:=by omega
    have e2:(s+1) / 4503599627370496 - 1=(s / 4503599627370496 - 1)+1:=by omega
    have e3:s % 4503599627370496=4503599627370495:=by omega
    rw[e1,e2,e3,Nat.pow_succ];have:=Nat.two_pow_pos (s / 4503599627370496 - 1);generalize 2 ^ (s / 4503599627370496 - 1)=x at *;omega
   ·have e1:(s+1) % 4503599627370496=s % 4503599627370496+1:=by omega
    have e2:(s+1) / 4503599627370496=s / 4503599627370496:=by omega
    rw[e1,e2];have:=Nat.two_pow_pos (s / 4503599627370496 - 1);generalize 2 ^ (s / 4503599627370496 - 1)=x at *;exact Nat.mul_lt_mul_of_pos_right (by omega) this
theorem zQu{s t:Nat}(h:s<t):sU s<sU t:=by
 induction t with
 | zero=>omega
 | succ t ih=>
  rcases Nat.lt_or_ge s t with h1|h1
  ·exact Nat.lt_trans (ih h1) (zJG t)
  ·obtain rfl:s=t:=by omega
   exact zJG s
structure InI (E s a b:Nat):Prop where
 low:sU (s - 1)*b<=a*2 ^ E
 high:a*2 ^ E<=sU s*b
 odd:s % 2=1->sU (s - 1)*b<a*2 ^ E/\a*2 ^ E<sU s*b
theorem InI.lt{E s t a b:Nat}(hs:InI E s a b)(ht:InI E t a b)(hb:0<b)(h:s<t):False:=by
 have h1:=hs.high;have h2:=ht.low;have h3:=hs.odd;have h4:=ht.odd;generalize a*2 ^ E=x at *;rcases Nat.lt_or_ge s (t - 1) with h5|h5
 ·have:=(Nat.mul_lt_mul_right hb).2 (zQu h5);omega
 ·obtain rfl:s=t - 1:=by omega
  by_cases h6:(t - 1) % 2=1
  ·have:=(h3 h6).2;omega
  ·have:=(h4 (by omega)).1;omega
theorem InI.eq{E s t a b:Nat}(hs:InI E s a b)(ht:InI E t a b)(hb:0<b):s=t:=by
 rcases Nat.lt_trichotomy s t with h|h|h
 ·exact (hs.lt ht hb h).elim
 ·exact h
 ·exact (ht.lt hs hb h).elim
theorem zKP(s:Nat)(h:0<s):2*sU (s - 1)=(if 9007199254740992<=s/\s % 4503599627370496=0 then 4*sM s - 1 else 4*sM s - 2)*2 ^ sK s:=by
 unfold sU sM sK;by_cases h1:s<4503599627370496
 ·rw[if_pos (by omega),if_pos (by omega),if_neg (by omega),if_pos h1,if_pos h1];omega
 ·rw[if_neg h1,if_neg h1];by_cases h2:s - 1<4503599627370496
  ·obtain rfl:s=4503599627370496:=by omega
   decide
  ·rw[if_neg h2,if_neg h2];by_cases h3:s % 4503599627370496=0
   ·have e1:(s - 1) % 4503599627370496=4503599627370495:=by omega
    have e2:s / 4503599627370496 - 1=((s - 1) / 4503599627370496 - 1)+1:=by omega
    rw[if_pos (by omega),e1,e2,h3,Nat.pow_succ];generalize 2 ^ ((s - 1) / 4503599627370496 - 1)=x at *;omega
   ·have e1:s % 4503599627370496=(s - 1) % 4503599627370496+1:=by omega
    have e2:(s - 1) / 4503599627370496=s / 4503599627370496:=by omega
    rw[if_neg (by omega),e2,<-Nat.mul_assoc];congr 1;omega
theorem InI.whole{E s a:Nat}(h:InI E s a 1)(hs:0<s)(hk:sK s<E):a*2 ^ E=2*sM s*2 ^ sK s:=by
 have h1:=h.low;have h2:=h.high;have h3:=zKP s hs;rw[Nat.mul_one] at h1 h2;unfold sU at h2;have e1:(2:Nat) ^ E=2 ^ (sK s)*2 ^ (E - sK s):=by rw[<-Nat.pow_add];congr 1;omega
 obtain⟨j,hj⟩:∃ j,(2:Nat) ^ (E - sK s)=2*j:=⟨2 ^ (E - sK s - 1),by rw[<-Nat.pow_succ'];congr 1;omega⟩;rw[e1,hj] at h1 h2 ⊢;have hx:=Nat.two_pow_pos (sK s);generalize 2 ^ sK s=x at *;have e2:a*(x*(2*j))=(2*(a*j))*x:=by rw[Nat.mul_comm x,<-Nat.mul_assoc,<-Nat.mul_assoc,Nat.mul_comm a 2,Nat.mul_assoc 2 a j]
 rw[e2] at h1 h2 ⊢;congr 1;have h4:2*(a*j)<=2*sM s+1:=Nat.le_of_mul_le_mul_right h2 hx
 have h5:(4*sM s - 2)*x<=2*sU (s - 1):=by
  rw[h3]
  split
  ·exact Nat.mul_le_mul_right x (by omega)
  ·exact zQ _
 have h6:(4*sM s - 2)*x<=(4*(a*j))*x:=by
  have:2*sU (s - 1)<=2*(2*(a*j)*x):=Nat.mul_le_mul_left 2 h1;have e3:2*(2*(a*j)*x)=4*(a*j)*x:=by rw[<-Nat.mul_assoc,<-Nat.mul_assoc]
  omega
 have h7:4*sM s - 2<=4*(a*j):=Nat.le_of_mul_le_mul_right h6 hx;omega
end Go.Proofs.YtcanfakaigpkgaaGreatDoor.D
