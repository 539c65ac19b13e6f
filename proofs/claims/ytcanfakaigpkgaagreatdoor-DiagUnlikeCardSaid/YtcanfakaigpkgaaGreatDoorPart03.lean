/-
  Of the proof that the law DiagUnlike answers true at every two values: a part, without conditions of its own.
-/
import Derived.Test.YtcanfakaigpkgaaGreatDoorPart02
import Derived.Test.YtcanfakaigpkgaaGreatDoorPart01
import Derived.Laws.RangeString
set_option linter.unusedVariables false
set_option linter.unusedSimpArgs false
set_option maxRecDepth 100000
set_option maxHeartbeats 8000000
namespace Go.Proofs.YtcanfakaigpkgaaGreatDoor.D
open Go Go.RowKit
def zBD:ByteArray:=⟨#[48,49,50,51,52,53,54,55,56,57,97,98,99,100,101,102]⟩
theorem zCH(w:World)(s:ByteArray)(k:Nat):Below w.heap.size w (w.iter s k):=(zK _ _).alloc (zQ _) _
theorem zJP(w:World):Calls Tryz.prog 167 #[.string ⟨#[48,49,50,51,52,53,54,55,56,57,97,98,99,100,101,102]⟩,.int .u8 48] w fun r w'=>r=.returned (.int .i64 0)/\Below w.heap.size w w':=by
 have n0:∀ ty,(Instr.next (.pointer (some ⟨w.heap.size,0,none⟩)) true ty).run Tryz.prog (w.iter zBD 0)=.ok (.tuple #[.bool true,.int .i64 0,.int .i32 48]) (w.iter zBD 1):=fun ty=>run_next_ascii w zBD 0 ty (by decide) (by decide)
 change Calls _ _ #[.string zBD,_] _ _;go_enter Tryz.func167,Tryz.ntmps167
 go_wp2;refine wp_loop_rounds 1 ?_;rw[rounds_succ];go_wp2;go_ret;exact⟨rfl,zCH _ _ _⟩
theorem zIo(w:World):Calls Tryz.prog 167 #[.string ⟨#[48,49,50,51,52,53,54,55,56,57,97,98,99,100,101,102]⟩,.int .u8 102] w fun r w'=>r=.returned (.int .i64 15)/\Below w.heap.size w w':=by
 have n0:∀ ty,(Instr.next (.pointer (some ⟨w.heap.size,0,none⟩)) true ty).run Tryz.prog (w.iter zBD 0)=.ok (.tuple #[.bool true,.int .i64 0,.int .i32 48]) (w.iter zBD 1):=fun ty=>run_next_ascii w zBD 0 ty (by decide) (by decide)
 have n1:∀ ty,(Instr.next (.pointer (some ⟨w.heap.size,0,none⟩)) true ty).run Tryz.prog (w.iter zBD 1)=.ok (.tuple #[.bool true,.int .i64 1,.int .i32 49]) (w.iter zBD 2):=fun ty=>run_next_ascii w zBD 1 ty (by decide) (by decide)
 have n2:∀ ty,(Instr.next (.pointer (some ⟨w.heap.size,0,none⟩)) true ty).run Tryz.prog (w.iter zBD 2)=.ok (.tuple #[.bool true,.int .i64 2,.int .i32 50]) (w.iter zBD 3):=fun ty=>run_next_ascii w zBD 2 ty (by decide) (by decide)
 have n3:∀ ty,(Instr.next (.pointer (some ⟨w.heap.size,0,none⟩)) true ty).run Tryz.prog (w.iter zBD 3)=.ok (.tuple #[.bool true,.int .i64 3,.int .i32 51]) (w.iter zBD 4):=fun ty=>run_next_ascii w zBD 3 ty (by decide) (by decide)
 have n4:∀ ty,(Instr.next (.pointer (some ⟨w.heap.size,0,none⟩)) true ty).run Tryz.prog (w.iter zBD 4)=.ok (.tuple #[.bool true,.int .i64 4,.int .i32 52]) (w.iter zBD 5):=fun ty=>run_next_ascii w zBD 4 ty (by decide) (by decide)
 have n5:∀ ty,(Instr.next (.pointer (some ⟨w.heap.size,0,none⟩)) true ty).run Tryz.prog (w.iter zBD 5)=.ok (.tuple #[.bool true,.int .i64 5,.int .i32 53]) (w.iter zBD 6):=fun ty=>run_next_ascii w zBD 5 ty (by decide) (by decide)
 have n6:∀ ty,(Instr.next (.pointer (some ⟨w.heap.size,0,none⟩)) true ty).run Tryz.prog (w.iter zBD 6)=.ok (.tuple #[.bool true,.int .i64 6,.int .i32 54]) (w.iter zBD 7):=fun ty=>run_next_ascii w zBD 6 ty (by decide) (by decide)
 have n7:∀ ty,(Instr.next (.pointer (some ⟨w.heap.size,0,none⟩)) true ty).run Tryz.prog (w.iter zBD 7)=.ok (.tuple #[.bool true,.int .i64 7,.int .i32 55]) (w.iter zBD 8):=fun ty=>run_next_ascii w zBD 7 ty (by decide) (by decide)
 have n8:∀ ty,(Instr.next (.pointer (some ⟨w.heap.size,0,none⟩)) true ty).run Tryz.prog (w.iter zBD 8)=.ok (.tuple #[.bool true,.int .i64 8,.int .i32 56]) (w.iter zBD 9):=fun ty=>run_next_ascii w zBD 8 ty (by decide) (by decide)
 have n9:∀ ty,(Instr.next (.pointer (some ⟨w.heap.size,0,none⟩)) true ty).run Tryz.prog (w.iter zBD 9)=.ok (.tuple #[.bool true,.int .i64 9,.int .i32 57]) (w.iter zBD 10):=fun ty=>run_next_ascii w zBD 9 ty (by decide) (by decide)
 have n10:∀ ty,(Instr.next (.pointer (some ⟨w.heap.size,0,none⟩)) true ty).run Tryz.prog (w.iter zBD 10)=.ok (.tuple #[.bool true,.int .i64 10,.int .i32 97]) (w.iter zBD 11):=fun ty=>run_next_ascii w zBD 10 ty (by decide) (by decide)
 have n11:∀ ty,(Instr.next (.pointer (some ⟨w.heap.size,0,none⟩)) true ty).run Tryz.prog (w.iter zBD 11)=.ok (.tuple #[.bool true,.int .i64 11,.int .i32 98]) (w.iter zBD 12):=fun ty=>run_next_ascii w zBD 11 ty (by decide) (by decide)
 have n12:∀ ty,(Instr.next (.pointer (some ⟨w.heap.size,0,none⟩)) true ty).run Tryz.prog (w.iter zBD 12)=.ok (.tuple #[.bool true,.int .i64 12,.int .i32 99]) (w.iter zBD 13):=fun ty=>run_next_ascii w zBD 12 ty (by decide) (by decide)
 have n13:∀ ty,(Instr.next (.pointer (some ⟨w.heap.size,0,none⟩)) true ty).run Tryz.prog (w.iter zBD 13)=.ok (.tuple #[.bool true,.int .i64 13,.int .i32 100]) (w.iter zBD 14):=fun ty=>run_next_ascii w zBD 13 ty (by decide) (by decide)
 have n14:∀ ty,(Instr.next (.pointer (some ⟨w.heap.size,0,none⟩)) true ty).run Tryz.prog (w.iter zBD 14)=.ok (.tuple #[.bool true,.int .i64 14,.int .i32 101]) (w.iter zBD 15):=fun ty=>run_next_ascii w zBD 14 ty (by decide) (by decide)
 have n15:∀ ty,(Instr.next (.pointer (some ⟨w.heap.size,0,none⟩)) true ty).run Tryz.prog (w.iter zBD 15)=.ok (.tuple #[.bool true,.int .i64 15,.int .i32 102]) (w.iter zBD 16):=fun ty=>run_next_ascii w zBD 15 ty (by decide) (by decide)
 change Calls _ _ #[.string zBD,_] _ _;go_enter Tryz.func167,Tryz.ntmps167
 go_wp2;refine wp_loop_rounds 16 ?_;rw[rounds_succ];go_wp2;rw[rounds_succ];go_wp2;rw[rounds_succ];go_wp2;rw[rounds_succ];go_wp2;rw[rounds_succ];go_wp2;rw[rounds_succ];go_wp2;rw[rounds_succ];go_wp2;rw[rounds_succ];go_wp2;rw[rounds_succ];go_wp2;rw[rounds_succ];go_wp2;rw[rounds_succ];go_wp2;rw[rounds_succ];go_wp2;rw[rounds_succ];go_wp2;rw[rounds_succ];go_wp2;rw[rounds_succ];go_wp2;rw[rounds_succ];go_wp2;go_ret;exact⟨rfl,zCH _ _ _⟩
end Go.Proofs.YtcanfakaigpkgaaGreatDoor.D
namespace Go.Proofs.YtcanfakaigpkgaaGreatDoor.D
open Go
theorem zIj{V A Y tb X tz T dm dp W:Nat}(hX:0<X)(hz:0<tz)(h1:T*2*Y=W*X)(h2:tb*dm=dp*tz)(h:V*(2*Y*tb)<=A*X*tz):V*dp*W<=A*T*dm:=by
 have h3:=Nat.mul_le_mul_right (T*dm) h;have e1:V*(2*Y*tb)*(T*dm)=V*dp*W*(X*tz):=by grind
 have e2:A*X*tz*(T*dm)=A*T*dm*(X*tz):=by grind
 rw[e1,e2] at h3;exact Nat.le_of_mul_le_mul_right h3 (Nat.mul_pos hX hz)
theorem zHD{V A Y tb X tz T dm dp W:Nat}(hX:0<X)(hz:0<tz)(h1:T*2*Y=W*X)(h2:tb*dm=dp*tz)(h:A*X*tz<=V*(2*Y*tb)):A*T*dm<=V*dp*W:=by
 have h3:=Nat.mul_le_mul_right (T*dm) h;have e1:V*(2*Y*tb)*(T*dm)=V*dp*W*(X*tz):=by grind
 have e2:A*X*tz*(T*dm)=A*T*dm*(X*tz):=by grind
 rw[e1,e2] at h3;exact Nat.le_of_mul_le_mul_right h3 (Nat.mul_pos hX hz)
theorem zHV{V A Y tb X tz T dm dp W:Nat}(hT:0<T)(hm:0<dm)(h1:T*2*Y=W*X)(h2:tb*dm=dp*tz)(h:V*(2*Y*tb)<A*X*tz):V*dp*W<A*T*dm:=by
 have h3:=Nat.mul_lt_mul_of_pos_right h (Nat.mul_pos hT hm);have e1:V*(2*Y*tb)*(T*dm)=V*dp*W*(X*tz):=by grind
 have e2:A*X*tz*(T*dm)=A*T*dm*(X*tz):=by grind
 rw[e1,e2] at h3;exact Nat.lt_of_mul_lt_mul_right h3
theorem zH9{V A Y tb X tz T dm dp W:Nat}(hT:0<T)(hm:0<dm)(h1:T*2*Y=W*X)(h2:tb*dm=dp*tz)(h:A*X*tz<V*(2*Y*tb)):A*T*dm<V*dp*W:=by
 have h3:=Nat.mul_lt_mul_of_pos_right h (Nat.mul_pos hT hm);have e1:V*(2*Y*tb)*(T*dm)=V*dp*W*(X*tz):=by grind
 have e2:A*X*tz*(T*dm)=A*T*dm*(X*tz):=by grind
 rw[e1,e2] at h3;exact Nat.lt_of_mul_lt_mul_right h3
def zBb(s:Nat):Prop:=9007199254740992<=s/\s % 4503599627370496=0
instance (s:Nat):Decidable (zBb s):=inferInstanceAs (Decidable (_/\_))
def zBV(s:Nat):Nat:=if zBb s then 4 else 2
def zFy(s:Nat):Nat:=if zBb s then 2 else 1
theorem zFW{s:Nat}(h:0<s):0<sM s:=by unfold sM;split <;> omega
structure zQA (s X Y tb tz V:Nat):Prop where
 high:V*(zBV s*Y*tb)<=(sM s*zBV s+zFy s)*X*tz
 low:sM s*zBV s*X*tz<=V*(zBV s*Y*tb)+X*tz
 odd:s % 2=1->V*(zBV s*Y*tb)<(sM s*zBV s+zFy s)*X*tz/\sM s*zBV s*X*tz<V*(zBV s*Y*tb)+X*tz
theorem zPQ{E s a b K V:Nat}(hs:0<s)(hE:0<E)(h:zQA s (2 ^ (sK s - (E - 1))) (2 ^ (E - 1 - sK s)) (10 ^ b) (10 ^ (a+K)) V):
  InI E s (V*10 ^ (b - (a+K))) (10 ^ (a+K - b)):=by
 have hM:=zFW hs
 have h1:2 ^ sK s*2*2 ^ (E - 1 - sK s)=2 ^ E*2 ^ (sK s - (E - 1)):=by
  rw[<-Nat.pow_succ,<-Nat.pow_add,<-Nat.pow_add];congr 1;omega
 have h2:10 ^ b*10 ^ (a+K - b)=10 ^ (b - (a+K))*10 ^ (a+K):=by
  rw[<-Nat.pow_add,<-Nat.pow_add];congr 1;omega
 have hX:0<2 ^ (sK s - (E - 1)):=Nat.two_pow_pos _;have hT:0<2 ^ sK s:=Nat.two_pow_pos _;have hz:0<10 ^ (a+K):=Nat.pow_pos (by omega);have hm:0<10 ^ (a+K - b):=Nat.pow_pos (by omega);have hU:=zKP s hs;have hUs:sU s=(2*sM s+1)*2 ^ sK s:=rfl;obtain⟨i1,i2,i3⟩:=h;generalize 2 ^ (sK s - (E - 1))=X at *;generalize 2 ^ (E - 1 - sK s)=Y at *;generalize 2 ^ sK s=T at *;obtain⟨W,hW⟩:∃ W,W=2 ^ E:=⟨_,rfl⟩;rw[<-hW] at h1;generalize 10 ^ b=tb at *;generalize 10 ^ (a+K)=tz at *;generalize 10 ^ (a+K - b)=dm at *;generalize 10 ^ (b - (a+K))=dp at *;simp only[zBV,zFy] at i1 i2 i3;obtain⟨m,hM1⟩:∃ m,sM s=m+1:=⟨sM s - 1,by omega⟩;rw[hM1] at i1 i2 i3 hU hUs;have g1:V*(4*Y*tb)=2*(V*(2*Y*tb)):=by grind
 have g2:((m+1)*4+2)*X*tz=2*((2*(m+1)+1)*X*tz):=by grind
 have g3:(m+1)*4*X*tz=(4*m+3)*X*tz+X*tz:=by grind
 have g4:(m+1)*2*X*tz=(2*m+1)*X*tz+X*tz:=by grind
 have g5:((m+1)*2+1)*X*tz=(2*(m+1)+1)*X*tz:=by grind
 have g6:2*V*(2*Y*tb)=2*(V*(2*Y*tb)):=by grind
 have g7:2*V*dp*W=2*(V*dp*W):=by grind
 by_cases he:zBb s
 ·simp only[if_pos he] at i1 i2 i3;unfold zBb at he;rw[if_pos he,show 4*(m+1) - 1=4*m+3 by omega] at hU;have k1:2*(sU (s - 1)*dm)=(4*m+3)*T*dm:=by rw[<-Nat.mul_assoc,hU]
  have hh:=zIj (V:=V) (A:=2*(m+1)+1) (T:=T) (dm:=dm) (W:=W) hX hz h1 h2 (by omega);have hl:=zHD (V:=2*V) (A:=4*m+3) (T:=T) (dm:=dm) (W:=W) hX hz h1 h2 (by omega);refine⟨by rw[<-hW];omega,by rw[<-hW,hUs];exact hh,fun ho=>?_⟩;have j1:=(i3 ho).1;have j2:=(i3 ho).2;have hh':=zHV (V:=V) (A:=2*(m+1)+1) (T:=T) (dm:=dm) (W:=W) hT hm h1 h2 (by omega);have hl':=zH9 (V:=2*V) (A:=4*m+3) (T:=T) (dm:=dm) (W:=W) hT hm h1 h2 (by omega);exact⟨by rw[<-hW];omega,by rw[<-hW,hUs];exact hh'⟩
 ·simp only[if_neg he] at i1 i2 i3;unfold zBb at he;rw[if_neg he,show 4*(m+1) - 2=2*(2*m+1) by omega] at hU;have k1:2*(sU (s - 1)*dm)=2*((2*m+1)*T*dm):=by rw[<-Nat.mul_assoc,hU];grind
  have hh:=zIj (V:=V) (A:=2*(m+1)+1) (T:=T) (dm:=dm) (W:=W) hX hz h1 h2 (by omega);have hl:=zHD (V:=V) (A:=2*m+1) (T:=T) (dm:=dm) (W:=W) hX hz h1 h2 (by omega);refine⟨by rw[<-hW];omega,by rw[<-hW,hUs];exact hh,fun ho=>?_⟩;have j1:=(i3 ho).1;have j2:=(i3 ho).2;have hh':=zHV (V:=V) (A:=2*(m+1)+1) (T:=T) (dm:=dm) (W:=W) hT hm h1 h2 (by omega);have hl':=zH9 (V:=V) (A:=2*m+1) (T:=T) (dm:=dm) (W:=W) hT hm h1 h2 (by omega);exact⟨by rw[<-hW];omega,by rw[<-hW,hUs];exact hh'⟩
def zBW:List Nat->Nat
 | []=>0
 | d :: ds=>d*10 ^ ds.length+zBW ds
def zDF(n l:Nat)(ev:Bool):Bool:=decide (n<l) || (decide (n=l) && ev)
def zBd(n d h:Nat)(ev:Bool):Bool:=decide (d<n+h) || (decide (n+h=d) && ev)
def zEJ(ev:Bool)(d:Nat):Nat->Nat->Nat->Nat->List Nat
 | 0,_,_,_=>[]
 | k+1,n,l,h=>
  if zDF (n*10 % d) (l*10) ev && zBd (n*10 % d) d (h*10) ev then
   [if d<n*10 % d*2 \/ (n*10 % d*2=d/\n*10 / d % 2=1) then n*10 / d+1 else n*10 / d]
  else if zDF (n*10 % d) (l*10) ev then [n*10 / d]
  else if zBd (n*10 % d) d (h*10) ev then [n*10 / d+1]
  else n*10 / d :: zEJ ev d k (n*10 % d) (l*10) (h*10)
theorem zFh{n l:Nat}{ev:Bool}(h:zDF n l ev=false):l<=n/\(ev=true->l<n):=by
 unfold zDF at h;simp only[Bool.or_eq_false_iff,Bool.and_eq_false_iff,decide_eq_false_iff_not] at h;obtain⟨h1,h2⟩:=h;refine⟨by omega,fun he=>?_⟩;rcases h2 with h2|h2
 ·omega
 ·rw[he] at h2;cases h2
theorem zM3{n l:Nat}{ev:Bool}(h:zDF n l ev=true):n<=l/\(ev=false->n<l):=by
 unfold zDF at h;simp only[Bool.or_eq_true,Bool.and_eq_true,decide_eq_true_eq] at h;rcases h with h|⟨h,he⟩
 ·exact⟨by omega,fun _=>h⟩
 ·exact⟨by omega,fun h'=>by rw[he] at h';cases h'⟩
theorem zCK{n d h:Nat}{ev:Bool}(hh:zBd n d h ev=false):n+h<=d/\(ev=true->n+h<d):=by
 unfold zBd at hh;simp only[Bool.or_eq_false_iff,Bool.and_eq_false_iff,decide_eq_false_iff_not] at hh;obtain⟨h1,h2⟩:=hh;refine⟨by omega,fun he=>?_⟩;rcases h2 with h2|h2
 ·omega
 ·rw[he] at h2;cases h2
theorem zGk{n d h:Nat}{ev:Bool}(hh:zBd n d h ev=true):d<=n+h/\(ev=false->d<n+h):=by
 unfold zBd at hh;simp only[Bool.or_eq_true,Bool.and_eq_true,decide_eq_true_eq] at hh;rcases hh with h|⟨h,he⟩
 ·exact⟨by omega,fun _=>h⟩
 ·exact⟨by omega,fun h'=>by rw[he] at h';cases h'⟩
structure zK6 (ev:Bool) (d n l h:Nat) (ds:List Nat):Prop where
 some_:ds≠[]
 dig:∀ x ∈ ds,x<=9
 high:zBW ds*d<=(n+h)*10 ^ ds.length
 low:n*10 ^ ds.length<=zBW ds*d+l*10 ^ ds.length
 odd:ev=false->zBW ds*d<(n+h)*10 ^ ds.length/\n*10 ^ ds.length<zBW ds*d+l*10 ^ ds.length
 last:zDF n l ev=false->ds.getLast?≠some 0
theorem zFk{ev:Bool}{d n l h q r x:Nat}(hl0:0<l)(hh0:0<h)(hq:n*10=d*q+r)(hr:r<d)(hno:zBd n d h ev=false)
  (hx:(x=q/\(zDF r (l*10) ev=true)) \/ (x=q+1/\zBd r d (h*10) ev=true)):zK6 ev d n l h [x]:=by
 obtain⟨n1,n2⟩:=zCK hno;have e1:zBW [x]=x:=by simp[zBW]
 have e2:(10:Nat) ^ [x].length=10:=by simp
 have hqd:q*d=d*q:=Nat.mul_comm _ _;have hqd1:(q+1)*d=d*q+d:=by rw[Nat.add_mul,hqd];omega
 have hq9:q<=9:=by
  rcases Nat.lt_or_ge 9 q with h9|h9
  ·have:d*10<=d*q:=Nat.mul_le_mul_left d h9;omega
  ·exact h9
 rcases hx with ⟨rfl,h1⟩|⟨rfl,h1⟩
 ·obtain⟨a1,a2⟩:=zM3 h1;refine⟨by simp,fun y hy=>by rw[List.mem_singleton.1 hy];exact hq9,by rw[e1,e2];omega,by rw[e1,e2];omega,fun he=>⟨by rw[e1,e2];omega,by rw[e1,e2];have:=a2 he;omega⟩,fun hl=>?_⟩;simp only[List.getLast?_singleton,ne_eq,Option.some.injEq];intro h0;subst h0;obtain⟨b1,b2⟩:=zFh hl
  cases ev with
  | false=>have:=a2 rfl;omega
  | true=>have:=b2 rfl;omega
 ·obtain⟨a1,a2⟩:=zGk h1
  have hq8:q+1<=9:=by
   rcases Nat.lt_or_ge q 9 with h9|h9
   ·omega
   ·exfalso
    obtain rfl:q=9:=by omega
    cases ev with
    | false=>have:=a2 rfl;omega
    | true=>have:=n2 rfl;omega
  refine⟨by simp,fun y hy=>by rw[List.mem_singleton.1 hy];exact hq8,by rw[e1,e2];omega,by rw[e1,e2];omega,fun he=>⟨by rw[e1,e2];have:=a2 he;omega,by rw[e1,e2];omega⟩,fun hl=>by simp⟩
theorem zL0{ev:Bool}{d n l h q r:Nat}{ds:List Nat}(hh0:0<h)(hq:n*10=d*q+r)(hno:zBd n d h ev=false)(hlo:zDF r (l*10) ev=false)(hds:zK6 ev d r (l*10) (h*10) ds):zK6 ev d n l h (q :: ds):=by
 obtain⟨n1,n2⟩:=zCK hno;obtain⟨i1,i2,i3,i4,i5,i6⟩:=hds
 have hq9:q<=9:=by
  rcases Nat.lt_or_ge 9 q with h9|h9
  ·have:d*10<=d*q:=Nat.mul_le_mul_left d h9;omega
  ·exact h9
 have e1:zBW (q :: ds)*d=d*q*10 ^ ds.length+zBW ds*d:=by simp only[zBW];grind
 have e2:(10:Nat) ^ (q :: ds).length=10*10 ^ ds.length:=by rw[List.length_cons,Nat.pow_succ,Nat.mul_comm]
 have e3:(n+h)*(10*10 ^ ds.length)=d*q*10 ^ ds.length+(r+h*10)*10 ^ ds.length:=by
  rw[<-Nat.mul_assoc,show (n+h)*10=d*q+(r+h*10) by omega,Nat.add_mul]
 have e4:n*(10*10 ^ ds.length)=d*q*10 ^ ds.length+r*10 ^ ds.length:=by
  rw[<-Nat.mul_assoc,hq,Nat.add_mul]
 have e5:l*(10*10 ^ ds.length)=l*10*10 ^ ds.length:=by rw[<-Nat.mul_assoc]
 refine⟨by simp,fun y hy=>?_,by rw[e1,e2,e3];omega,by rw[e1,e2,e4,e5];omega,fun he=>⟨by rw[e1,e2,e3];have:=(i5 he).1;omega,by rw[e1,e2,e4,e5];have:=(i5 he).2;omega⟩,fun _=>?_⟩
 ·rcases List.mem_cons.1 hy with rfl|hy
  ·exact hq9
  ·exact i2 y hy
 ·have:=i6 hlo;rw[List.getLast?_cons]
  cases hg:ds.getLast? with
  | none=>rw[List.getLast?_eq_none_iff] at hg;exact absurd hg i1
  | some z=>rw[hg] at this;simpa using this
theorem zNA{ev:Bool}{d:Nat}:∀ (k n l h:Nat),0<d->0<l->0<h->zBd n d h ev=false->zDF n l ev=false->d<=l*10 ^ k->zK6 ev d n l h (zEJ ev d k n l h)
 | 0,n,l,h,hd,hl,hh,hno,hlo,hk=>by
  exfalso
  have h1:=(zCK hno).1;have h2:=(zFh hlo).1
  omega
 | k+1,n,l,h,hd,hl,hh,hno,_,hk=>by
  have hq:n*10=d*(n*10 / d)+n*10 % d:=(Nat.div_add_mod _ _).symm;have hr:n*10 % d<d:=Nat.mod_lt _ hd;unfold zEJ;generalize n*10 / d=q at *;generalize n*10 % d=r at *;by_cases h1:zDF r (l*10) ev=true
  ·by_cases h2:zBd r d (h*10) ev=true
   ·rw[h1,h2];simp only[Bool.and_self,if_true]
    split
    ·exact zFk hl hh hq hr hno (.inr ⟨rfl,h2⟩)
    ·exact zFk hl hh hq hr hno (.inl ⟨rfl,h1⟩)
   ·rw[Bool.not_eq_true] at h2;rw[h1,h2];simp only[Bool.and_false,Bool.false_eq_true,if_false,if_true];exact zFk hl hh hq hr hno (.inl ⟨rfl,h1⟩)
  ·rw[Bool.not_eq_true] at h1;by_cases h2:zBd r d (h*10) ev=true
   ·rw[h1,h2];simp only[Bool.false_and,Bool.false_eq_true,if_false,if_true];exact zFk hl hh hq hr hno (.inr ⟨rfl,h2⟩)
   ·rw[Bool.not_eq_true] at h2;rw[h1,h2];simp only[Bool.false_and,Bool.false_eq_true,if_false];exact zL0 hh hq hno h1 (zNA k r (l*10) (h*10) hd (by omega) (by omega) h2 h1 (by rw[Nat.mul_assoc,<-Nat.pow_succ'];exact hk))
theorem zLx{ev:Bool}{d k n l h:Nat}(hlo:zDF n l ev=false)(hov:zBd (n*10) d (h*10) ev=true):(zEJ ev d k n l h).head?≠some 0:=by
 cases k with
 | zero=>simp[zEJ]
 | succ k=>
  unfold zEJ;by_cases hq:n*10 / d=0
  ·have hr:n*10 % d=n*10 \/ d=0:=by
    rcases Nat.eq_zero_or_pos d with h0|h0
    ·exact .inr h0
    ·exact .inl (Nat.mod_eq_of_lt ((Nat.div_eq_zero_iff_lt h0).1 hq))
   have hr':n*10 % d=n*10:=by
    rcases hr with h0|h0
    ·exact h0
    ·rw[h0,Nat.mod_zero]
   have h1:zDF (n*10) (l*10) ev=false:=by
    obtain⟨a1,a2⟩:=zFh hlo;unfold zDF
    cases ev with
    | false=>simp;omega
    | true=>have:=a2 rfl;simp;omega
   rw[hr',h1,hov,hq];simp
  ·generalize n*10 / d=q at *
   split
   ·split <;> simp[hq]
   ·split
    ·simp[hq]
    ·split
     ·simp
     ·simp[hq]
end Go.Proofs.YtcanfakaigpkgaaGreatDoor.D
