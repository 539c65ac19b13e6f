/-
  Of the proof that the law DiagUnlike answers true at every two values: a part, without conditions of its own.
-/
import Derived.Test.YtcanfakaigpkgaaGreatDoorPart05
import Derived.Laws.IdiomCopy
set_option linter.unusedVariables false
set_option linter.unusedSimpArgs false
set_option maxRecDepth 100000
set_option maxHeartbeats 8000000
namespace Go.Proofs.YtcanfakaigpkgaaGreatDoor.D
open Go Go.RowKit Limb
theorem zJE(b o j:Nat):(⟨b,o,none⟩:Addr).add j=⟨b,o+j,none⟩:=by unfold Addr.add;split <;> simp_all
theorem zGG(w:World)(v:Value)(l:List Nat)(n:Nat)(h:zAf w v l)(hl:l.length<=8589934592)(hn:n+zA7 (val l)<=8388608):
  Calls Tryz.prog 176 #[v,.int .i64 (n:Int)] w fun e w'=>Below w.heap.size w w'/\∃ v',e=.returned (.tuple #[v',.bool true])/\zAf w' v' (zAb (val l*2 ^ n)):=by
 have HC1:=zz (zAC w v l h);rw[zAv h.fit] at HC1;have hm1:(zAb (val l)).length<=8589934592:=by rw[<-zAv h.fit,zAG];have:=zBT l;omega
 have g0:¬ (n:Int)<0:=by omega
 clear h hl;generalize val l=x at *;by_cases hx:x=0
 ·subst hx;rw[Nat.zero_mul,zAn] at *;go_enter Tryz.func176,Tryz.ntmps176
  go_wp2_with fail
  refine HC1.out.mono ?_;rintro r w1 ⟨rfl,u1,rfl,hu1⟩;obtain⟨b1,c1,rfl⟩:=hu1.slice;clear hu1;go_wp2;go_ret2
  exact⟨zK _ _,_,rfl,zAf.nil _⟩
 ·have hp:=zAk hx;go_enter Tryz.func176,Tryz.ntmps176
  go_wp2_with fail
  refine HC1.out.mono ?_;rintro r w ⟨rfl,u1,rfl,hu1⟩;have HLEN:=zz (zBs w u1 _ hu1 (by omega));rw[zAe] at HLEN;obtain⟨hf,⟨_,hy⟩|⟨bk1,of1,c1,rfl,h1,h2,h3,h4⟩⟩:=hu1
  ·rw[hy] at hp;simp at hp
  obtain⟨m,hm⟩:∃ m,m=(zAb x).length:=⟨_,rfl⟩;obtain⟨d,hd⟩:∃ d,d=n / 32:=⟨_,rfl⟩;obtain⟨r,hr⟩:∃ r,r=n % 32:=⟨_,rfl⟩;obtain⟨N,hN⟩:∃ N,N=d+m+1:=⟨_,rfl⟩;have HM:=zz hm;have HH4:=zz h4;rw[<-hm] at hp hm1 HLEN ⊢;clear h4 hf HC1 hm;have q0:((m:Int) == 0)=false:=beq_eq_false_iff_ne.2 (by omega);have q1:IntKind.i64.wrap (8388608 - (zA7 x:Int))=8388608 - (zA7 x:Int):=zY _ (by omega);have q2:¬ (8388608 - (zA7 x:Int))<(n:Int):=by omega
  have q3:(n:Int).tdiv 32=(d:Int):=by rw[Int.tdiv_eq_ediv_of_nonneg (by omega)];omega
  have q4:(n:Int) / 32=(d:Int):=by omega
  have q5:IntKind.i64.wrap (d:Int)=(d:Int):=zY _ (by omega);have q6:IntKind.i64.wrap ((d:Int)+(m:Int))=(d:Int)+(m:Int):=zY _ (by omega);have q7:IntKind.i64.wrap ((d:Int)+(m:Int)+1)=(N:Int):=by rw[zY _ (by omega)];omega
  have q8:(n:Int).tmod 32=(r:Int):=by rw[Int.tmod_eq_emod_of_nonneg (by omega)];omega
  have q9:(n:Int) % 32=(r:Int):=by omega
  have hmk:=zA2 w N (by omega);have hB:=Blk.new w (zAi (List.replicate N 0)) 139;have hb:Below w.heap.size w (w.alloc (.cells (zAi (List.replicate N 0)) 139)):=(zK _ _).alloc (zQ _) _;have HD:=zz hd;have HR:=zz hr;have HNN:=zz hN;have hdN:(d:Int)<=(N:Int):=by omega
  have hNd:¬ N=d:=by omega
  have hNb:N<=8600000000:=by omega
  have hmd:m<=N - d:=by omega
  clear hd hr hN;go_wp2_with fail
  refine HLEN.out.mono ?_;rintro e w2 ⟨rfl,rfl⟩;clear HLEN;go_upto_region 9 with fail
  clear hmk;generalize w2.alloc (.cells (zAi (List.replicate N 0)) 139)=w3 at hB hb ⊢;refine wp_region_lit ?_;iterate 15 go_step
  refine wpList_copy_splice rfl (.tmp 34) (.tmp 35) 26 26 rfl 139 Tryz.underlying26 (by kernel_rfl) (some ⟨w2.heap.size,d,none⟩) (some ⟨bk1,of1,none⟩) (N - d) (N - d) m c1 rfl rfl w2.heap.size d ((List.replicate N 0).map zAP) 139 hB ((zAb x).map zAP) (by rw[List.length_map,HM.out.symm];exact (Nat.min_eq_left hmd).symm) ?_ (by rw[List.length_map,<-HM.out,List.length_map,List.length_replicate];omega) (zDp _) w2.heap.size w2 hb (zQ _) ?_
  ·intro _;refine⟨rfl,_,rfl,fun j u hj=>?_⟩;rw[List.getElem?_map] at hj
   have hjl:j<(zAb x).length:=by
    rcases Nat.lt_or_ge j (zAb x).length with h|h
    ·exact h
    ·rw[List.getElem?_eq_none h] at hj;cases hj
   rw[zZ hjl] at hj;rw[zJE,hb.cell (p:=⟨bk1,of1+j,none⟩) h3,HH4.out j hjl,zw,zZ hjl];exact hj
  ·intro w4 hB4 hb4;obtain⟨o,ho⟩:∃ o,o=List.replicate d 0 ++ (zAb x ++ [0]):=⟨_,rfl⟩
   have hB5:Blk w4 w2.heap.size (zAi o) 139:=by
    have:=hB4.out
    have e:splice ((List.replicate N 0).map zAP) d ((zAb x).map zAP)=o.map zAP:=by
     rw[ho,splice,<-List.map_take,<-List.map_drop,List.take_replicate,List.drop_replicate,List.length_map,<-HM.out,Nat.min_eq_left (by omega),show N - (d+m)=1 by have:=HNN.out;omega];simp
    rw[e] at this;exact this
   have hoL:o.length=N:=by rw[ho];simp;have:=HNN.out;have:=HM.out;omega
   have hoF:Fit o:=by
    rw[ho];intro y hy;rcases List.mem_append.1 hy with h|h
    ·have:=List.eq_of_mem_replicate h;omega
    ·rcases List.mem_append.1 h with h|h
     ·exact zAB x y h
     ·simp at h;omega
   have hoV:val o=4294967296 ^ d*x:=by rw[ho,zFZ,zAe]
   have hoE:(0 :: o).getLast?=some 0:=by rw[ho,<-List.append_assoc,<-List.cons_append,List.getLast?_append];simp
   have hTot:2 ^ r*val o=x*2 ^ n:=by
    have:=zLd n (zAb x);rw[zAe,<-HD.out,<-HR.out] at this;rw[hoV,this]
   have HOL:=zz hoL;have HOF:=zz hoF;have HOE:=zz hoE;have HT:=zz hTot;have HB5:=zz hB5;have HX5:=zz hb4;have hr32:r<32:=by have:=HR.out;omega
   clear hB hb hB4 hb4 ho hB5 hoL hoF hoV hoE hTot HH4 HM;go_upto_region 11 with fail
   by_cases hr0:r=0
   ·subst hr0;have hlim:=Blk.limbs HB5.out (n:=N) HOF.out HOL.out.symm (by omega);have HCT:=zz (zAC _ _ _ hlim);rw[zAv HOF.out,show val o=x*2 ^ n by have:=HT.out;rw[Nat.pow_zero,Nat.one_mul] at this;exact this] at HCT;clear hlim HB5;go_wp2_with fail
    refine HCT.out.mono ?_;rintro e w5 ⟨rfl,v3,rfl,h3⟩;have H3:=zz h3;clear h3;go_wp2;go_ret2
    exact⟨HX5.out,_,rfl,H3.out⟩
   ·have hr1:(0:Int)<(r:Int):=by omega
    go_upto_region 13 with fail
    go_loopw [7,8,43] (fun _ _ i wr=>∃ j:Nat,j<=N/\i=.int .i64 j/\Hid (Blk wr w2.heap.size (zAi (o.take (N - j) ++ (shL r 0 o).drop (N - j))) 139)/\Hid (Below w2.heap.size w2 wr)) (fun _ _ i _=>N - (intOf i).toNat)
    case atStart=>
     refine⟨0,by omega,rfl,zz ?_,HX5⟩;rw[Nat.sub_zero,List.take_of_length_le (by rw[HOL.out];exact zQ _),List.drop_of_length_le (by rw[zAL,HOL.out];exact zQ _),List.append_nil];exact HB5.out
    case round=>
     clear HB5 HX5;obtain⟨j,hj,rfl,HB,HX⟩:=hrel;by_cases h1:j<N
     ·obtain⟨k,hk⟩:∃ k,k=N - j - 1:=⟨_,rfl⟩;have hkl:k<o.length:=by have:=HOL.out;omega
      have hnk:N - j=k+1:=by omega
      rw[hnk] at HB;have g1:(j:Int)<(N:Int):=by omega
      have g2:IntKind.i64.wrap ((N:Int) - 1)=(N:Int) - 1:=zY _ (by omega);have g3:IntKind.i64.wrap ((N:Int) - 1 - (j:Int))=(k:Int):=by rw[zY _ (by omega)];omega
      have g4:(k:Int)<(N:Int):=by omega
      have hc:wr.cell? ⟨w2.heap.size,k,none⟩=some (.int .u32 ((o.getD k 0:Nat):Int)):=by
       rw[HB.out.cell,zAD _ _ (by simp;omega)];rw[zw,List.getElem?_append_left (by simp;omega),List.getElem?_take_of_lt (by omega),<-zw]
      have f0:wr.frozen? ⟨w2.heap.size,k,none⟩=false:=HB.out.free k;have HK:=zz hk;have HKL:=zz hkl;clear hk hnk hkl;have hSk:=zL8 r 0 o k HKL.out;have hol:=zAw HOF.out k HKL.out;obtain⟨A,hA⟩:∃ A,A=o.getD k 0*2 ^ r % 4294967296:=⟨_,rfl⟩;obtain⟨mm,hmm⟩:=zHs r (o.getD k 0) (by omega);rw[<-hA] at hmm hSk;have hA2:A<4294967296:=by rw[hA];exact Nat.mod_lt _ (by decide)
      have qa:((o.getD k 0:Nat):Int)*2 ^ r % 4294967296=(A:Int):=by rw[hA];simp
      have HL2:Hid (o.take k ++ (shL r 0 o).getD k 0 :: (shL r 0 o).drop (k+1)=o.take (N - (j+1)) ++ (shL r 0 o).drop (N - (j+1))):=zz (by
       have hk:=HK.out;rw[show N - (j+1)=k by omega,<-zCr _ _ (by rw[zAL];exact HKL.out)])
      have hB6:=HB.out.set k (.int .u32 (A:Int));rw[zAE,zOd _ _ _ _ HKL.out] at hB6;have HB6:=zz hB6;have HX6:=zz (HX.out.setCell (p:=⟨w2.heap.size,k,none⟩) (zQ _) (.int .u32 (A:Int)));clear hB6;by_cases hk0:k=0
      ·subst hk0;have hSA:(shL r 0 o).getD 0 0=A:=by rw[hSk];simp
       rw[hSA] at HL2;have HB7:Hid (Blk (wr.setCell ⟨w2.heap.size,0,none⟩ (.int .u32 (A:Int))) w2.heap.size (zAi (o.take (N - (j+1)) ++ (shL r 0 o).drop (N - (j+1)))) 139):=zz (by rw[<-HL2.out];exact HB6.out);generalize (o.getD 0 0:Nat)=X at hc qa;clear hSk hmm hA hA2 hSA HB6 HB HX hol;go_upto_region 16 with fail
       go_wp2_with fail
       go_roundw
       case rel=>exact⟨j+1,by omega,by simp,HB7,HX6⟩
       case measure=>simp[intOf];omega
      ·obtain⟨k1,hk1⟩:∃ k1,k1=k - 1:=⟨_,rfl⟩;have wk:IntKind.i64.wrap ((k:Int) - 1)=(k1:Int):=by rw[zY _ (by omega)];omega
       have gk:(0:Int)<(k:Int):=by omega
       have gk1:(k1:Int)<(N:Int):=by omega
       have HLL:Hid (k1<o.length/\k1<k):=zz (by have:=HKL.out;omega);rw[if_neg hk0,<-hk1] at hSk;obtain⟨t,ht⟩:∃ t,t=32 - r:=⟨_,rfl⟩;have wt:IntKind.i64.wrap (32 - (r:Int))=(t:Int):=by rw[zY _ (by omega)];omega
       have hyl:=zAw HOF.out k1 HLL.out.1;have hz:=zFH r (o.getD k1 0) (by omega) hyl;obtain⟨Z,hZ⟩:∃ Z,Z=o.getD k1 0 / 2 ^ (32 - r):=⟨_,rfl⟩;rw[<-hZ] at hSk hz;rw[<-ht] at hZ;have qz:((o.getD k1 0:Nat):Int) / 2 ^ t=(Z:Int):=by rw[hZ];simp
       have hZ2:Z<4294967296:=by rw[hZ];exact Nat.lt_of_le_of_lt (Nat.div_le_self _ _) hyl
       have qo:bits .or .u32 (A:Int) (Z:Int)=((A+Z:Nat):Int):=by
        rw[zM9 _ _ hA2 hZ2,hmm,Nat.or_comm,zFX _ _ r hz,Nat.add_comm]
       obtain⟨V,hV⟩:∃ V,V=A+Z:=⟨_,rfl⟩;rw[<-hV] at qo hSk;rw[hSk] at HL2;have qm:min t 32=t:=by omega
       have hc1:(wr.setCell ⟨w2.heap.size,k,none⟩ (.int .u32 (A:Int))).cell? ⟨w2.heap.size,k1,none⟩=some (.int .u32 ((o.getD k1 0:Nat):Int)):=by
        have h2:=HLL.out.2;have hkl:=HKL.out;rw[HB6.out.cell,zAD _ _ (by rw[List.length_append,List.length_take,List.length_cons];omega)];rw[zw,List.getElem?_append_left (by rw[List.length_take];omega),List.getElem?_take_of_lt (by omega),<-zw]
       have hc0:(wr.setCell ⟨w2.heap.size,k,none⟩ (.int .u32 (A:Int))).cell? ⟨w2.heap.size,k,none⟩=some (.int .u32 (A:Int)):=by
        have hkl:=HKL.out;rw[HB6.out.cell,zAD _ _ (by rw[List.length_append,List.length_take,List.length_cons];omega)];rw[zw,List.getElem?_append_right (by rw[List.length_take];omega),List.length_take,Nat.min_eq_left (by omega),Nat.sub_self];rfl
       have f6:(wr.setCell ⟨w2.heap.size,k,none⟩ (.int .u32 (A:Int))).frozen? ⟨w2.heap.size,k,none⟩=false:=HB6.out.free k;have hB7:=HB6.out.set k (.int .u32 (V:Int));rw[zAE,List.set_append_right _ _ (by simp;omega),List.length_take,Nat.min_eq_left (by have:=HKL.out;omega),Nat.sub_self,zq,HL2.out] at hB7;have HB7:=zz hB7.drew;have HX7:=zz ((HX6.out.setCell (p:=⟨w2.heap.size,k,none⟩) (zQ _) (.int .u32 (V:Int))).drew);generalize (o.getD k 0:Nat)=X at hc qa;generalize (o.getD k1 0:Nat)=Y at hc1 qz;clear hSk hmm hA hA2 HB hol hz hZ hZ2 hV hk0 ht hk1 hyl hB7 HL2 HX;go_upto_region 16 with fail
       go_upto_region 18 with fail
       clear hc f0;generalize (wr.setCell ⟨w2.heap.size,k,none⟩ (.int .u32 (A:Int)))=w6 at hc1 hc0 f6 HB7 HX7 ⊢;go_region
       go_wp2;go_roundw
       case rel=>exact⟨j+1,by omega,by simp,HB7,HX7⟩
       case measure=>simp[intOf];omega
     ·obtain rfl:j=N:=by omega
      have g1:¬ (j:Int)<(j:Int):=by omega
      have hBf:=HB.out;rw[Nat.sub_self,List.take_zero,List.drop_zero,List.nil_append] at hBf;have hF:=zGS r 0 o (by omega) (by decide) HOF.out;have hlim:=Blk.limbs hBf (n:=j) hF (by rw[zAL];exact HOL.out.symm) (by omega);have HCT:=zz (zAC _ _ _ hlim);rw[zAv hF,zLf r 0 o (by omega) HOE.out,Nat.zero_div,Nat.add_zero,HT.out] at HCT;clear hBf hF hlim HB;go_wp2_with fail
      refine HCT.out.mono ?_;rintro e w5 ⟨rfl,v3,rfl,h3⟩;have H3:=zz h3;clear h3;go_wp2;go_ret2
      exact⟨HX.out,_,rfl,H3.out⟩
def zCi(w:World)(g:Nat)(l:List Nat):Prop:=∃ ex:List Value,Blk w g (l.map zAP ++ ex).toArray 139
theorem zCi.cell{w:World}{g:Nat}{l:List Nat}(h:zCi w g l)(i:Nat)(hi:i<l.length):w.cell? ⟨g,i,none⟩=some (.int .u32 (l.getD i 0:Nat)):=by
 obtain⟨ex,h⟩:=h;rw[h.cell,zv,List.getElem?_append_left (by simpa using hi),List.getElem?_map,zw,zZ hi];rfl
theorem zCi.free{w:World}{g:Nat}{l:List Nat}(h:zCi w g l)(i:Nat):w.frozen? ⟨g,i,none⟩=false:=by
 obtain⟨ex,h⟩:=h;exact h.free i
theorem zCi.lt{w:World}{g:Nat}{l:List Nat}(h:zCi w g l):g<w.heap.size:=by
 obtain⟨ex,h⟩:=h;exact h.lt
theorem zCi.drewN{w:World}{g:Nat}{l:List Nat}(h:zCi w g l)(m:Nat):zCi (w.drewN m) g l:=h
theorem zCi.set{w:World}{g:Nat}{l:List Nat}(h:zCi w g l)(i x:Nat)(hi:i<l.length):zCi (w.setCell ⟨g,i,none⟩ (.int .u32 (x:Int))) g (l.set i x):=by
 obtain⟨ex,h⟩:=h;refine⟨ex,?_⟩;have:=h.set i (.int .u32 (x:Int));rw[zy,List.set_append_left _ _ (by simpa using hi)] at this;rw[List.map_set];exact this
theorem zCi.below{w w':World}{B g:Nat}{l:List Nat}(h:zCi w g l)(hb:Below B w w')(hB:g<B):zCi w' g l:=by
 obtain⟨ex,h⟩:=h;exact⟨ex,h.below hb hB⟩
theorem zCi.ex{S:Nat->Prop}{B g:Nat}{w w':World}{l:List Nat}(h:zCi w g l)(hE:Ex S B w w')(hB:g<B)(hp:¬ S g):zCi w' g l:=by
 obtain⟨ex,h⟩:=h;exact⟨ex,hE.blk h hB hp⟩
theorem zCi.limbs{w:World}{g:Nat}{l:List Nat}(h:zCi w g l)(hf:Fit l)(off n cap:Nat)(hn:off+n<=l.length)(hc:n<=cap)(hcap:cap<=9223372036854775807):zAf w (.slice (some ⟨g,off,none⟩) n cap) ((l.drop off).take n):=by
 have hl:((l.drop off).take n).length=n:=by simp;omega
 refine⟨zBI (fun x hx=>hf x (List.mem_of_mem_drop hx)) n,.inr ⟨g,off,cap,by rw[hl],by omega,hcap,h.lt,fun i hi=>?_⟩⟩;rw[hl] at hi;rw[h.cell _ (by omega)];congr 3;rw[zw,zw,List.getElem?_take,if_pos hi,List.getElem?_drop]
def zNk(B:Nat)(w:World)(v:Value)(L:List Nat):Prop:=w.ownsRow B 139 1 v L.length (L.map zAP)
theorem zNk.row{B:Nat}{w:World}{v:Value}{L:List Nat}(h:zNk B w v L)(h0:L≠[]):∃ g cap,v=.slice (some ⟨g,0,none⟩) L.length cap/\B<=g/\L.length<=cap/\cap<=9223372036854775807/\zCi w g L:=by
 obtain⟨_,⟨_,hz⟩|⟨g,cap,cur,hv,hg,hc,hn,hm,hs,ht⟩⟩:=h
 ·exact absurd (List.eq_nil_of_length_eq_zero hz) h0
 ·refine⟨g,cap,hv,hg,hn,by unfold maxLen at hm;omega,cur.toList.drop L.length,?_⟩;rw[Nat.mul_one] at ht;rw[<-ht,List.take_append_drop];exact hc
theorem zQn(c:Nat)(x:Nat)(hx:x=c):madeCells (Value.int IntKind.u32 0).cells x=zAi (List.replicate c 0):=by
 subst hx;apply Array.ext_getElem?;intro j;have hg:∀ l:List Nat,(zAi l)[j]?=(l.map zAP)[j]?:=fun l=>by unfold zAi;rw[zv]
 rw[hg,List.getElem?_map,List.getElem?_replicate];simp only[madeCells,Value.cells];by_cases hj:j<x
 ·simp[hj,Nat.mod_one];rfl
 ·simp[hj]
theorem zLO(w:World)(n:Nat)(hn:n<=34359738368):(Instr.makeSlice 26 (.int .i64 0) (.int .i64 (n:Int))).run Tryz.prog w=.ok (.slice (some ⟨w.heap.size,0,none⟩) 0 n) (w.alloc (.cells (zAi (List.replicate n 0)) 139)):=by
 obtain⟨i,hi,hz,hsz,hby⟩:=zEv;have:=run_make (P:=Tryz.prog) w 26 139 i (.int .u32 0) Tryz.underlying26 hi hz .i64 .i64 0 (n:Int) (by omega) (by omega) (by rw[hby];omega) (by omega);rw[this,hsz,Int.toNat_natCast,zQn n (n*1) (by omega)];rfl
theorem zJ0(r p:Nat)(a b:List Nat):shL r p (a ++ b)=shL r p a ++ shL r (a.getLastD p) b:=by
 induction a generalizing p with
 | nil=>simp[shL]
 | cons x t ih=>rw[List.cons_append,shL,ih,shL,List.cons_append,List.getLastD_cons]
theorem zF6(p:Nat)(a:List Nat)(j:Nat)(h:j<a.length):(a.take (j+1)).getLastD p=a.getD j 0:=by
 rw[List.take_succ_eq_append_getElem h,zw,zZ h];generalize a.take j=q;simp
theorem zFw(r:Nat)(a:List Nat)(j:Nat)(h:j<a.length):shL r 0 (a.take (j+1))=shL r 0 (a.take j) ++ [(a.getD j 0*2 ^ r) % 4294967296+(if j=0 then 0 else a.getD (j - 1) 0) / 2 ^ (32 - r)]:=by
 rw[List.take_succ_eq_append_getElem h,zJ0,shL,shL];congr 3
 ·rw[zw,zZ h];rfl
 ·congr 1
  cases j with
  | zero=>simp
  | succ j=>rw[zF6 0 a j (by omega)];simp
def zCf(r:Nat)(a:List Nat)(j:Nat):Nat:=(if j=0 then 0 else a.getD (j - 1) 0) / 2 ^ (32 - r)
theorem zJl(r:Nat)(a:List Nat)(j:Nat):zCf r a (j+1)=a.getD j 0 / 2 ^ (32 - r):=by simp[zCf]
theorem zKF(r:Nat)(a:List Nat)(hf:Fit a)(hr:r<=32)(j:Nat)(hj:j<=a.length):zCf r a j<2 ^ r:=by
 unfold zCf
 split
 ·rw[Nat.zero_div];exact Nat.two_pow_pos r
 ·exact zFH r _ hr (zAw hf _ (by omega))
theorem zKG(r:Nat)(a:List Nat):shL r 0 (a ++ [0])=shL r 0 a ++ [zCf r a a.length]:=by
 rw[zJ0,shL,shL];congr 2;rw[Nat.zero_mul,Nat.zero_mod,Nat.zero_add];unfold zCf;congr 1
 cases a with
 | nil=>simp
 | cons x t=>
  have:=zF6 0 (x :: t) t.length (by simp);rw[List.take_of_length_le (by simp)] at this;rw[this];simp
theorem zIx(r x c:Nat)(hr:r<32)(hx:x<4294967296)(hc:c<2 ^ r):x*2 ^ r+c<18446744073709551616/\(x*2 ^ r+c) % 4294967296=x*2 ^ r % 4294967296+c/\(x*2 ^ r+c) / 4294967296=x / 2 ^ (32 - r)/\x*2 ^ r<18446744073709551616/\x*2 ^ r ||| c=x*2 ^ r+c/\c<4294967296:=by
 have h1:=zHJ r x (by omega);have h2:2 ^ r<=2 ^ 31:=Nat.pow_le_pow_right (by omega) (by omega);have h3:x*2 ^ r<=4294967295*2 ^ 31:=Nat.mul_le_mul (by omega) h2;obtain⟨m,hm⟩:=zHs r x (by omega);have h4:=Nat.mod_lt (x*2 ^ r) (show 4294967296 > 0 by decide);have h5:(4294967296:Nat)=2 ^ (32 - r)*2 ^ r:=by rw[<-Nat.pow_add,show 32 - r+r=32 by omega]
 have h6:x*2 ^ r % 4294967296+c<4294967296:=by
  rw[hm] at h4 ⊢;have h7:m<2 ^ (32 - r):=by rw[h5] at h4;exact Nat.lt_of_mul_lt_mul_right h4
  have h8:m*2 ^ r+2 ^ r<=2 ^ (32 - r)*2 ^ r:=by rw[<-Nat.succ_mul];exact Nat.mul_le_mul_right _ h7
  rw[<-h5] at h8;omega
 have h9:x*2 ^ r ||| c=x*2 ^ r+c:=by rw[Nat.or_comm,zFX _ _ r hc,Nat.add_comm]
 have h10:(2:Nat) ^ 31=2147483648:=rfl;refine⟨by omega,by omega,by omega,by omega,h9,by omega⟩
theorem zGp(w:World)(v:Value)(a:List Nat)(r:Nat)(h:zAf w v a)(hl:a.length<=8600000000)(hr:r<32):
  Calls Tryz.prog 246 #[v,.int .i64 (r:Int)] w fun e w'=>Below w.heap.size w w'/\∃ g cap,e=.returned (.slice (some ⟨g,0,none⟩) (a.length+1) cap)/\w.heap.size<=g/\a.length+1<=cap/\cap<=9223372036854775807/\zCi w' g (shL r 0 (a ++ [0])):=by
 obtain⟨i0,hi0,hz0,hs0,hb0⟩:=zEv;have HI0:=zz hi0;have HZ0:=zz hz0;have HS0:=zz hs0;have HB0:=zz hb0;clear hi0 hz0 hs0 hb0;have HF:=zz h.fit;obtain⟨b1,c1,rfl⟩:=h.slice;have HL:=zz h;obtain⟨n,hn⟩:∃ n,n=a.length:=⟨_,rfl⟩;have HN:=zz hn;rw[<-hn] at hl ⊢;clear h hn;have gw:IntKind.i64.wrap ((n:Int)+1)=(n:Int)+1:=zY _ (by omega);have hmk:=zLO w (n+1) (by omega);rw[show ((n+1:Nat):Int)=(n:Int)+1 by omega] at hmk;have hB:=Blk.new w (zAi (List.replicate (n+1) 0)) 139;have hb:Below w.heap.size w (w.alloc (.cells (zAi (List.replicate (n+1) 0)) 139)):=(zK _ _).alloc (zQ _) _;go_enter Tryz.func246,Tryz.ntmps246
 go_upto_region 2 with fail
 clear hmk;generalize w.alloc (.cells (zAi (List.replicate (n+1) 0)) 139)=w1 at hB hb ⊢;have HO1:Hid (zNk w.heap.size w1 (.slice (some ⟨w.heap.size,0,none⟩) 0 (n+1)) (shL r 0 (a.take 0))):=zz ⟨by simp[shL],.inr ⟨w.heap.size,n+1,_,rfl,zQ _,hB,by simp[shL],by unfold maxLen;omega,by simp[zGN],by simp[shL]⟩⟩;have HX1:=zz hb;clear hB hb;go_upto_region 4 with fail
 go_loopw [5,6,8,9,16] (fun v c _ _ i wr=>∃ j:Nat,j<=n/\i=.int .i64 j/\c=.int .u64 (zCf r a j:Nat)/\(∃ bb cc,v=.slice bb j cc)/\Hid (zNk w.heap.size wr v (shL r 0 (a.take j)))/\Hid (Below w.heap.size w wr)) (fun _ _ _ _ i _=>n - (intOf i).toNat)
 case atStart=>exact⟨0,by omega,rfl,by simp[zCf],⟨_,_,rfl⟩,HO1,HX1⟩
 case round=>
  clear HO1 HX1;obtain⟨j,hj,rfl,rfl,⟨bb,cc,rfl⟩,HO,HX⟩:=hrel;have hcl:=zKF r a HF.out (by omega) j (by rw[<-HN.out];exact hj);by_cases h1:j<n
  ·have g1:(j:Int)<(n:Int):=by omega
   obtain⟨_,⟨_,hy⟩|⟨bk1,of1,cp1,hv1,_,_,_,p1⟩⟩:=HL.out.below HX.out
   ·have:=HN.out;rw[hy] at this;simp at this;omega
   simp only[Value.slice.injEq] at hv1;obtain⟨rfl,-,rfl⟩:=hv1;have hcA:=p1 j (by have:=HN.out;omega);have hxf:=zAw HF.out j (by have:=HN.out;omega);obtain⟨m1,m2,m3,m4,m5,m6⟩:=zIx r (a.getD j 0) (zCf r a j) hr hxf hcl;have HST:=zz (zFw r a j (by have:=HN.out;omega));have HCA:=zz (zJl r a j);rw[<-m3] at HCA;have e0:(if j=0 then 0 else a.getD (j - 1) 0) / 2 ^ (32 - r)=zCf r a j:=rfl;rw[e0,<-m2] at HST;clear e0 m2 m3 p1 hcl;generalize a.getD j 0=X at *;generalize zCf r a j=C at *;obtain⟨P,hP⟩:∃ P,P=X*2 ^ r:=⟨_,rfl⟩;have q1:IntKind.u64.wrap (X:Int)=(X:Int):=by rw[IntKind.wrap_u64];omega
   have q2:IntKind.u64.wrap ((X:Int)*2 ^ r)=(P:Int):=by
    have:(X:Int)*2 ^ r=(P:Int):=by rw[hP];simp
    rw[this,IntKind.wrap_u64];rw[<-hP] at m4;omega
   rw[<-hP] at m1 m4 m5 HST HCA;have q3:bits .or .u64 (P:Int) (C:Int)=((P+C:Nat):Int):=by rw[zJM _ _ m4 (by omega),m5]
   obtain⟨T,hT⟩:∃ T,T=P+C:=⟨_,rfl⟩;rw[<-hT] at m1 q3 HST HCA;have q4:IntKind.u32.wrap (T:Int)=((T % 4294967296:Nat):Int):=by rw[IntKind.wrap_u32];omega
   have q5:(T:Int) % 4294967296=((T % 4294967296:Nat):Int):=by omega
   have q6:(T:Int) / 4294967296=((T / 4294967296:Nat):Int):=by omega
   generalize T % 4294967296=R at q4 q5 HST;generalize T / 4294967296=Q at q6 HCA;clear hP hT m1 m4 m5 m6 hxf;have hO:=HO.out;have hlt:=World.ownsRow.lt hO;go_wp2_with (at_builtin;refine wpList_append_own _ rfl _ _ 26 rfl w.heap.size 139 i0 (.int .u32 0) 1 4 Tryz.underlying26 HI0.out HZ0.out HS0.out HB0.out rfl (by decide) _ _ _ rfl (World.ownsRow.alloc hO _) ⟨wr.heap.size,0,none⟩ 1 1 [.int .u32 (R:Int)] rfl rfl ?c1 ?c2 ?c3 ?c4 ?c5 ?_)
   case c1=>
    intro j u hj
    match j,hj with
    | 0,hj=>simp at hj;subst hj;simp[Addr.add]
   case c2=>intro u hu;simp at hu;subst hu;rfl
   case c3=>unfold maxLen;rw[zAL,List.length_take];omega
   case c4=>rw[zAL,List.length_take];omega
   case c5=>have:=HX.out.size;simp;omega
   intro v' w2 hown' hgrow _;have hb2:Below w.heap.size w w2:=(HX.out.alloc HX.out.size _).grown hgrow (by have:=HX.out.size;simp;omega) (fun k hk=>(hlt k hk).1)
   have HO2:Hid (zNk w.heap.size w2 v' (shL r 0 (a.take (j+1)))):=zz (by
    unfold zNk;rw[HST.out,List.length_append,List.map_append];exact hown')
   have HB2:=zz hb2
   have hsl:∃ bb cc,v'=.slice bb (j+1) cc:=by
    have hle:(shL r 0 (a.take j)).length=j:=by rw[zAL,List.length_take];have:=HN.out;omega
    rw[hle] at hown';rcases hown'.2 with ⟨_,h0⟩|⟨g,cap,cur,hv,_⟩
    ·omega
    ·exact⟨_,_,hv⟩
   obtain⟨bb2,cc2,rfl⟩:=hsl;clear hown' hgrow hb2 hO hlt;rw[<-HCA.out] at q6;go_wp2;go_roundw
   case rel=>exact⟨j+1,by omega,by simp,rfl,⟨_,_,rfl⟩,HO2,HB2⟩
   case measure=>simp[intOf];omega
  ·obtain rfl:j=n:=by omega
   have g1:¬ (j:Int)<(j:Int):=by omega
   have HS0':Hid (shL r 0 (a ++ [0])=shL r 0 (a.take j) ++ [zCf r a j]):=zz (by rw[zKG,<-HN.out,List.take_of_length_le (by rw[<-HN.out];exact zQ _)]);have h2:2 ^ r<=2 ^ 31:=Nat.pow_le_pow_right (by omega) (by omega);have h10:(2:Nat) ^ 31=2147483648:=rfl;have hle:Hid ((shL r 0 (a.take j)).length=j):=zz (by rw[zAL,List.length_take];have:=HN.out;omega);generalize zCf r a j=C at *;have q4:IntKind.u32.wrap (C:Int)=(C:Int):=by rw[IntKind.wrap_u32];omega
   have q5:(C:Int) % 4294967296=(C:Int):=by omega
   clear h2 h10 hcl;have hO:=HO.out;have hlt:=World.ownsRow.lt hO;go_wp2_with (at_builtin;refine wpList_append_own _ rfl _ _ 26 rfl w.heap.size 139 i0 (.int .u32 0) 1 4 Tryz.underlying26 HI0.out HZ0.out HS0.out HB0.out rfl (by decide) _ _ _ rfl (World.ownsRow.alloc hO _) ⟨wr.heap.size,0,none⟩ 1 1 [.int .u32 (C:Int)] rfl rfl ?c1 ?c2 ?c3 ?c4 ?c5 ?_)
   case c2=>rfl
   case c3=>unfold maxLen;rw[zAL,List.length_take];omega
   case c4=>rw[zAL,List.length_take];omega
   case c5=>have:=HX.out.size;simp;omega
   intro v' w2 hown' hgrow _;have hb2:Below w.heap.size w w2:=(HX.out.alloc HX.out.size _).grown hgrow (by have:=HX.out.size;simp;omega) (fun k hk=>(hlt k hk).1)
   have hO2:zNk w.heap.size w2 v' (shL r 0 (a ++ [0])):=by
    unfold zNk;rw[HS0'.out,List.length_append,List.map_append];exact hown'
   obtain⟨g,cap,hv,hg,hn,hcap,hrow⟩:=hO2.row (by intro e;have:=congrArg List.length e;rw[zAL] at this;simp at this);rw[zAL,List.length_append,<-HN.out] at hv hn;subst hv;have HB2:=zz hb2;have HG:=zz hg;have HNN:=zz hn;have HCP:=zz hcap;have HRW:=zz hrow;clear hown' hgrow hb2 hO hlt hO2 hg hn hcap hrow;go_wp2;go_ret;exact⟨HB2.out,_,_,rfl,HG.out,HNN.out,HCP.out,HRW.out⟩
theorem zBZ(Z:List Nat)(z:Nat):val (Z ++ [z])=val Z+4294967296 ^ Z.length*z:=by
 rw[zA3];simp[val]
theorem zBQ(X:List Nat)(j i:Nat):(X.drop j).getD i 0=X.getD (j+i) 0:=by
 rw[zw,List.getElem?_drop,<-zw]
def win(X Z:List Nat)(j:Nat):List Nat:=X.take j ++ (Z ++ X.drop (j+Z.length))
theorem zKp(X:List Nat)(j:Nat):win X [] j=X:=by simp[win]
theorem zAV(X Z:List Nat)(j:Nat)(h:j+Z.length<=X.length):(win X Z j).length=X.length:=by simp[win];omega
theorem zHF(X Z:List Nat)(j:Nat)(h:j+Z.length<X.length):(win X Z j).getD (j+Z.length) 0=X.getD (j+Z.length) 0:=by
 unfold win;rw[zw,List.getElem?_append_right (by simp;omega),List.length_take,Nat.min_eq_left (by omega),Nat.add_sub_cancel_left,List.getElem?_append_right (zQ _),Nat.sub_self,List.getElem?_drop,Nat.add_zero,<-zw]
theorem zFs(X Z:List Nat)(j z:Nat)(h:j+Z.length<X.length):(win X Z j).set (j+Z.length) z=win X (Z ++ [z]) j:=by
 unfold win;rw[List.set_append_right _ _ (by simp;omega),List.length_take,Nat.min_eq_left (by omega),Nat.add_sub_cancel_left,List.set_append_right _ _ (zQ _),Nat.sub_self,List.drop_eq_getElem_cons h,zq,List.length_append,List.append_assoc];rfl
theorem zCN{Z:List Nat}(h:Fit Z)(z:Nat)(hz:z<4294967296):Fit (Z ++ [z]):=by
 intro y hy;rcases List.mem_append.1 hy with h1|h1
 ·exact h y h1
 ·simp at h1;omega
theorem zKM{X Z:List Nat}(hX:Fit X)(hZ:Fit Z)(j:Nat):Fit (win X Z j):=by
 intro y hy;rcases List.mem_append.1 hy with h|h
 ·exact hX y (List.mem_of_mem_take h)
 ·rcases List.mem_append.1 h with h|h
  ·exact hZ y h
  ·exact hX y (List.mem_of_mem_drop h)
theorem zI7(Z X Y:List Nat)(i j m ca bo z ca' bo':Nat)(hZ:Z.length=i)(hv:val Z+m*val (Y.take i)=val ((X.drop j).take i)+4294967296 ^ i*(ca+bo))
  (h:z+(Y.getD i 0*m+ca)+bo=X.getD (j+i) 0+4294967296*(ca'+bo')) :
  val (Z ++ [z])+m*val (Y.take (i+1))=val ((X.drop j).take (i+1))+4294967296 ^ (i+1)*(ca'+bo'):=by
 rw[zBZ,hZ,zAt Y,zAt (X.drop j),zBQ,Nat.pow_succ];generalize val Z=a at *;generalize val (Y.take i)=b at *;generalize val ((X.drop j).take i)=c at *;generalize Y.getD i 0=y at *;generalize X.getD (j+i) 0=x at *;generalize 4294967296 ^ i=K at *
 grind
theorem zJt(Z X Y:List Nat)(n j m ca bo z bo':Nat)(hZ:Z.length=n)(hv:val Z+m*val (Y.take n)=val ((X.drop j).take n)+4294967296 ^ n*(ca+bo))
  (h:z+ca+bo=X.getD (j+n) 0+4294967296*bo') :
  val (Z ++ [z])+m*val (Y.take n)=val ((X.drop j).take (n+1))+4294967296 ^ (n+1)*bo':=by
 rw[zBZ,hZ,zAt (X.drop j),zBQ,Nat.pow_succ];generalize val Z=a at *;generalize val (Y.take n)=b at *;generalize val ((X.drop j).take n)=c at *;generalize X.getD (j+n) 0=x at *;generalize 4294967296 ^ n=K at *
 grind
theorem zMM(p:Nat)(h:p<18446744073709551616):bits .and .u64 (p:Int) 4294967295=((p % 4294967296:Nat):Int):=by
 have:=zDE p 4294967295 h (by decide);rw[show ((4294967295:Nat):Int)=4294967295 from rfl,show (4294967295:Nat)=2 ^ 32 - 1 from rfl,Nat.and_two_pow_sub_one_eq_mod] at this;exact this
theorem zKy(w:World)(g gy j n m cx cy:Nat)(X Y:List Nat)(hX:zCi w g X)(hY:zCi w gy Y)(hne:gy≠g)(hfX:Fit X)(hfY:Fit Y)(hj:j+n+1<=X.length)(hn:n<=Y.length)(hl:X.length<=17179869184)(hm:m<4294967296):
  Calls Tryz.prog 247 #[.slice (some ⟨g,j,none⟩) (n+1) cx,.slice (some ⟨gy,0,none⟩) n cy,.int .u64 (m:Int)] w fun e w'=>∃ (Z:List Nat) (bo:Nat),bo<=1/\e=.returned (.bool (bo == 1))/\Z.length=n+1/\Fit Z/\val Z+m*val (Y.take n)=val ((X.drop j).take (n+1))+4294967296 ^ (n+1)*bo/\zCi w' g (win X Z j)/\Ex (fun k=>k=g) w.heap.size w w':=by
 have hX0:zCi w g (win X [] j):=by rw[zKp];exact hX
 have HX0:=zz hX0;have HY:=zz hY;have HG:=zz hX.lt;have HGY:=zz hY.lt;have HNE:=zz hne;have HFX:=zz hfX;have HFY:=zz hfY;have HE0:Hid (Ex (fun k=>k=g) w.heap.size w w):=zz (Ex.refl _ _ _);have HJ:=zz hj;have HNY:=zz hn;have hnb:n<=17179869184:=by omega
 clear hX0 hX hY hne hfX hfY hj hn;go_enter Tryz.func247,Tryz.ntmps247
 go_upto_region 3 with fail
 go_loopw [7,8,9,10,11,12,16] (fun cv bv _ _ _ _ iv wr=>∃ (i ca bo:Nat) (Z:List Nat),i<=n/\iv=.int .i64 i/\cv=.int .u64 (ca:Nat)/\bv=.int .u64 (bo:Nat)/\ca<4294967296/\bo<=1/\Hid (Z.length=i/\Fit Z/\val Z+m*val (Y.take i)=val ((X.drop j).take i)+4294967296 ^ i*(ca+bo))/\Hid (zCi wr g (win X Z j))/\Hid (Ex (fun k=>k=g) w.heap.size w wr)) (fun _ _ _ _ _ _ iv _=>n - (intOf iv).toNat)
 case atStart=>exact⟨0,0,0,[],by omega,rfl,rfl,rfl,by decide,by decide,zz ⟨rfl,fun x hx=>by simp at hx,by simp[val]⟩,HX0,HE0⟩
 case round=>
  clear HX0 HE0;obtain⟨i,ca,bo,Z,hi,rfl,rfl,rfl,hca,hbo,HZ,HX,HE⟩:=hrel;by_cases h1:i<n
  ·have g1:(i:Int)<(n:Int):=by omega
   have g2:(i:Int)<(n:Int)+1:=by omega
   have hcY:wr.cell? ⟨gy,i,none⟩=some (.int .u32 ((Y.getD i 0:Nat):Int)):=(HY.out.ex HE.out HGY.out HNE.out).cell i (by have:=HNY.out;omega);have hwl:(win X Z j).length=X.length:=zAV X Z j (by rw[HZ.out.1];have:=HJ.out;omega)
   have hcX:wr.cell? ⟨g,j+i,none⟩=some (.int .u32 ((X.getD (j+i) 0:Nat):Int)):=by
    have:=HX.out.cell (j+i) (by rw[hwl];have:=HJ.out;omega);have e:=zHF X Z j (by rw[HZ.out.1];have:=HJ.out;omega);rw[HZ.out.1] at e;rw[e] at this;exact this
   have f0:wr.frozen? ⟨g,j+i,none⟩=false:=HX.out.free _;have hyf:=zAw HFY.out i (by have:=HNY.out;omega);have hxf:=zAw HFX.out (j+i) (by have:=HJ.out;omega);have HST:=zz (fun z ca' bo'=>zI7 Z X Y i j m ca bo z ca' bo' HZ.out.1 HZ.out.2.2);generalize Y.getD i 0=y at hcY hyf HST;generalize X.getD (j+i) 0=x at hcX hxf HST;obtain⟨M,hM⟩:∃ M,M=y*m:=⟨_,rfl⟩;have hM2:M<=4294967295*4294967295:=by rw[hM];exact Nat.mul_le_mul (by omega) (by omega)
   rw[<-hM] at HST;have q1:IntKind.u64.wrap (y:Int)=(y:Int):=by rw[IntKind.wrap_u64];omega
   have q2:IntKind.u64.wrap ((y:Int)*(m:Int))=(M:Int):=by
    rw[show (y:Int)*(m:Int)=(M:Int) by rw[hM];simp,IntKind.wrap_u64];omega
   obtain⟨p,hp⟩:∃ p,p=M+ca:=⟨_,rfl⟩;rw[<-hp] at HST;have q3:IntKind.u64.wrap ((M:Int)+(ca:Int))=(p:Int):=by rw[IntKind.wrap_u64];omega
   have q4:(p:Int) / 4294967296=((p / 4294967296:Nat):Int):=by omega
   have q5:IntKind.u64.wrap (x:Int)=(x:Int):=by rw[IntKind.wrap_u64];omega
   have q6:=zMM p (by omega);have hd:=Nat.div_add_mod p 4294967296;have hmod:=Nat.mod_lt p (show 4294967296 > 0 by decide);have hq:p / 4294967296<4294967296:=by omega
   generalize p % 4294967296=pl at q6 hd hmod;generalize p / 4294967296=ca' at q4 hd hq;obtain⟨D1,hD1⟩:∃ D1,D1=(x+18446744073709551616 - pl) % 18446744073709551616:=⟨_,rfl⟩;obtain⟨D,hD⟩:∃ D,D=(D1+18446744073709551616 - bo) % 18446744073709551616:=⟨_,rfl⟩;have q7:IntKind.u64.wrap ((x:Int) - (pl:Int))=(D1:Int):=by rw[IntKind.wrap_u64];omega
   have q8:IntKind.u64.wrap ((D1:Int) - (bo:Int))=(D:Int):=by rw[IntKind.wrap_u64];omega
   obtain⟨z,hz⟩:∃ z,z=D % 4294967296:=⟨_,rfl⟩;obtain⟨bo',hbo'⟩:∃ bo',bo'=D / 9223372036854775808:=⟨_,rfl⟩;have q9:IntKind.u32.wrap (D:Int)=(z:Int):=by rw[IntKind.wrap_u32];omega
   have q10:(D:Int) % 4294967296=(z:Int):=by omega
   have q11:(D:Int) / 9223372036854775808=(bo':Int):=by omega
   have hz2:z<4294967296:=by omega
   have hb2:bo'<=1:=by omega
   have heq:z+pl+bo=x+4294967296*bo':=by omega
   have HST2:=zz (HST.out z ca' bo' (by omega));have HZ2:=zz hz2;clear hM hM2 hp hd hmod hD1 hD hz hbo' hz2 heq HST hxf hyf hwl;have hX3:=HX.out.set (j+i) z (by rw[zAV X Z j (by rw[HZ.out.1];have:=HJ.out;omega)];have:=HJ.out;omega);have hw:=zFs X Z j z (by rw[HZ.out.1];have:=HJ.out;omega);rw[HZ.out.1] at hw;rw[hw] at hX3;have HX3:=zz hX3;have HE3:=zz (HE.out.setCell g (j+i) (Or.inl rfl) (.int .u32 (z:Int)));clear hX3 hw;go_wp2;go_roundw
   case rel=>exact⟨i+1,ca',bo',Z ++ [z],by omega,by simp,rfl,rfl,hq,hb2,zz ⟨by simp[HZ.out.1],zCN HZ.out.2.1 z HZ2.out,HST2.out⟩,HX3,HE3⟩
   case measure=>simp[intOf];omega
  ·obtain rfl:i=n:=by omega
   have g1:¬ (i:Int)<(i:Int):=by omega
   have g2:(i:Int)<(i:Int)+1:=by omega
   have hwl:(win X Z j).length=X.length:=zAV X Z j (by rw[HZ.out.1];have:=HJ.out;omega)
   have hcX:wr.cell? ⟨g,j+i,none⟩=some (.int .u32 ((X.getD (j+i) 0:Nat):Int)):=by
    have:=HX.out.cell (j+i) (by rw[hwl];have:=HJ.out;omega);have e:=zHF X Z j (by rw[HZ.out.1];have:=HJ.out;omega);rw[HZ.out.1] at e;rw[e] at this;exact this
   have f0:wr.frozen? ⟨g,j+i,none⟩=false:=HX.out.free _;have hxf:=zAw HFX.out (j+i) (by have:=HJ.out;omega);have HST:=zz (fun z bo'=>zJt Z X Y i j m ca bo z bo' HZ.out.1 HZ.out.2.2);generalize X.getD (j+i) 0=x at hcX hxf HST;have q5:IntKind.u64.wrap (x:Int)=(x:Int):=by rw[IntKind.wrap_u64];omega
   obtain⟨D1,hD1⟩:∃ D1,D1=(x+18446744073709551616 - ca) % 18446744073709551616:=⟨_,rfl⟩;obtain⟨D,hD⟩:∃ D,D=(D1+18446744073709551616 - bo) % 18446744073709551616:=⟨_,rfl⟩;have q7:IntKind.u64.wrap ((x:Int) - (ca:Int))=(D1:Int):=by rw[IntKind.wrap_u64];omega
   have q8:IntKind.u64.wrap ((D1:Int) - (bo:Int))=(D:Int):=by rw[IntKind.wrap_u64];omega
   obtain⟨z,hz⟩:∃ z,z=D % 4294967296:=⟨_,rfl⟩;obtain⟨bo',hbo'⟩:∃ bo',bo'=D / 9223372036854775808:=⟨_,rfl⟩;have q9:IntKind.u32.wrap (D:Int)=(z:Int):=by rw[IntKind.wrap_u32];omega
   have q10:(D:Int) % 4294967296=(z:Int):=by omega
   have q11:(D:Int) / 9223372036854775808=(bo':Int):=by omega
   have hz2:z<4294967296:=by omega
   have hb2:bo'<=1:=by omega
   have heq:z+ca+bo=x+4294967296*bo':=by omega
   have HST2:=zz (HST.out z bo' heq);have HZ2:=zz hz2
   have q12:((bo':Int) == 1)=(bo' == 1):=by
    rcases (by omega:bo'=0 \/ bo'=1) with h|h <;> rw[h] <;> rfl
   have HBB:=zz hb2;generalize hbb:(bo' == 1)=bb at q12;have HQ:=zz hbb;clear hD1 hD hz hbo' hz2 heq HST hxf hwl hb2 hbb;have hX3:=HX.out.set (j+i) z (by rw[zAV X Z j (by rw[HZ.out.1];have:=HJ.out;omega)];have:=HJ.out;omega);have hw:=zFs X Z j z (by rw[HZ.out.1];have:=HJ.out;omega);rw[HZ.out.1] at hw;rw[hw] at hX3;have HX3:=zz hX3;have HE3:=zz (HE.out.setCell g (j+i) (Or.inl rfl) (.int .u32 (z:Int)));clear hX3 hw;go_wp2;go_ret;exact⟨Z ++ [z],bo',HBB.out,by rw[HQ.out];rfl,by simp[HZ.out.1],zCN HZ.out.2.1 z HZ2.out,HST2.out,HX3.out,HE3.out⟩
theorem zJH(Z X Y:List Nat)(i j ca z ca':Nat)(hZ:Z.length=i)(hv:val Z+4294967296 ^ i*ca=val ((X.drop j).take i)+val (Y.take i))
  (h:z+4294967296*ca'=X.getD (j+i) 0+Y.getD i 0+ca) :
  val (Z ++ [z])+4294967296 ^ (i+1)*ca'=val ((X.drop j).take (i+1))+val (Y.take (i+1)):=by
 rw[zBZ,hZ,zAt Y,zAt (X.drop j),zBQ,Nat.pow_succ];generalize val Z=a at *;generalize val (Y.take i)=b at *;generalize val ((X.drop j).take i)=c at *;generalize Y.getD i 0=y at *;generalize X.getD (j+i) 0=x at *;generalize 4294967296 ^ i=K at *
 grind
theorem zLo(Z X Y:List Nat)(n j ca z co:Nat)(hZ:Z.length=n)(hv:val Z+4294967296 ^ n*ca=val ((X.drop j).take n)+val (Y.take n))
  (h:z+4294967296*co=X.getD (j+n) 0+ca) :
  val (Z ++ [z])+4294967296 ^ (n+1)*co=val ((X.drop j).take (n+1))+val (Y.take n):=by
 rw[zBZ,hZ,zAt (X.drop j),zBQ,Nat.pow_succ];generalize val Z=a at *;generalize val (Y.take n)=b at *;generalize val ((X.drop j).take n)=c at *;generalize X.getD (j+n) 0=x at *;generalize 4294967296 ^ n=K at *
 grind
theorem zMb(w:World)(g gy j n cx cy:Nat)(X Y:List Nat)(hX:zCi w g X)(hY:zCi w gy Y)(hne:gy≠g)(hfX:Fit X)(hfY:Fit Y)(hj:j+n+1<=X.length)(hn:n<=Y.length)(hl:X.length<=17179869184):
  Calls Tryz.prog 248 #[.slice (some ⟨g,j,none⟩) (n+1) cx,.slice (some ⟨gy,0,none⟩) n cy] w fun e w'=>e=.returned (.tuple #[])/\∃ (Z:List Nat) (co:Nat),Z.length=n+1/\Fit Z/\val Z+4294967296 ^ (n+1)*co=val ((X.drop j).take (n+1))+val (Y.take n)/\zCi w' g (win X Z j)/\Ex (fun k=>k=g) w.heap.size w w':=by
 have hX0:zCi w g (win X [] j):=by rw[zKp];exact hX
 have HX0:=zz hX0;have HY:=zz hY;have HGY:=zz hY.lt;have HNE:=zz hne;have HFX:=zz hfX;have HFY:=zz hfY;have HE0:Hid (Ex (fun k=>k=g) w.heap.size w w):=zz (Ex.refl _ _ _);have HJ:=zz hj;have HNY:=zz hn;have hnb:n<=17179869184:=by omega
 clear hX0 hX hY hne hfX hfY hj hn;go_enter Tryz.func248,Tryz.ntmps248
 go_upto_region 2 with fail
 go_loopw [4,5,6,7,10] (fun cv _ _ _ iv wr=>∃ (i ca:Nat) (Z:List Nat),i<=n/\iv=.int .i64 i/\cv=.int .u64 (ca:Nat)/\ca<4294967296/\Hid (Z.length=i/\Fit Z/\val Z+4294967296 ^ i*ca=val ((X.drop j).take i)+val (Y.take i))/\Hid (zCi wr g (win X Z j))/\Hid (Ex (fun k=>k=g) w.heap.size w wr)) (fun _ _ _ _ iv _=>n - (intOf iv).toNat)
 case atStart=>exact⟨0,0,[],by omega,rfl,rfl,by decide,zz ⟨rfl,fun x hx=>by simp at hx,by simp[val]⟩,HX0,HE0⟩
 case round=>
  clear HX0 HE0;obtain⟨i,ca,Z,hi,rfl,rfl,hca,HZ,HX,HE⟩:=hrel;by_cases h1:i<n
  ·have g1:(i:Int)<(n:Int):=by omega
   have g2:(i:Int)<(n:Int)+1:=by omega
   have hcY:wr.cell? ⟨gy,i,none⟩=some (.int .u32 ((Y.getD i 0:Nat):Int)):=(HY.out.ex HE.out HGY.out HNE.out).cell i (by have:=HNY.out;omega);have hwl:(win X Z j).length=X.length:=zAV X Z j (by rw[HZ.out.1];have:=HJ.out;omega)
   have hcX:wr.cell? ⟨g,j+i,none⟩=some (.int .u32 ((X.getD (j+i) 0:Nat):Int)):=by
    have:=HX.out.cell (j+i) (by rw[hwl];have:=HJ.out;omega);have e:=zHF X Z j (by rw[HZ.out.1];have:=HJ.out;omega);rw[HZ.out.1] at e;rw[e] at this;exact this
   have f0:wr.frozen? ⟨g,j+i,none⟩=false:=HX.out.free _;have hyf:=zAw HFY.out i (by have:=HNY.out;omega);have hxf:=zAw HFX.out (j+i) (by have:=HJ.out;omega);have HST:=zz (fun z ca'=>zJH Z X Y i j ca z ca' HZ.out.1 HZ.out.2.2);generalize Y.getD i 0=y at hcY hyf HST;generalize X.getD (j+i) 0=x at hcX hxf HST;have q1:IntKind.u64.wrap (x:Int)=(x:Int):=by rw[IntKind.wrap_u64];omega
   have q2:IntKind.u64.wrap (y:Int)=(y:Int):=by rw[IntKind.wrap_u64];omega
   have q3:IntKind.u64.wrap ((x:Int)+(y:Int))=(x:Int)+(y:Int):=by rw[IntKind.wrap_u64];omega
   obtain⟨s,hs⟩:∃ s,s=x+y+ca:=⟨_,rfl⟩;have q4:IntKind.u64.wrap ((x:Int)+(y:Int)+(ca:Int))=(s:Int):=by rw[IntKind.wrap_u64];omega
   obtain⟨z,hz⟩:∃ z,z=s % 4294967296:=⟨_,rfl⟩;obtain⟨ca',hca'⟩:∃ ca',ca'=s / 4294967296:=⟨_,rfl⟩;have q9:IntKind.u32.wrap (s:Int)=(z:Int):=by rw[IntKind.wrap_u32];omega
   have q10:(s:Int) % 4294967296=(z:Int):=by omega
   have q11:(s:Int) / 4294967296=(ca':Int):=by omega
   have hz2:z<4294967296:=by omega
   have hq:ca'<4294967296:=by omega
   have HST2:=zz (HST.out z ca' (by omega));have HZ2:=zz hz2;clear hs hz hca' hz2 HST hxf hyf hwl;have hX3:=HX.out.set (j+i) z (by rw[zAV X Z j (by rw[HZ.out.1];have:=HJ.out;omega)];have:=HJ.out;omega);have hw:=zFs X Z j z (by rw[HZ.out.1];have:=HJ.out;omega);rw[HZ.out.1] at hw;rw[hw] at hX3;have HX3:=zz hX3;have HE3:=zz (HE.out.setCell g (j+i) (Or.inl rfl) (.int .u32 (z:Int)));clear hX3 hw;go_wp2;go_roundw
   case rel=>exact⟨i+1,ca',Z ++ [z],by omega,by simp,rfl,hq,zz ⟨by simp[HZ.out.1],zCN HZ.out.2.1 z HZ2.out,HST2.out⟩,HX3,HE3⟩
   case measure=>simp[intOf];omega
  ·obtain rfl:i=n:=by omega
   have g1:¬ (i:Int)<(i:Int):=by omega
   have g2:(i:Int)<(i:Int)+1:=by omega
   have hwl:(win X Z j).length=X.length:=zAV X Z j (by rw[HZ.out.1];have:=HJ.out;omega)
   have hcX:wr.cell? ⟨g,j+i,none⟩=some (.int .u32 ((X.getD (j+i) 0:Nat):Int)):=by
    have:=HX.out.cell (j+i) (by rw[hwl];have:=HJ.out;omega);have e:=zHF X Z j (by rw[HZ.out.1];have:=HJ.out;omega);rw[HZ.out.1] at e;rw[e] at this;exact this
   have f0:wr.frozen? ⟨g,j+i,none⟩=false:=HX.out.free _;have hxf:=zAw HFX.out (j+i) (by have:=HJ.out;omega);have HST:=zz (fun z co=>zLo Z X Y i j ca z co HZ.out.1 HZ.out.2.2);generalize X.getD (j+i) 0=x at hcX hxf HST;have q5:IntKind.u32.wrap (ca:Int)=(ca:Int):=by rw[IntKind.wrap_u32];omega
   have q6:(ca:Int) % 4294967296=(ca:Int):=by omega
   obtain⟨z,hz⟩:∃ z,z=(x+ca) % 4294967296:=⟨_,rfl⟩;have q9:IntKind.u32.wrap ((x:Int)+(ca:Int))=(z:Int):=by rw[IntKind.wrap_u32];omega
   have q10:((x:Int)+(ca:Int)) % 4294967296=(z:Int):=by omega
   have hz2:z<4294967296:=by omega
   have HST2:=zz (HST.out z ((x+ca) / 4294967296) (by omega));have HZ2:=zz hz2;clear hz hz2 HST hxf hwl;have hX3:=HX.out.set (j+i) z (by rw[zAV X Z j (by rw[HZ.out.1];have:=HJ.out;omega)];have:=HJ.out;omega);have hw:=zFs X Z j z (by rw[HZ.out.1];have:=HJ.out;omega);rw[HZ.out.1] at hw;rw[hw] at hX3;have HX3:=zz hX3;have HE3:=zz (HE.out.setCell g (j+i) (Or.inl rfl) (.int .u32 (z:Int)));clear hX3 hw;go_wp2;go_end0
   exact⟨rfl,Z ++ [z],by simp[HZ.out.1],zCN HZ.out.2.1 z HZ2.out,⟨_,HST2.out⟩,HX3.out,HE3.out⟩
end Go.Proofs.YtcanfakaigpkgaaGreatDoor.D
