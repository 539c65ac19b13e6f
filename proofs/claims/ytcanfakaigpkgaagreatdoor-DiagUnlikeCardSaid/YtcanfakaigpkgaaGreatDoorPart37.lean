/-
  Of the proof that the law DiagUnlike answers true at every two values: a part, without conditions of its own.
-/
import Derived.Test.YtcanfakaigpkgaaGreatDoorPart32
import Derived.Test.YtcanfakaigpkgaaGreatDoorPart33
import Derived.Lib.AppendIntMem
import Derived.Lib.OwnBridge
set_option linter.unusedVariables false
set_option linter.unusedSimpArgs false
set_option maxRecDepth 100000
set_option maxHeartbeats 8000000
namespace Go.Proofs.YtcanfakaigpkgaaGreatDoor.D
open Go Go.RowKit Go.Sort Limb
structure GY (w:World):Prop where
 v:GV w
 pw:Lib.TabIs Tryz.prog w "internal/strconv.uint64pow10" .u64 Lib.pow10Tab
theorem gP:Tryz.prog.globalNamed "internal/strconv.uint64pow10" = some 14:=by kernel_rfl
theorem GY.size{w:World}(h:GY w):21<w.heap.size:=h.v.size
theorem GY.step{w w':World}(h:GY w)(hb:Below w.heap.size w w'):GY w':=by
 refine⟨h.v.step hb,?_⟩;have h2:=h.pw;unfold Lib.TabIs World.var? at h2 ⊢;rw[gP] at h2 ⊢;simp only[Option.bind_some] at h2 ⊢;rw[hb.block _ (by have:=h.size;omega)];exact h2
theorem zER(w:World)(k:Nat)(os:Array Obj):Below w.heap.size w (grow (w.drewN k) os):=by
 refine⟨rfl,rfl,rfl,by simp[grow],fun i hi=>?_⟩;show (w.heap ++ os)[i]?=_;rw[Array.getElem?_append_left hi]
theorem zIk(n:Nat):Lib.decDigits n=zAZ n:=by
 induction n using Nat.strongRecOn with
 | ind n ih=>
  rw[Lib.decDigits];by_cases h:n<10
  ·rw[dif_pos h,zCb h];rfl
  ·rw[dif_neg h,zFz h,ih (n / 10) (by omega)];rfl
theorem zHE(w:World)(hG:GY w)(n:Int)(h0:-9223372036854775808<=n)(h1:n<=9223372036854775807):Calls Tryz.prog 45 #[.int .i64 n] w fun e w'=>e=.returned (.string (zAc (zEF n)))/\Below w.heap.size w w':=by
 refine (Tryz.strconv_Itoa n h0 h1 w hG.pw).mono ?_;rintro e w' ⟨rfl,k,os,rfl⟩;refine⟨?_,zER w k os⟩
 have:Lib.itoa n=zEF n:=by
  unfold Lib.itoa zEF;by_cases h:n<0
  ·rw[if_pos h,decide_eq_true h,zIk];rfl
  ·rw[if_neg h,decide_eq_false h,zIk,show n.toNat=n.natAbs by omega];rfl
 rw[this];rfl
theorem isb{B b:Nat}{L:List UInt8}{w:World}(h:BIs 49 [] B b L w):Lib.IsBuilder 49 5 B b (Lib.byteCells L) w:=by
 have hl:(Lib.byteCells L).length=L.length:=by simp[Lib.byteCells]
 rcases h with ⟨h1,v,h2,h3,h4⟩|⟨h1,v,h2,h3,h4⟩
 ·exact .inl ⟨h1,v,h2,by rw[hl];exact h3,h4⟩
 ·exact .inr ⟨h1,v,h2,by rw[hl];exact h3,h4⟩
theorem zEp(B b:Nat)(L:List UInt8)(w:World)(h:BIs 49 [] B b L w)(hB:B<=w.heap.size):Calls Tryz.prog 15 #[.pointer (some ⟨b,0,none⟩)] w fun e w'=>e=.returned (.string (zAc L))/\Below B w w':=Tryz.Builder_String_any B b L w (isb h) hB
theorem zKA{z:Nat}(h:z<1048576):(zEF (z:Int)).length<=20:=by
 unfold zEF;rw[decide_eq_false (by omega)];have:=zB6 (x:=(z:Int).natAbs) (by omega)
 simpa[zBa] using this
def zNP(P:VA->Nat->Prop)(f:VT)(e:Ending):Prop:=
 (e=.returned (.tuple #[.string ⟨#[]⟩,.bool false])/\f.All P) \/ ∃ s:List UInt8,e=.returned (.tuple #[.string (zAc s),.bool true])
theorem zH2(fw:FuncId)(hfw:∀ (args:Array Value) (w:World),(callFunc fw args).run Tryz.prog w=.ok (.enter fw args) w)(P:VA->Nat->Prop)(w:World)(hG:GY w)(hw:∀ (a:VA) (m:Nat) (fs:Nat->VT) (d:Nat) (v:Value) (ar:Nat) (w':World),Below w.heap.size w w'->w.heap.size<=w'.heap.size->zAl w' w.heap.size (.node a m fs) v->(VT.node a m fs).small d->ar<=4000000->Calls Tryz.prog fw #[v,.int .i64 (ar:Int)] w' fun e w''=>IsB (fun B=>B=false->P a m) e/\Below w'.heap.size w' w'')
  (N:Nat) (f:VT) (d:Nat) (v:Value) (hN:N<=w.heap.size) (hT:zAl w N f v) (hsm:f.small d) (hd:d<=2000000) :
  Calls Tryz.prog 34 #[v,.func (.func fw) #[] #[]] w fun e w'=>zNP P f e/\Below w.heap.size w w':=by
 obtain⟨a,kind,mb,mn,mc,kb,kn,kc,rfl⟩:=hT.cells;obtain⟨M,hM⟩:∃ M,M=w.heap.size:=⟨_,rfl⟩;have HV:=zz (zLi w.heap.size fw hfw P w hw);have HG:=zz hG;have HSM:=zz hsm;clear hw hG hsm;have HT:=zz (zAl.mono hN _ _ hT);have HM:=zz hM;clear hT hM hN;have hmf:∀ (fn:Fn) (first cap:Array Value) (w:World),(Instr.makeFunc fn first cap).run Tryz.prog w=.ok (.func fn first cap) w:=fun _ _ _ _=>rfl
 go_enter Tryz.func34,Tryz.ntmps34
 go_upto_region 4 with fail
 clear hmf;obtain⟨W1,hW1⟩:∃ W1,W1=w.alloc (.cells (zAh a kind (.slice mb mn mc) (.slice kb kn kc)) 31):=⟨_,rfl⟩;obtain⟨W2,hW2⟩:∃ W2,W2=W1.alloc (.cells #[.func (.func fw) #[] #[]] 80):=⟨_,rfl⟩;obtain⟨W3,hW3⟩:∃ W3,W3=W2.alloc (.cells #[.slice none 0 0] 95):=⟨_,rfl⟩;obtain⟨W4,hW4⟩:∃ W4,W4=W3.alloc (.cells #[.func (.func 71) #[] #[.pointer (some ⟨w.heap.size+1,0,none⟩),.pointer (some ⟨w.heap.size+1+1,0,none⟩),.pointer (some ⟨w.heap.size+1+1+1,0,none⟩)]] 80):=⟨_,rfl⟩;rw[<-hW1,<-hW2,<-hW3,<-hW4];have s1:W1.heap.size=w.heap.size+1:=by rw[hW1];simp
 have s2:W2.heap.size=w.heap.size+2:=by rw[hW2];simp;omega
 have s3:W3.heap.size=w.heap.size+3:=by rw[hW3];simp;omega
 have s4:W4.heap.size=w.heap.size+4:=by rw[hW4];simp;omega
 have k1:Blk W1 w.heap.size (zAh a kind (.slice mb mn mc) (.slice kb kn kc)) 31:=by rw[hW1];exact Blk.new _ _ _
 have k2:Blk W2 (w.heap.size+1) #[.func (.func fw) #[] #[]] 80:=by rw[hW2,<-s1];exact Blk.new _ _ _
 have k3:Blk W3 (w.heap.size+2) #[.slice none 0 0] 95:=by rw[hW3,<-s2];exact Blk.new _ _ _
 have k4:Blk W4 (w.heap.size+3) #[.func (.func 71) #[] #[.pointer (some ⟨w.heap.size+1,0,none⟩),.pointer (some ⟨w.heap.size+1+1,0,none⟩),.pointer (some ⟨w.heap.size+1+1+1,0,none⟩)]] 80:=by rw[hW4,<-s3];exact Blk.new _ _ _
 have b4:Below w.heap.size w W4:=by
  rw[hW4,hW3,hW2,hW1];exact ((((zK _ _).alloc (zQ _) _).alloc (by simp) _).alloc (by simp;omega) _).alloc (by simp;omega) _
 have k1':Blk W4 w.heap.size (zAh a kind (.slice mb mn mc) (.slice kb kn kc)) 31:=by
  rw[hW4,hW3,hW2];exact ((k1.alloc _).alloc _).alloc _
 have k2':Blk W4 (w.heap.size+1) #[.func (.func fw) #[] #[]] 80:=by
  rw[hW4,hW3];exact (k2.alloc _).alloc _
 have k3':Blk W4 (w.heap.size+2) #[.slice none 0 0] 95:=by rw[hW4];exact k3.alloc _
 have hM4:WN W4 w.heap.size fw 0:=⟨by omega,k2'.cell 0,k4.cell 0,.slice none 0 0,[],rfl,(fun z hz=>by cases hz),k3'.cell 0,k3'.free 0,World.ownsRow_nil _ _ _ _⟩;have HT4:=zz (zAl.below b4 _ _ HT.out);have HM4:=zz hM4;have HB4:=zz b4;have HK1:=zz k1';have HS4:=zz s4;have c3:W4.cell? ⟨w.heap.size+1+1+1,0,none⟩=some (.func (.func 71) #[] #[.pointer (some ⟨w.heap.size+1,0,none⟩),.pointer (some ⟨w.heap.size+1+1,0,none⟩),.pointer (some ⟨w.heap.size+1+1+1,0,none⟩)]):=hM4.visit;clear hM4 b4 k1 k2 k3 k4 k1' k2' k3' s1 s2 s3 s4 hW1 hW2 hW3 hW4 HT;refine wp_region_lit ?_;iterate 3 go_step
 refine wpList_load_row rfl 31 _ rfl w.heap.size rfl 31 _ (0,0) _ HK1.out Tryz.underlying31 rfl (by kernel_rfl) ?_;go_wp2_with fail
 refine (HV.out f d _ 0 W4 0 HB4.out HT4.out HSM.out (by omega) (by omega) HM4.out).mono ?_;rintro e w7 ⟨⟨rfl,hall,hM7⟩|⟨rfl,n',hn',hM7⟩,hE7⟩
 ·have HB7:=zz (HB4.out.trans (hE7.below (B':=w.heap.size) (by omega) (fun j (hj:j=w.heap.size+2)=>by omega)));have HA:=zz hall;clear hM7 hE7 c3 hall;go_wp2;refine bodyPost_ret (v:=.tuple #[.string ⟨#[]⟩,.bool false]) (by simp[results,Tryz.results34,go_sem]) rfl ⟨.inl ⟨rfl,HA.out⟩,HB7.out⟩
 ·have HB7:=zz (HB4.out.trans (hE7.below (B':=w.heap.size) (by omega) (fun j (hj:j=w.heap.size+2)=>by omega)));obtain⟨sv,zs,z1,z2,q1,q2,q3⟩:=hM7.steps;obtain⟨sb,sc,rfl⟩:=zCc q3
  have HZ:Hid (∀ i,i<n'->∃ g,sb=some ⟨g,0,none⟩/\g<w7.heap.size/\zs.getD i 0<1048576/\w7.cell? ⟨g,i,none⟩=some (.int .i64 ((zs.getD i 0:Nat):Int))):=zz (fun i hi=>by
   obtain⟨_,⟨hv,_⟩|⟨g,cap,cur,hv,hBg,hg,r1,r2,r3,r4⟩⟩:=q3
   ·simp only[Value.slice.injEq] at hv;omega
   ·simp only[Value.slice.injEq] at hv;obtain⟨rfl,-,rfl⟩:=hv;have hz:zs[i]?=some (zs.getD i 0):=by rw[zw,zZ (by omega)];rfl
    refine⟨g,rfl,(Array.getElem?_eq_some_iff.1 hg).1,z2 _ (List.mem_of_getElem? hz),?_⟩;have h5:(cur.toList.take (n'*1))[i]?=some (iV (zs.getD i 0)):=by rw[r4,List.getElem?_map,hz];rfl
    rw[List.getElem?_take,if_pos (by omega),Array.getElem?_toList] at h5;simp only[World.cell?,hg,h5];rfl)
  have HG7:=zz (HG.out.step HB7.out);have hcs:w7.cell? ⟨w.heap.size+2,0,none⟩=some (.slice sb n' sc):=q1;have hcs':w7.cell? ⟨w.heap.size+1+1,0,none⟩=some (.slice sb n' sc):=q1;have HSL:Hid (w.heap.size+2<w7.heap.size):=zz (by have:=hM7.size;omega);have hb5:Below w7.heap.size w7 (w7.alloc (.cells #[.pointer none,.slice none 0 0] 49)):=(zK _ _).alloc (zQ _) _;have hI5:BIs 49 [] w7.heap.size w7.heap.size [] (w7.alloc (.cells #[.pointer none,.slice none 0 0] 49)):=.inl ⟨zQ _,_,Blk.new _ _ _,World.ownsRow_nil _ _ _ _,by simp[Value.ownBlock]⟩;have HB5:=zz hb5;have HI5:=zz hI5;clear hM7 hE7 c3 z1 z2 q1 q2 q3 HT4 HM4 HB4 HK1 HS4 HV HSM hb5 hI5;go_upto_region 7 with fail
  change Code.wp _ _ _ _ (w7.alloc (.cells #[.pointer none,.slice none 0 0] 49));have hcs5:(w7.alloc (.cells #[.pointer none,.slice none 0 0] 49)).cell? ⟨w.heap.size+1+1,0,none⟩=some (.slice sb n' sc):=by rw[HB5.out.cell (p:=⟨w.heap.size+1+1,0,none⟩) (by have:=HSL.out;simp;omega)];exact hcs'
  have hcs6:(w7.alloc (.cells #[.pointer none,.slice none 0 0] 49)).cell? ⟨w.heap.size+2,0,none⟩=some (.slice sb n' sc):=hcs5;generalize w7.alloc (.cells #[.pointer none,.slice none 0 0] 49)=w8 at HB5 HI5 hcs5 hcs6 ⊢;obtain⟨B0,hB0⟩:∃ B0,B0=w7.heap.size:=⟨_,rfl⟩;rw[<-hB0] at HB5 HI5 ⊢;have HBE:=zz hB0;clear hB0 hcs hcs';go_wp2;clear hcs5 hcs6;go_loopw [18] (fun iv wr=>∃ i:Nat,i<=n'/\iv=.int .i64 (i:Int)/\Hid (Below B0 w7 wr)/\Hid (∃ L,L.length<=30*i/\BIs 49 [] B0 B0 L wr)) (fun iv _=>n' - (intOf iv).toNat)
  case atStart=>exact⟨0,by omega,rfl,HB5,zz ⟨[],by simp,HI5.out⟩⟩
  case round=>
   clear HI5;obtain⟨i,hi,rfl,HBr,HIr⟩:=hrel;have HBs:Hid (B0<=wr.heap.size):=zz (by have:=HBr.out.size;have:=HBE.out;omega);by_cases h1:i<n'
   ·have hI:(i:Int)<(n':Int):=by omega
    obtain⟨g,rfl,hg1,hg2,hgc⟩:=HZ.out i h1;have hci:wr.cell? ⟨g,i,none⟩=some (.int .i64 ((zs.getD i 0:Nat):Int)):=by rw[HBr.out.cell (p:=⟨g,i,none⟩) (by have:=HBE.out;simp;omega)];exact hgc
    obtain⟨L,hL,hIL⟩:=HIr.out;have HGr:=HG7.out.step (HBr.out.mono (by rw[<-HBE.out];exact zQ _));generalize zs.getD i 0=z at *;have HIT:=zz (zHE wr HGr (z:Int) (by omega) (by omega));have hzl:=zKA hg2;have hz1:(⟨#[47]⟩:ByteArray).size+(zAc (zEF (z:Int))).size<=9223372036854775807:=by rw[zAg,show (⟨#[47]⟩:ByteArray).size=1 from rfl];omega
    have hz3:1+(zAc (zEF (z:Int))).size<=9223372036854775807:=by rw[zAg];omega
    have HLL:Hid (L.length<=30*i/\(zEF (z:Int)).length<=20):=zz ⟨hL,hzl⟩;have HIL:=zz hIL;have gi:IntKind.i64.wrap ((i:Int)+1)=(i:Int)+1:=zY _ (by omega);clear hgc hL hIL HGr hzl hg2;go_wp2_with fail
    refine HIT.out.mono ?_;rintro e w9 ⟨rfl,hb9⟩;have HI9:=zz (HIL.out.below hb9);have HB9:=zz (HBr.out.trans (hb9.mono HBs.out));have HS9:Hid (B0<=w9.heap.size):=zz (zJ HBs.out hb9.size)
    have HWS:Hid (∀ x,x=⟨#[47]⟩ ++ zAc (zEF (z:Int))->Calls Tryz.prog 72 #[.pointer (some ⟨B0,0,none⟩),.string x] w9 fun e w''=>(∃ q:Int,e=.returned (.tuple #[.int .i64 q,.nilIface]))/\BIs 49 [] B0 B0 (L ++ ([47] ++ zEF (z:Int))) w''/\Wk B0 B0 w9 w''):=zz (fun x hx=>by
     subst hx;rw[show (⟨#[47]⟩:ByteArray)=zAc [47] from rfl,zBm];refine (zAY zCG B0 B0 L ([47] ++ zEF (z:Int)) w9 HI9.out (by have:=HLL.out;simp;omega) HS9.out).mono ?_;rintro e w'' ⟨rfl,h1,h2⟩;exact⟨⟨_,rfl⟩,.inr h1,h2⟩)
    clear hb9 HIT hci;go_wp2_with (go_at_call 72;go_must (refine (HWS.out _ (by rfl)).mono ?_))
    rintro e wa ⟨⟨q,rfl⟩,hIa,hka⟩;have HBa:=zz (HB9.out.trans hka.1);have HIa:Hid (∃ L,L.length<=30*(i+1)/\BIs 49 [] B0 B0 L wa):=zz ⟨_,by have:=HLL.out;simp;omega,hIa⟩;clear hIa hka HWS HI9 HB9 HS9 hz1 hz3;go_wp2;go_roundw
    case rel=>exact⟨i+1,by omega,by simp,HBa,HIa⟩
    case measure=>simp[intOf];omega
   ·have hI:¬ (i:Int)<(n':Int):=by omega
    obtain⟨L,hL,hIL⟩:=HIr.out;have HST:=zz (zEp B0 B0 L wr hIL HBs.out);have HBw:Hid (Below w.heap.size w wr):=zz (HB7.out.trans (HBr.out.mono (by rw[HBE.out];have:=HSL.out;omega)));clear hL hIL;go_wp2_with fail
    refine HST.out.mono ?_;rintro e wz ⟨rfl,hbz⟩;have HBz:=zz (HBw.out.trans (hbz.mono (by rw[HBE.out];have:=HSL.out;omega)));clear hbz HST;go_wp2;refine bodyPost_ret (v:=.tuple #[.string (zAc L),.bool true]) (by simp[results,Tryz.results34,go_sem]) rfl ⟨.inr ⟨L,rfl⟩,HBz.out⟩
end Go.Proofs.YtcanfakaigpkgaaGreatDoor.D
namespace Go.Proofs.YtcanfakaigpkgaaGreatDoor.D
open Go Go.RowKit Limb
structure zNm (w:World):Prop where
 c0:∃ t v,w.cell? ⟨1,0,none⟩=some (.iface t v)
 c4:∃ t v,w.cell? ⟨0,0,none⟩=some (.iface t v)
theorem zNm.step{w w':World}(h:zNm w)(hb:Below w.heap.size w w')(hs:21<w.heap.size):zNm w':=by
 obtain⟨⟨t,v,h0⟩,⟨t4,v4,h4⟩⟩:=h;exact⟨⟨t,v,by rw[hb.cell (p:=⟨1,0,none⟩) (by simp;omega)];exact h0⟩,⟨t4,v4,by rw[hb.cell (p:=⟨0,0,none⟩) (by simp;omega)];exact h4⟩⟩
theorem zLL(w:World)(hG:GV w)(N:Nat)(a:VA)(m:Nat)(fs:Nat->VT)(d:Nat)(v:Value)(ar:Nat)(hN:N<=w.heap.size)(hT:zAl w N (.node a m fs) v)(hs:(VT.node a m fs).small d):
  Calls Tryz.prog 35 #[v,.int .i64 (ar:Int)] w fun e w'=>IsB (fun B=>B=false->a.fine m) e/\Below w.heap.size w w':=by
 obtain⟨kind,mag,kb,cap,rfl,hfit,hmag,hc1,hc2,hk⟩:=hT;have hl:=hmag.1;obtain⟨mb,mc,rfl⟩:=hl.slice;have hb:Below w.heap.size w (w.alloc (.cells (zAh a kind (.slice mb a.mag.length mc) (.slice kb m cap)) 31)):=(zK _ _).alloc (zQ _) _;have hB:=Blk.new w (zAh a kind (.slice mb a.mag.length mc) (.slice kb m cap)) 31
 obtain⟨b,o,xs,hx1,hx2⟩:∃ b o xs,(0<m->kb=some ⟨b,o,none⟩/\b<N/\zBO w b o m xs)/\(∀ i,i<m->zAl w N (fs i) (.agg (xs i))):=by
  rcases hk with h|⟨b1,o1,xs,hk,h3,h4,h5⟩
  ·exact⟨0,0,fun _=>#[],fun h'=>by omega,fun i hi=>by omega⟩
  ·exact⟨b1,o1,xs,fun _=>⟨hk,h3,h4⟩,fun i hi=>h5 i hi⟩
 have HA:=zz (zI0 _ (hG.step hb) N (zJ hN hb.size) a kind hfit mb mc (hl.below hb) hs.1 hs.2.1 kb m cap (d - 1) b o xs fs (fun h=>⟨(hx1 h).1,(hx1 h).2.1,(hx1 h).2.2.below (hb.mono hN) (hx1 h).2.1⟩) hs.2.2.1 (fun i hi=>⟨zAl.below (hb.mono hN) _ _ (hx2 i hi),(hs.2.2.2 i hi).2⟩));have HB:=zz hb;have HBl:=zz hB;clear hG hl hmag hk hb hB hx1 hx2 hs hfit;go_enter Tryz.func35,Tryz.ntmps35
 go_upto_region 1 with fail
 refine wp_region_lit ?_;refine wpList_load_row rfl 31 _ rfl w.heap.size rfl 31 _ (0,0) _ HBl.out Tryz.underlying31 rfl (by kernel_rfl) ?_;go_wp2_with fail
 refine HA.out.mono ?_;rintro e w1 ⟨⟨B,rfl,hR⟩,hb1⟩;have HB1:=zz (HB.out.trans (hb1.mono HB.out.size));have HR:=zz hR;clear hb1 hR
 cases B with
 | true=>
  go_wp2;go_ret
  exact⟨IsB.mk false rfl (fun _=>HR.out (by first|rfl|trivial)),HB1.out⟩
 | false=>
  go_wp2;go_ret;exact⟨IsB.mk true rfl (fun h=>Bool.noConfusion h),HB1.out⟩
theorem zMm(w:World)(N:Nat)(a:VA)(m:Nat)(fs:Nat->VT)(v:Value)(ar:Nat)(hT:zAl w N (.node a m fs) v)(har:ar<=4000000):
  Calls Tryz.prog 37 #[v,.int .i64 (ar:Int)] w fun e w'=>IsB (fun _=>True) e/\Below w.heap.size w w':=by
 obtain⟨kind,mag,kb,cap,rfl,hfit,hmag,hc1,hc2,hk⟩:=hT;have hl:=hmag.1;obtain⟨mb,mc,rfl⟩:=hl.slice;have hb:Below w.heap.size w (w.alloc (.cells (zAh a kind (.slice mb a.mag.length mc) (.slice kb m cap)) 31)):=(zK _ _).alloc (zQ _) _;have hB:=Blk.new w (zAh a kind (.slice mb a.mag.length mc) (.slice kb m cap)) 31;have HA:=zz (zDz (w.alloc (.cells (zAh a kind (.slice mb a.mag.length mc) (.slice kb m cap)) 31)) kind (a.n:Int) a.neg (.slice mb a.mag.length mc) (a.bits:Int) a.ext (zAc a.text) (.slice kb m cap));have HB:=zz hb;have HBl:=zz hB;clear hl hmag hk hb hB hfit;generalize decide (kind=7 \/ kind=8 \/ kind=9)=cb at HA;go_enter Tryz.func37,Tryz.ntmps37
 go_upto_region 1 with fail
 refine wp_region_lit ?_;refine wpList_load_row rfl 31 _ rfl w.heap.size rfl 31 _ (0,0) _ HBl.out Tryz.underlying31 rfl (by kernel_rfl) ?_;go_wp2_with fail
 refine HA.out.mono ?_;rintro e w1 ⟨rfl,hb1⟩;have HB1:=zz (HB.out.trans (hb1.mono HB.out.size));clear hb1
 cases cb with
 | true=>
  go_wp2;go_ret
  exact⟨IsB.mk _ rfl trivial,HB1.out⟩
 | false=>
  go_wp2;go_ret;exact⟨IsB.mk false rfl trivial,HB1.out⟩
def zOW(f:VT)(e:Ending):Prop:=(e=.returned .nilIface/\f.All VA.fine) \/ ∃ t v,e=.returned (.iface t v)
theorem zKl(w:World)(hG:GY w)(hE:zNm w)(N:Nat)(f:VT)(d:Nat)(v:Value)(hN:N<=w.heap.size)(hT:zAl w N f v)(hsm:f.small d)(hd:d<=2000000):
  Calls Tryz.prog 12 #[v] w fun e w'=>zOW f e/\Below w.heap.size w w':=by
 have hw1:∀ w,GY w->N<=w.heap.size->zAl w N f v->Calls Tryz.prog 34 #[v,.func (.func 35) #[] #[]] w fun e w'=>zNP VA.fine f e/\Below w.heap.size w w':=fun w hG hN hT=>zH2 35 (fun _ _=>by kernel_rfl) VA.fine w hG (fun a m fs d v ar w' hb hNw hT hs _=>zLL w' (hG.v.step hb) _ a m fs d v ar hNw hT hs) N f d v hN hT hsm hd
 have hw2:∀ w,GY w->N<=w.heap.size->zAl w N f v->Calls Tryz.prog 34 #[v,.func (.func 37) #[] #[]] w fun e w'=>zNP (fun _ _=>True) f e/\Below w.heap.size w w':=fun w hG hN hT=>zH2 37 (fun _ _=>by kernel_rfl) (fun _ _=>True) w hG (fun a m fs d v ar w' hb hNw hT hs har=>(zMm w' _ a m fs v ar hT har).mono fun e w'' ⟨⟨B,h1,_⟩,h2⟩=>⟨⟨B,h1,fun _=>trivial⟩,h2⟩) N f d v hN hT hsm hd
 obtain⟨a,kind,mb,mn,mc,kb,kn,kc,rfl⟩:=hT.cells;have hb:Below w.heap.size w (w.alloc (.cells (zAh a kind (.slice mb mn mc) (.slice kb kn kc)) 31)):=(zK _ _).alloc (zQ _) _;have hB:=Blk.new w (zAh a kind (.slice mb mn mc) (.slice kb kn kc)) 31;have HW1:=zz (hw1 _ (hG.step hb) (zJ hN hb.size) (zAl.below (hb.mono hN) _ _ hT));have HW2:=zz hw2;have HT:=zz hT;have HG:=zz hG;have HE:=zz hE;have HN:=zz hN;have HB:=zz hb;have HBl:=zz hB;clear hG hE hT hb hB hN hw1 hw2 hsm;go_enter Tryz.func12,Tryz.ntmps12
 go_upto_region 1 with fail
 refine wp_region_lit ?_;refine wpList_load_row rfl 31 _ rfl w.heap.size rfl 31 _ (0,0) _ HBl.out Tryz.underlying31 rfl (by kernel_rfl) ?_;go_wp2_with fail
 refine HW1.out.mono ?_;rintro e w2 ⟨⟨rfl,hall⟩|⟨s,rfl⟩,hb2⟩
 ·have HA:=zz hall;have HBl2:=zz (HBl.out.below hb2 HBl.out.lt);have HB2:=zz (HB.out.trans (hb2.mono HB.out.size));have HW3:=zz (HW2.out w2 (HG.out.step HB2.out) (zJ HN.out HB2.out.size) (zAl.below (HB2.out.mono HN.out) _ _ HT.out));clear hb2 HBl HB HW1 HW2 hall;go_upto_region 4 with fail
  refine wp_region_lit ?_;refine wpList_load_row rfl 31 _ rfl w.heap.size rfl 31 _ (0,0) _ HBl2.out Tryz.underlying31 rfl (by kernel_rfl) ?_;go_wp2_with fail
  refine HW3.out.mono ?_;rintro e w3 ⟨⟨rfl,_⟩|⟨s,rfl⟩,hb3⟩
  ·have HB3:=zz (HB2.out.trans (hb3.mono HB2.out.size));clear hb3 HW3;go_wp2;go_ret;exact⟨.inl ⟨rfl,HA.out⟩,HB3.out⟩
  ·have HB3:=zz (HB2.out.trans (hb3.mono HB2.out.size));obtain⟨t4,v4,c4⟩:=(HE.out.step HB3.out HG.out.size).c4;clear hb3 HW3;go_wp2;go_ret;exact⟨.inr ⟨_,_,rfl⟩,HB3.out.alloc HB3.out.size _⟩
 ·have HB2:=zz (HB.out.trans (hb2.mono HB.out.size));obtain⟨t0,v0,c0⟩:=(HE.out.step HB2.out HG.out.size).c0;clear hb2 HBl HB HW1 HW2;go_wp2;go_ret;exact⟨.inr ⟨_,_,rfl⟩,HB2.out.alloc HB2.out.size _⟩
end Go.Proofs.YtcanfakaigpkgaaGreatDoor.D
namespace Go.Proofs.YtcanfakaigpkgaaGreatDoor.D
open Go Go.RowKit Go.Sort Limb
theorem hz0(w:World)(T:TypeId)(nd:Nat)(hs:nd<=24):Holds (fun (b:UInt8)=>Value.int .u8 (b.toNat:Int)) (w.alloc (.cells Lib.zeros24 T)) w.heap.size 0 (Array.replicate nd (0:UInt8)):=fun j hj=>by
 rw[Array.size_replicate] at hj;refine⟨?_,World.frozen?_alloc_new _ _ _ _⟩;rw[World.cell?_alloc_new,Lib.zeros24_at _ (by omega),getElem!_pos _ j (by simpa using hj)];simp
theorem zM1(w:World)(hG:GY w)(u:Nat)(hu64:u<18446744073709551616):
  Calls Tryz.prog 85 #[.int .u64 u,.int .i64 10] w fun e w'=>e=.returned (.string (zAc (zAZ u)))/\Below w.heap.size w w':=by
 by_cases hs:u<100
 ·have g1:(u:Int)<100:=by omega
  have hq:IntKind.i64.wrap (u:Int)=(u:Int):=zY _ (by omega);go_enter Tryz.func85,Tryz.ntmps85
  go_wp2_with (go_at_call 142;refine (Tryz.internal_strconv_small u hs _).mono ?_;rintro e w' ⟨rfl,rfl⟩)
  go_ret;refine⟨?_,zK _ _⟩;rw[<-zIk];rfl
 ·have g1:¬ (u:Int)<100:=by omega
  have hu1:1<=u:=by omega
  have hnd20:Lib.nDigits u<=20:=by have:=Lib.numDigits_eq u hu1 hu64;split at this <;> omega
  have htab:=hG.pw;have HG:=zz hG;clear hG;have hb3:Lib.nDigits u<=24:=by omega
  have hb4:(Lib.nDigits u:Int)<=24:=by omega
  have hsl2:∀ W,(Instr.sliceAt 208 (.pointer (some ⟨w.heap.size,0,none⟩)) none (some (.int .i64 (Lib.nDigits u:Int))) none).run Tryz.prog W=.ok (.slice (some ⟨w.heap.size,0,none⟩) (Lib.nDigits u) 24) W:=fun W=>by
   rw[run_sliceAt_array_h W 208 ⟨w.heap.size,0,none⟩ (by kernel_rfl) .i64 (Lib.nDigits u:Int) (by omega) (by change (Lib.nDigits u:Int)<=24;omega)];rfl
  have hH0:=hz0 w 208 (Lib.nDigits u) (by omega);have hfmt:=Tryz.internal_strconv_formatBase10 w.heap.size 0 24 u (Array.replicate (Lib.nDigits u) 0) (w.alloc (.cells Lib.zeros24 208)) hH0 (by rw[Array.size_replicate];exact Lib.lt_pow_nDigits u) hu64 (by rw[Array.size_replicate];omega);rw[Array.size_replicate] at hfmt;have HH0:=zz hH0;clear hH0;go_enter Tryz.func85,Tryz.ntmps85
  go_wp2_with (first
   | (go_at_call 143;refine (Tryz.internal_strconv_numDigits u hu1 hu64 _ (Lib.tabIs_alloc htab _)).mono ?_;rintro e w' ⟨rfl,rfl⟩))
  go_at_call 144
  refine hfmt.mono ?_;rintro e w' ⟨rfl,k,v',dk,rfl,hF⟩
  have hcv:(convert 47 9 (.slice (some ⟨w.heap.size,0,none⟩) (Lib.nDigits u) 24)).run Tryz.prog ((putRow (fun (b:UInt8)=>Value.int .u8 (b.toNat:Int)) (w.alloc (.cells Lib.zeros24 208)) w.heap.size 0 dk).drewN k)=.ok (.string (zAc (zAZ u))) ((putRow (fun (b:UInt8)=>Value.int .u8 (b.toNat:Int)) (w.alloc (.cells Lib.zeros24 208)) w.heap.size 0 dk).drewN k):=by
   rw[<-zIk];refine zAN _ w.heap.size 0 (Lib.nDigits u) 24 (Lib.decDigits u) (by rw[Lib.decDigits_length]) (fun j hj=>?_);have hj2:j<(Lib.decDigits u).length:=by rw[Lib.decDigits_length];exact hj
   rw[zw,zZ hj2,Option.getD_some,Lib.row_is_numeral hF j hj2,World.cell?_drewN];exact cell?_putRow (fun (b:UInt8)=>Value.int .u8 (b.toNat:Int)) _ w.heap.size 0 _ dk HH0.out (by rw[hF.size,Array.size_replicate]) j (by rw[hF.size];exact hj)
  go_wp2;go_ret;obtain⟨os,eo⟩:=Lib.fin_at w (.cells Lib.zeros24 208) dk k 0;refine⟨rfl,?_⟩;rw[eo];exact zER _ _ _
theorem zJ4(w:World)(hG:GY w)(u:Nat)(hu64:u<18446744073709551616):
  Calls Tryz.prog 44 #[.int .u64 u,.int .i64 10] w fun e w'=>e=.returned (.string (zAc (zAZ u)))/\Below w.heap.size w w':=by
 have H:=zz (zM1 w hG u hu64);clear hG;go_enter Tryz.func44,Tryz.ntmps44
 go_wp2_with fail
 refine H.out.mono ?_;rintro e w' ⟨rfl,hb⟩;have HB:=zz hb;clear hb;go_wp2;go_ret;exact⟨rfl,HB.out⟩
end Go.Proofs.YtcanfakaigpkgaaGreatDoor.D
namespace Go.Proofs.YtcanfakaigpkgaaGreatDoor.D
open Go Go.RowKit Limb
def zJw(x:Nat):List UInt8:=if x=0 then [] else zAZ x
theorem zHM{x:Nat}(h:x≠0):zJw x=zJw (x / 10) ++ [dig (x % 10)]:=by
 unfold zJw;rw[if_neg h];by_cases h1:x<10
 ·rw[zCb h1,if_pos (by omega),Nat.mod_eq_of_lt h1];rfl
 ·rw[zFz h1,if_neg (by omega)]
theorem zFG:∀ (k x:Nat),x<10 ^ k->(zJw x).length<=k
 | 0,x,h=>by
  have h0:x=0:=by simpa using h
  subst h0;decide
 | k+1,x,h=>by
  by_cases h0:x=0
  ·subst h0;simp[zJw]
  ·rw[zHM h0,List.length_append];have:=zFG k (x / 10) (by rw[Nat.pow_succ] at h;omega);simp;omega
def DgR(w:World)(X R:Nat):Prop:=∃ v,Blk w X #[v] 26/\(∃ b n c,v=.slice b n c)/\zAf w v (zAb R)
theorem zO5{v:Value}(h:∃ b n c,v=.slice b n c):∀ (i:Nat) (x:Int),(#[v]:Array Value)[i]?≠some (.int .u32 x):=by
 obtain⟨b,n,c,rfl⟩:=h;intro i x h
 match i with
 | 0=>simp at h
 | i+1=>simp at h
theorem DgR.lt{w:World}{X R:Nat}(h:DgR w X R):X<w.heap.size:=by
 obtain⟨v,hb,_⟩:=h;exact hb.lt
theorem DgR.below{w w':World}{X R:Nat}(h:DgR w X R)(hb:Below w.heap.size w w'):DgR w' X R:=by
 obtain⟨v,h1,h2,h3⟩:=h;exact⟨v,h1.below hb h1.lt,h2,h3.below hb⟩
theorem DgR.grown{w w':World}{X R B:Nat}{v:Value}{L:List UInt8}(hr:DgR w X R)(ho:Own B w v L)(hN:NoU w v)(hX:X<B)(hg:w.grownBy w' v.ownBlock):DgR w' X R:=by
 have hE:∀ g,v.ownBlock=some g->Ex (fun k=>k=g) w.heap.size w w':=fun g e=>⟨hg.os,hg.tape,hg.output,hg.size,fun k hk hs=>hg.block k hk (fun e'=>by rw[e] at e';exact hs (Option.some.inj e'))⟩
 cases hb:v.ownBlock with
 | none=>
  refine hr.below ⟨hg.os,hg.tape,hg.output,hg.size,fun k hk=>hg.block k hk (by rw[hb];simp)⟩
 | some g=>
  obtain⟨cur,h1,h2⟩:=hN g hb;have he:=hE g hb
  have hgB:B<=g:=by
   obtain⟨_,⟨rfl,_⟩|⟨g',cap,c,rfl,hB,_⟩⟩:=ho
   ·simp[Value.ownBlock] at hb
   ·simp only[Value.ownBlock,Option.some.injEq] at hb;omega
  obtain⟨vn,k1,k2,k3⟩:=hr;exact⟨vn,he.blk k1 k1.lt (by omega),k2,zAf.ex k3 h1 h2 he⟩
theorem zMV(w:World)(X R:Nat)(h:DgR w X R)(hl:(zAb R).length<=34359738368):
  Calls Tryz.prog 179 #[.pointer (some ⟨X,0,none⟩)] w fun e w'=>e=.returned (.int .u32 ((R % 1000000000:Nat):Int))/\DgR w' X (R / 1000000000)/\Ex (fun k=>k=X) w.heap.size w w':=by
 obtain⟨v,hB,⟨b0,n0,c0,rfl⟩,hL⟩:=h;have hc:w.cell? ⟨X,0,none⟩=some (.slice b0 n0 c0):=hB.cell 0;have HS:=zz (zDu w _ (zAb R) 1000000000 hL hl (by omega) (by omega));rw[zAe] at HS;have HB:=zz hB;clear hB hL hl;generalize hq:R % 1000000000=q at *;generalize hr:R / 1000000000=r at *;clear hq hr;go_enter Tryz.func179,Tryz.ntmps179
 go_wp2_with fail
 refine HS.out.mono ?_;rintro e w1 ⟨hb1,v1,rfl,hl1⟩;obtain⟨b1,c1,rfl⟩:=hl1.slice;have hB1:=HB.out.below hb1 HB.out.lt;have f1:=hB1.free 0;have d1:w1.cell? ⟨X,0,none⟩=some (.slice b0 n0 c0):=hB1.cell 0;have hB2:=hB1.set 0 (.slice b1 (zAb r).length c1);have hL2:=hl1.set hB1 (zO5 ⟨_,_,_,rfl⟩) 0 (.slice b1 (zAb r).length c1);have HR2:Hid (DgR (w1.setCell ⟨X,0,none⟩ (.slice b1 (zAb r).length c1)) X r):=zz ⟨_,hB2,⟨_,_,_,rfl⟩,hL2⟩;have HE2:Hid (Ex (fun k=>k=X) w.heap.size w (w1.setCell ⟨X,0,none⟩ (.slice b1 (zAb r).length c1))):=zz ((Ex.of_below (S:=fun k=>k=X) hb1).setCell X 0 (.inl rfl) _);clear hB1 hB2 hL2 hb1 HB HS hc hl1;go_wp2;go_ret;exact⟨rfl,HR2.out,HE2.out⟩
theorem zQK(R k n:Nat)(hk:k<9):R*10 ^ (9 - k)+n=(R*10 ^ (9 - (k+1))+n / 10)*10+n % 10:=by
 rw[show 9 - k=(9 - (k+1))+1 by omega,Nat.pow_succ,Nat.add_mul,Nat.mul_assoc];omega
def Dgs(x X:Nat)(out:List UInt8):Prop:=zJw x=zJw X ++ out.reverse
theorem Dgs.step{x X:Nat}{out:List UInt8}(h:Dgs x X out)(h0:X≠0):Dgs x (X / 10) (out ++ [dig (X % 10)]):=by
 unfold Dgs at h ⊢;rw[h,zHM h0];simp
theorem Dgs.len{x X k:Nat}{out:List UInt8}(h:Dgs x X out)(hx:x<10 ^ k):out.length<=k:=by
 have:=zFG k x hx;unfold Dgs at h;rw[h,List.length_append,List.length_reverse] at this;omega
theorem zB9{B:Nat}{w:World}{v:Value}{L:List UInt8}(h:Own B w v L):∃ b c,v=.slice b L.length c:=by
 obtain⟨_,⟨hv,h0⟩|⟨g,cap,cur,hv,_⟩⟩:=h
 ·exact⟨_,_,by rw[hv,h0]⟩
 ·exact⟨_,_,hv⟩
theorem zLN:Go.Proofs.OneCell (fun (b:UInt8)=>Value.int .u8 (b.toNat:Int)):=fun _=>rfl
theorem zAs(L:List UInt8):Lib.byteCells L=L.map (fun (b:UInt8)=>Value.int .u8 (b.toNat:Int)):=rfl
theorem zHd(B g cap:Nat)(L:List UInt8)(w:World)(h:Own B w (.slice (some ⟨g,0,none⟩) L.length cap) L)(hl:L.length<=140737488355328):
  Calls Tryz.prog 132 #[.slice (some ⟨g,0,none⟩) L.length cap] w fun e w'=>e=.returned (.tuple #[])/\Own B w' (.slice (some ⟨g,0,none⟩) L.length cap) L.reverse/\Below B w w':=by
 unfold Own at h;rw[zAs] at h;obtain⟨g',cap',hv,hg,hlt,hn,hm,hll,hH⟩:=Lib.holds_of_ownsRow h (by simp);simp only[Value.slice.injEq,Option.some.injEq,Addr.mk.injEq,true_and,and_true] at hv;obtain⟨rfl,rfl⟩:=hv;refine (Tryz.slices_Reverse _ zLN g 0 cap L w hH (by omega)).mono ?_;rintro e w' ⟨rfl,q,rfl⟩;refine⟨rfl,?_,Lib.below_putRow (zK _ _) hg⟩;have h2:=Lib.ownsRow_putRow (q:=q) (ys:=L.reverse) h (by simp) (zQ _);unfold Own;rw[zAs,List.length_reverse];rw[List.take_of_length_le (by simp)] at h2;exact h2
theorem zHq(w:World)(v:Value)(l:List Nat)(h:zAf w v l)(hl:l.length<=1048576)(kk:Nat)(hkk:kk<=100000000)(hx:val l<10 ^ kk):
  Calls Tryz.prog 127 #[v] w fun e w'=>e=.returned (.string (zAc (zAZ (val l))))/\Below w.heap.size w w':=by
 have HN:=zz (zBi w v l h (by omega));rw[zAv h.fit] at HN;have HLL:Hid (∀ y,y<=val l->(zAb y).length<=1048576):=zz (fun y hy=>zJ (zAq (Nat.lt_of_le_of_lt hy (zBY h.fit))) hl);have HXL:=zz hx;have HKK:=zz hkk;clear h hl hx hkk;obtain⟨x,hx⟩:∃ x,x=val l:=⟨_,rfl⟩;rw[<-hx] at HN HLL HXL ⊢;clear hx;go_enter Tryz.func127,Tryz.ntmps127
 go_wp2_with fail
 refine HN.out.mono ?_;rintro e w1 ⟨hb1,v1,rfl,hl1,_⟩;obtain⟨b1,c1,rfl⟩:=hl1.slice;have hb2:Below w.heap.size w (w1.alloc (.cells #[.slice b1 (zAb x).length c1] 26)):=hb1.alloc hb1.size _;have hR2:DgR (w1.alloc (.cells #[.slice b1 (zAb x).length c1] 26)) w1.heap.size x:=⟨_,Blk.new _ _ _,⟨_,_,_,rfl⟩,hl1.below ((zK _ _).alloc (zQ _) _)⟩;have HE2:Hid (Ex (fun k=>k=w1.heap.size) (w1.heap.size+1) (w1.alloc (.cells #[.slice b1 (zAb x).length c1] 26)) (w1.alloc (.cells #[.slice b1 (zAb x).length c1] 26))):=zz (Ex.refl _ _ _);have HS2:Hid ((w1.alloc (.cells #[.slice b1 (zAb x).length c1] 26)).heap.size=w1.heap.size+1):=zz (by simp);have HB2:=zz hb2;have HR2:=zz hR2;have HW1:=zz hb1.size;clear hb1 hl1 hb2 hR2 HN;have hmf:∀ (fn:Fn) (first cap:Array Value) (w:World),(Instr.makeFunc fn first cap).run Tryz.prog w=.ok (.func fn first cap) w:=fun _ _ _ _=>rfl
 go_wp2;clear hmf;have HRLT:Hid (w1.heap.size<(w1.alloc (.cells #[.slice b1 (zAb x).length c1] 26)).heap.size):=zz (by simp);generalize w1.alloc (.cells #[.slice b1 (zAb x).length c1] 26)=w2 at HE2 HS2 HB2 HR2 HRLT ⊢;obtain⟨X,hX⟩:∃ X,X=w1.heap.size:=⟨_,rfl⟩;rw[<-hX] at HE2 HS2 HR2 HRLT HW1 ⊢;clear hX HE2;have HO2:Hid (Own (X+1) w2 (.slice none 0 0) []/\NoU w2 (.slice none 0 0)):=zz ⟨⟨rfl,.inl ⟨rfl,rfl⟩⟩,NoU.nil w2⟩;go_loopw [5] (fun sv wr=>∃ (out:List UInt8) (R:Nat),Hid (Dgs x R out)/\(∃ b c,sv=.slice b out.length c)/\Hid (R<=x)/\Hid (Own (X+1) wr sv out/\NoU wr sv)/\Hid (DgR wr X R)/\Hid (Below w.heap.size w wr)) (fun sv _=>kk+1 - zCs sv)
 case atStart=>exact⟨[],x,zz (by simp[Dgs]),⟨_,_,rfl⟩,zz (zQ _),HO2,HR2,HB2⟩
 case round=>
  clear HO2 HR2 HB2 HS2 HRLT;obtain⟨out,R,HD,⟨sb,sc,rfl⟩,HRX,HO,HR,HB⟩:=hrel;obtain⟨rv,hrb,⟨rb,rn,rc,rfl⟩,hrl⟩:=HR.out;have cX:wr.cell? ⟨X,0,none⟩=some (.slice rb rn rc):=hrb.cell 0
  have hrn:rn=(zAb R).length:=by
   obtain⟨_,_,e⟩:=hrl.slice;simp only[Value.slice.injEq] at e;exact e.2.1
  clear hrb hrl;by_cases h0:R=0
  ·have g1:¬ (rn:Int) > 0:=by rw[hrn,h0,zAn];simp
   subst h0;have HF:Hid (zJw x=out.reverse):=zz (by have:=HD.out;unfold Dgs at this;rw[this];simp[zJw]);have HOL:Hid (out.length<=kk):=zz (HD.out.len HXL.out);rw[zAn] at hrn;simp only[List.length_nil] at hrn;subst hrn;clear HR HD HRX
   cases out with
   | nil=>
    have HX0:Hid (x=0):=zz (by
     have h1:=HF.out;unfold zJw at h1
     split at h1
     ·assumption
     ·exfalso
      unfold zAZ at h1;have:=zKI x;simp at h1;exact this h1)
    go_wp2;go_ret;refine⟨?_,HB.out⟩;rw[HX0.out,zCb (by decide)]
    rfl
   | cons c0 out0=>
    obtain⟨out,hout⟩:∃ out,out=c0 :: out0:=⟨_,rfl⟩;rw[<-hout] at HF HO HOL ⊢;have hpos:0<out.length:=by rw[hout];simp
    have HT:Hid (zAZ x=out.reverse):=zz (by
     have h1:=HF.out;unfold zJw at h1
     split at h1
     ·exfalso
      have:=congrArg List.length h1;rw[List.length_reverse] at this;simp at this;omega
     ·exact h1)
    clear hout HF
    obtain⟨g,cap,hv,hg⟩:∃ g cap,Value.slice sb out.length sc=.slice (some ⟨g,0,none⟩) out.length cap/\X+1<=g:=by
     obtain⟨_,⟨hz,h0⟩|⟨g,cap,cur,hv,hg,_⟩⟩:=HO.out.1
     ·omega
     ·exact⟨g,cap,hv,hg⟩
    simp only[Value.slice.injEq,true_and] at hv;obtain⟨rfl,rfl⟩:=hv;have HRV:=zz (zHd (X+1) g sc out wr HO.out.1 (by have:=HOL.out;have:=HKK.out;omega));have gl:((out.length:Int) == 0)=false:=beq_eq_false_iff_ne.2 (by omega);have HP:=zz hpos;clear HO hpos;go_wp2_with fail
    refine HRV.out.mono ?_;rintro e w9 ⟨rfl,ho9,hb9⟩
    have hcv:=zAN w9 g 0 out.length sc out.reverse (by simp) (fun i hi=>by
     have h5:=World.ownsRow.cells ho9 (g:=g) rfl i _ (by
      rw[zAs,List.getElem?_map,zZ (by rw[List.length_reverse];exact hi)];rfl)
     rw[zAQ] at h5;rw[h5,zw,zZ (by rw[List.length_reverse];exact hi)];rfl)
    have HB9:=zz (HB.out.trans (hb9.mono (by have:=HW1.out;omega)));rw[<-HT.out] at hcv;clear ho9 hb9 HRV HB;go_wp2;go_ret;exact⟨rfl,HB9.out⟩
  ·have g1:(rn:Int) > 0:=by
    have:=zAk h0;omega
   have HTK:=zz (zMV wr X R HR.out (by have:=HLL.out _ HRX.out;omega));go_wp2_with fail
   refine HTK.out.mono ?_;rintro e w3 ⟨rfl,hr3,he3⟩;have HO3:Hid (Own (X+1) w3 (.slice sb out.length sc) out/\NoU w3 (.slice sb out.length sc)):=zz ⟨HO.out.1.ex he3 (by omega),HO.out.2.ex HO.out.1 (by omega) he3⟩;have HR3:=zz hr3;have HB3:=zz (HB.out.trans (he3.below (B':=w.heap.size) HB.out.size (fun k hk=>by rw[hk];exact HW1.out)))
   have HD3:Hid (Dgs x (R / 1000000000*10 ^ (9 - 0)+R % 1000000000) out):=zz (by
    have e:R / 1000000000*10 ^ (9 - 0)+R % 1000000000=R:=by rw[show (10:Nat) ^ (9 - 0)=1000000000 from rfl];omega
    rw[e];exact HD.out)
   have HN3:Hid (R % 1000000000<10 ^ (9 - 0)):=zz (Nat.mod_lt _ (by decide));have HZ3:Hid (R / 1000000000*10 ^ (9 - 0)+R % 1000000000≠0):=zz (by rw[show (10:Nat) ^ (9 - 0)=1000000000 from rfl];omega);have HRX3:Hid (R / 1000000000<=x):=zz (zJ (Nat.div_le_self _ _) HRX.out);clear hr3 he3 HO HR HB HD HTK cX g1 hrn h0 HRX;generalize R / 1000000000=R1 at HR3 HD3 HZ3 HRX3;generalize R % 1000000000=n0 at HD3 HN3 HZ3 ⊢;go_wp2;go_loopw [5,6,7] (fun sv nv kv wr=>∃ (o2:List UInt8) (n k:Nat),nv=.int .u32 (n:Int)/\kv=.int .i64 (k:Int)/\k<=9/\(∃ b c,sv=.slice b o2.length c)/\o2.length=out.length+k/\Hid (n<10 ^ (9 - k))/\Hid (Dgs x (R1*10 ^ (9 - k)+n) o2)/\Hid (k=0->R1*10 ^ (9 - k)+n≠0)/\Hid (Own (X+1) wr sv o2/\NoU wr sv)/\Hid (DgR wr X R1)/\Hid (Below w.heap.size w wr)) (fun _ _ kv _=>9 - (intOf kv).toNat)
   case atStart=>exact⟨out,n0,0,rfl,rfl,by omega,⟨_,_,rfl⟩,rfl,HN3,HD3,zz (fun _=>HZ3.out),HO3,HR3,HB3⟩
   case round=>
    clear HO3 HR3 HB3 HD3 HN3 HZ3;obtain⟨o2,n,k,rfl,rfl,hk9,⟨sb2,sc2,rfl⟩,hlen,HN,HD,HZ,HO,HR,HB⟩:=hrel;have HLEN:=zz hlen;have HOL:Hid (o2.length<=kk):=zz (HD.out.len HXL.out);obtain⟨rv,hrb,⟨rb,rn,rc,rfl⟩,hrl⟩:=HR.out;have cX:wr.cell? ⟨X,0,none⟩=some (.slice rb rn rc):=hrb.cell 0
    have hrn:rn=(zAb R1).length:=by
     obtain⟨_,_,e⟩:=hrl.slice;simp only[Value.slice.injEq] at e;exact e.2.1
    clear hrb hrl hlen;by_cases h9:k<9
    ·have g9:(k:Int)<9:=by omega
     by_cases h0:R1*10 ^ (9 - k)+n=0
     ·have hz:n=0/\R1=0:=by
       have h1:R1*10 ^ (9 - k)=0:=by omega
       rcases Nat.mul_eq_zero.1 h1 with h|h
       ·exact⟨by omega,h⟩
       ·exact absurd h (Nat.ne_of_gt (Nat.pow_pos (by omega)))
      obtain⟨rfl,hR10⟩:=hz;subst hR10;rw[zAn] at hrn;simp only[List.length_nil] at hrn;subst hrn;have HD2:Hid (Dgs x 0 o2):=zz (by have:=HD.out;rw[Nat.zero_mul,Nat.add_zero] at this;exact this);have HK2:Hid (k≠0):=zz (fun e=>HZ.out e h0);clear HD HN HZ h0;go_wp2;go_roundw
      case rel=>exact⟨o2,0,HD2,⟨_,_,rfl⟩,zz (Nat.zero_le _),HO,HR,HB⟩
      case measure=>have:=HK2.out;have:=HLEN.out;have:=HOL.out;simp[zCs];omega
     ·have hc1:0<n \/ (n=0/\0<rn):=by
       rcases Nat.eq_zero_or_pos n with h|h
       ·right;refine⟨h,?_⟩;rw[hrn];refine zAk (fun e=>h0 ?_);rw[e,h];simp
       ·exact .inl h
      have HX0:=zz h0;have HK9:=zz h9;have gk:IntKind.i64.wrap ((k:Int)+1)=((k+1:Nat):Int):=by rw[zY _ (by omega)];omega
      have hn10:10 ^ (9 - k)<=10 ^ 9:=Nat.pow_le_pow_right (by omega) (by omega);have hnb:n<1000000000:=Nat.lt_of_lt_of_le HN.out (by simpa using hn10);clear hn10;obtain⟨q,hq⟩:∃ q,q=n / 10:=⟨_,rfl⟩;obtain⟨m,hm⟩:∃ m,m=n % 10:=⟨_,rfl⟩;have g2:(n:Int) % 10=(m:Int):=by omega
      have g3:(n:Int) / 10=(q:Int):=by omega
      have g4:IntKind.u32.wrap (48+(m:Int))=48+(m:Int):=by rw[IntKind.wrap_u32];omega
      have g5:IntKind.u8.wrap (48+(m:Int))=48+(m:Int):=by rw[IntKind.wrap_u8];omega
      have g6:IntKind.u32.wrap (q:Int)=(q:Int):=by rw[IntKind.wrap_u32];omega
      have hd:((dig m).toNat:Int)=48+(m:Int):=by rw[zA4 (by omega)];omega
      have HST:Hid (Dgs x (R1*10 ^ (9 - (k+1))+q) (o2 ++ [dig m])):=zz (by
       have e:=HD.out.step h0;rw[zQK R1 k n h9,<-hq,<-hm] at e;rw[show ((R1*10 ^ (9 - (k+1))+q)*10+m) / 10=R1*10 ^ (9 - (k+1))+q by omega,show ((R1*10 ^ (9 - (k+1))+q)*10+m) % 10=m by omega] at e;exact e)
      have HQN:Hid (q<10 ^ (9 - (k+1))):=zz (by
       have:=HN.out;rw[show 9 - k=(9 - (k+1))+1 by omega,Nat.pow_succ] at this;omega)
      have g4':IntKind.u32.wrap (m:Int)=(m:Int):=by rw[IntKind.wrap_u32];omega
      have hO:=Own.below HO.out.1 ((zK wr.heap.size wr).alloc (zQ _) (.cells #[.int .u8 (48+(m:Int))] 5));have hN:=HO.out.2.below ((zK wr.heap.size wr).alloc (zQ _) (.cells #[.int .u8 (48+(m:Int))] 5));have hlt:=World.ownsRow.lt hO;have hcc:Lib.byteCells (o2 ++ [dig m])=Lib.byteCells o2 ++ [.int .u8 (48+(m:Int))]:=by rw[<-hd];simp[Lib.byteCells]
      have hXR:=HR.out.lt;have hRa:=HR.out.below ((zK wr.heap.size wr).alloc (zQ _) (.cells #[.int .u8 (48+(m:Int))] 5));have HRA:=zz hRa;have HBS:=zz HB.out.size;have HWX:=zz HW1.out;have hol:=HOL.out;have hkk':=HKK.out;have HLTB:=zz hlt;clear hq hm h0 HN HD HZ hd hlt hRa;generalize dig m=dm at hcc HST;rcases hc1 with hc1|⟨hn0,hc1⟩
      ·have gn:(n:Int) > 0:=by omega
       go_wp2_with (at_builtin;go_must (refine zAJ rfl _ _ rfl (X+1) _ _ rfl hO hN ⟨wr.heap.size,0,none⟩ 1 (48+(m:Int)) rfl (by simp[Addr.add]) (by omega) (by simp;omega) ?_))
       intro v' z1 hown' hgrow hnz;have HBz:=zz ((HB.out.alloc HBS.out (.cells #[.int .u8 (48+(m:Int))] 5)).grown hgrow (by have:=HBS.out;simp;omega) (fun k hk=>by have:=(HLTB.out k hk).1;have:=HWX.out;omega));have HRz:=zz (HRA.out.grown hO hN (by omega) hgrow);have HOz:Hid (Own (X+1) z1 v' (o2 ++ [dm])/\NoU z1 v'):=zz ⟨by unfold Own;rw[List.length_append,List.length_singleton,hcc];exact hown',hnz⟩;clear hown' hgrow hO hN hcc hnz HB HO HR HRA;obtain⟨b9,c9,rfl⟩:=zB9 HOz.out.1;go_wp2;go_roundw
       case rel=>exact⟨o2 ++ [dm],q,k+1,(by first|rfl|(simp;done)|(simp;exact g3)),(by first|rfl|simp),(by have:=HK9.out;omega),⟨_,_,rfl⟩,(by have:=HLEN.out;simp;omega),HQN,HST,zz (fun e=>absurd e (by omega)),HOz,HRz,HBz⟩
       case measure=>have:=HK9.out;simp[intOf];omega
      ·have gn:¬ (n:Int) > 0:=by omega
       have gr:(rn:Int) > 0:=by omega
       clear hn0;generalize (n:Int)=Ni at *;go_wp2_with (at_builtin;go_must (refine zAJ rfl _ _ rfl (X+1) _ _ rfl hO hN ⟨wr.heap.size,0,none⟩ 1 (48+(m:Int)) rfl (by simp[Addr.add]) (by omega) (by simp;omega) ?_))
       intro v' z1 hown' hgrow hnz;have HBz:=zz ((HB.out.alloc HBS.out (.cells #[.int .u8 (48+(m:Int))] 5)).grown hgrow (by have:=HBS.out;simp;omega) (fun k hk=>by have:=(HLTB.out k hk).1;have:=HWX.out;omega));have HRz:=zz (HRA.out.grown hO hN (by omega) hgrow);have HOz:Hid (Own (X+1) z1 v' (o2 ++ [dm])/\NoU z1 v'):=zz ⟨by unfold Own;rw[List.length_append,List.length_singleton,hcc];exact hown',hnz⟩;clear hown' hgrow hO hN hcc hnz HB HO HR HRA;obtain⟨b9,c9,rfl⟩:=zB9 HOz.out.1;go_wp2;go_roundw
       case rel=>exact⟨o2 ++ [dm],q,k+1,(by first|rfl|(simp;done)|(simp;exact g3)),(by first|rfl|simp),(by have:=HK9.out;omega),⟨_,_,rfl⟩,(by have:=HLEN.out;simp;omega),HQN,HST,zz (fun e=>absurd e (by omega)),HOz,HRz,HBz⟩
       case measure=>have:=HK9.out;simp[intOf];omega
    ·have hk:k=9:=by omega
     subst hk;have g9:¬ ((9:Nat):Int)<9:=by omega
     have HD2:Hid (Dgs x R1 o2):=zz (by
      have h1:=HD.out;have h2:=HN.out;rw[Nat.sub_self,Nat.pow_zero] at h1 h2;rw[Nat.mul_one,show n=0 by omega,Nat.add_zero] at h1;exact h1)
     clear HD HN HZ;go_wp2;go_roundw
     case rel=>exact⟨o2,R1,HD2,⟨_,_,rfl⟩,HRX3,HO,HR,HB⟩
     case measure=>have:=HLEN.out;have:=HOL.out;simp[zCs];omega
end Go.Proofs.YtcanfakaigpkgaaGreatDoor.D
