/-
  Of the proof that the law DiagUnlike answers true at every two values: a part, without conditions of its own.
-/
import Derived.Test.YtcanfakaigpkgaaGreatDoorPart08
import Derived.Test.YtcanfakaigpkgaaGreatDoorPart10
import Derived.Test.YtcanfakaigpkgaaGreatDoorPart06
set_option linter.unusedVariables false
set_option linter.unusedSimpArgs false
set_option maxRecDepth 100000
set_option maxHeartbeats 8000000
namespace Go.Proofs.YtcanfakaigpkgaaGreatDoor.D
open Go Go.RowKit Limb
theorem zNq(w:World)(hG:zAK w)(hC:zHe w)(b mm:Int)(n:Nat)(m e ex:Int)(hb:zFv b mm n m e ex)(he:e<0):
  Calls Tryz.prog 124 #[.int .u64 b] w fun e' w'=>e'=.returned (.tuple #[.agg #[.bool false,.slice none 0 0],.bool false])/\Below w.heap.size w w':=by
 have hbx:Below w.heap.size w (w.alloc (.cells #[.bool false,.slice none 0 0] 28)):=(zK _ _).alloc (zQ _) _;have hB:=Blk.new w #[.bool false,.slice none 0 0] 28;have HP:=zz (zDw _ (hG.below hbx hG.size) (hC.below hbx hC.size) b mm n m e ex hb);have HB:=zz hB;have HX:=zz hbx;clear hb hG hC hbx hB;go_enter Tryz.func124,Tryz.ntmps124
 go_wp2_with fail
 refine HP.out.mono ?_;rintro e' w1 ⟨rfl,hb1⟩;have hB1:=HB.out.below hb1 HB.out.lt;have c0:=hB1.cell 0;have c1:=hB1.cell 1;have f0:=hB1.free 0;have f1:=hB1.free 1;simp only[zv,zk,zx] at c0 c1;have HB1:=zz (HX.out.trans (hb1.mono HX.out.size));clear hb1 hB1 HB HX HP;go_wp2;refine bodyPost_ret (v:=.tuple #[.agg #[.bool false,.slice none 0 0],.bool false]) (by simp[results,Tryz.results124,go_sem,c0,c1]) rfl ⟨rfl,?_⟩;exact (HB1.out.setCell (by simp) _).setCell (by simp) _
theorem zIV(w:World)(hG:zAK w)(hC:zHe w):
  Calls Tryz.prog 74 #[.int .u64 zBz] w fun e' w'=>e'=.returned (.bool true)/\Below w.heap.size w w':=by
 have HG:=zz hG;have HC:=zz hC;clear hG hC;go_enter Tryz.func74,Tryz.ntmps74
 go_wp2_with fail
 refine (zCg w HG.out zBz zBN).mono ?_;rintro e' w1 ⟨rfl,hb1⟩;have HB1:=zz hb1;clear hb1;go_wp2_with fail
 refine (zNq w1 (HG.out.below HB1.out HG.out.size) (HC.out.below HB1.out HC.out.size) zBz _ _ _ _ _ zCl (by decide)).mono ?_;rintro e' w2 ⟨rfl,hb2⟩;have HB2:=zz ((HB1.out.trans (hb2.mono HB1.out.size)).alloc (zJ HB1.out.size hb2.size) (.cells #[.bool false,.slice none 0 0] 28));clear hb2;go_wp2;go_ret;exact⟨rfl,HB2.out⟩
theorem zG2(w:World)(hG:zAK w)(hC:zHe w):
  Calls Tryz.prog 36 #[.agg #[.int .i8 4,.int .u64 0,.bool false,.slice none 0 0,.int .u64 zBz,.int .i8 0,.string ⟨#[]⟩,.slice none 0 0]] w fun e w'=>e=.returned (.bool true)/\Below w.heap.size w w':=by
 have hb:Below w.heap.size w (w.alloc (.cells #[.int .i8 4,.int .u64 0,.bool false,.slice none 0 0,.int .u64 zBz,.int .i8 0,.string ⟨#[]⟩,.slice none 0 0] 31)):=(zK _ _).alloc (zQ _) _;have hB:=Blk.new w #[.int .i8 4,.int .u64 0,.bool false,.slice none 0 0,.int .u64 zBz,.int .i8 0,.string ⟨#[]⟩,.slice none 0 0] 31;have HC:=zz (zIV _ (hG.below hb hG.size) (hC.below hb hC.size));have HBl:=zz hB;have HB:=zz hb;clear hb hB hG hC;go_enter Tryz.func36,Tryz.ntmps36
 go_wp2_with fail
 refine HC.out.mono ?_;rintro e w1 ⟨rfl,hb1⟩;have hB1:=HBl.out.below hb1 HBl.out.lt;have HB1:=zz (HB.out.trans (hb1.mono (by simp)));have c0:=hB1.cell 0;have c1:=hB1.cell 1;have c2:=hB1.cell 2;have c3:=hB1.cell 3;have c4:=hB1.cell 4;have c5:=hB1.cell 5;have c6:=hB1.cell 6;have c7:=hB1.cell 7;have f4:=hB1.free 4;simp only[zv,zk,zx] at c0 c1 c2 c3 c4 c5 c6 c7;clear hb1 hB1 HBl HB HC;go_wp2;go_ret;exact⟨rfl,HB1.out.setCell (by simp) _⟩
theorem zF3(w:World)(hG:zAK w)(hC:zHe w)(N:Nat)(f:F)(d:Nat)(v:Value)(h:zAU w N f d v):
  Calls Tryz.prog 36 #[v] w fun e w'=>e=.returned (.bool true)/\Below w.heap.size w w':=by
 cases f with
 | stop=>exact h.elim
 | node t X fs=>
  obtain⟨kind,n,mag,bits,ext,text,kids,m,rfl,⟨rfl,hf⟩,_,hk⟩:=h
  have hkids:∃ b c,kids=.slice b m c:=by
   rcases hk with ⟨rfl,rfl,_⟩|⟨_,b,o,cap,xs,ds,rfl,_⟩ <;> exact⟨_,_,rfl⟩
  have hz:m=0->kids=.slice none 0 0:=by
   rintro rfl;rcases hk with ⟨_,rfl,_⟩|⟨h,_⟩
   ·rfl
   ·omega
  clear hk;unfold zAa;rcases hf with ⟨rfl,rfl,rfl,rfl,rfl,rfl⟩|⟨rfl,rfl,rfl,rfl,rfl,x,hx,hl,_⟩|⟨rfl,rfl,rfl,rfl,rfl,rfl⟩|⟨rfl,rfl,rfl,rfl,ht,rfl⟩|⟨rfl,rfl,rfl,rfl,rfl,h1,h2⟩|⟨rfl,rfl,rfl,rfl,rfl,rfl⟩|⟨rfl,hn,rfl,rfl,rfl,rfl⟩
  ·rw[hz rfl];exact zIv w
  ·rw[hz rfl];exact zKR w mag x hl
  ·rw[hz rfl];exact zG2 w hG hC
  ·rw[hz rfl];exact zGQ w text
  ·obtain⟨b,c,rfl⟩:=hkids;exact zIH w b m c
  ·obtain⟨b,c,rfl⟩:=hkids;exact zLg w b c
  ·obtain⟨b,c,rfl⟩:=hkids;exact zLh w n hn b c
theorem zAU.kind{w:World}{N:Nat}{f:F}{d:Nat}{kind n:Int}{mag:Value}{bits ext:Int}{text:ByteArray}{kids:Value}(h:zAU w N f d (.agg (zAa kind n false mag bits ext text kids))):(d=0/\kind≠7/\kind≠8/\kind≠9) \/ (0<d/\(kind=7 \/ kind=8 \/ kind=9)):=by
 cases f with
 | stop=>exact h.elim
 | node t X fs=>
  obtain⟨kind',n',mag',bits',ext',text',kids',m,hv,hf,_,hk⟩:=h;simp only[zAa,Value.agg.injEq] at hv;have hv0:=congrArg (fun a:Array Value=>a[0]?) hv;simp at hv0;subst hv0;rcases hk with ⟨rfl,rfl,rfl⟩|⟨h0,b,o,cap,xs,ds,_,_,_,_,_,_,i,_,hi⟩
  ·exact .inl ⟨rfl,hf.leaf⟩
  ·exact .inr ⟨by omega,hf.cont h0⟩
theorem zIS(w:World)(hG:zAK w)(hC:zHe w)(N:Nat)(f:F)(d:Nat)(v:Value)(ar:Int)(hN:N<=w.heap.size)(hT:zAU w N f d v):
  Calls Tryz.prog 35 #[v,.int .i64 ar] w fun e w'=>e=.returned (.bool false)/\Below w.heap.size w w':=by
 obtain⟨kind,nn,mb,mn,mc,bits,ext,text,kb,kn,kc,rfl⟩:=hT.cells;have hb:Below w.heap.size w (w.alloc (.cells (zAa kind nn false (.slice mb mn mc) bits ext (zAc text) (.slice kb kn kc)) 31)):=(zK _ _).alloc (zQ _) _;have hB:=Blk.new w (zAa kind nn false (.slice mb mn mc) bits ext (zAc text) (.slice kb kn kc)) 31;have HA:=zz (zF3 _ (hG.below hb hG.size) (hC.below hb hC.size) N f d _ (zAU.below (hb.mono hN) _ _ _ hT));have HB:=zz hb;have HBl:=zz hB;clear hG hC hT hb hB;go_enter Tryz.func35,Tryz.ntmps35
 go_upto_region 1 with fail
 refine wp_region_lit ?_;refine wpList_load_row rfl 31 _ rfl w.heap.size rfl 31 _ (0,0) _ HBl.out Tryz.underlying31 rfl (by kernel_rfl) ?_;go_wp2_with fail
 refine HA.out.mono ?_;rintro e w1 ⟨rfl,hb1⟩;have HB1:=zz (HB.out.trans (hb1.mono HB.out.size));clear hb1;go_wp2;go_ret;exact⟨rfl,HB1.out⟩
theorem zMr(w:World)(hG:zAK w)(hC:zHe w)(N:Nat)(f:F)(d:Nat)(v:Value)(ar:Int)(hN:N<=w.heap.size)(hT:zAU w N f d v):
  Calls Tryz.prog 150 #[v,.int .i64 ar] w fun e w'=>e=.returned (.bool false)/\Below w.heap.size w w':=by
 obtain⟨kind,nn,mb,mn,mc,bits,ext,text,kb,kn,kc,rfl⟩:=hT.cells;have hb:Below w.heap.size w (w.alloc (.cells (zAa kind nn false (.slice mb mn mc) bits ext (zAc text) (.slice kb kn kc)) 31)):=(zK _ _).alloc (zQ _) _;have hB:=Blk.new w (zAa kind nn false (.slice mb mn mc) bits ext (zAc text) (.slice kb kn kc)) 31;have HA:=zz (zF3 _ (hG.below hb hG.size) (hC.below hb hC.size) N f d _ (zAU.below (hb.mono hN) _ _ _ hT));have HB:=zz hb;have HBl:=zz hB;clear hG hC hT hb hB;go_enter Tryz.func150,Tryz.ntmps150
 go_upto_region 1 with fail
 refine wp_region_lit ?_;refine wpList_load_row rfl 31 _ rfl w.heap.size rfl 31 _ (0,0) _ HBl.out Tryz.underlying31 rfl (by kernel_rfl) ?_;go_wp2_with fail
 refine HA.out.mono ?_;rintro e w1 ⟨rfl,hb1⟩;have HB1:=zz (HB.out.trans (hb1.mono HB.out.size));clear hb1;go_wp2;go_ret;exact⟨rfl,HB1.out⟩
theorem zIO(w:World)(N:Nat)(f:F)(d:Nat)(v:Value)(ar:Nat)(hT:zAU w N f d v)(hd:ar+d<=128):
  Calls Tryz.prog 37 #[v,.int .i64 (ar:Int)] w fun e w'=>e=.returned (.bool false)/\Below w.heap.size w w':=by
 obtain⟨kind,nn,mb,mn,mc,bits,ext,text,kb,kn,kc,rfl⟩:=hT.cells;have hb:Below w.heap.size w (w.alloc (.cells (zAa kind nn false (.slice mb mn mc) bits ext (zAc text) (.slice kb kn kc)) 31)):=(zK _ _).alloc (zQ _) _;have hB:=Blk.new w (zAa kind nn false (.slice mb mn mc) bits ext (zAc text) (.slice kb kn kc)) 31;have HB:=zz hb;have HBl:=zz hB;clear hb hB;rcases hT.kind with ⟨_,k7,k8,k9⟩|⟨h0,hk⟩
 ·clear hT;have HK:=zz (zBB (w.alloc (.cells (zAa kind nn false (.slice mb mn mc) bits ext (zAc text) (.slice kb kn kc)) 31)) kind nn false (.slice mb mn mc) bits ext (zAc text) (.slice kb kn kc) k7 k8 k9);clear k7 k8 k9;go_enter Tryz.func37,Tryz.ntmps37
  go_upto_region 1 with fail
  refine wp_region_lit ?_;refine wpList_load_row rfl 31 _ rfl w.heap.size rfl 31 _ (0,0) _ HBl.out Tryz.underlying31 rfl (by kernel_rfl) ?_;go_wp2_with fail
  refine HK.out.mono ?_;rintro e w1 ⟨rfl,hb1⟩;have HB1:=zz (HB.out.trans (hb1.mono HB.out.size));clear hb1;go_wp2;go_ret;exact⟨rfl,HB1.out⟩
 ·clear hT;have HK:=zz (zBh (w.alloc (.cells (zAa kind nn false (.slice mb mn mc) bits ext (zAc text) (.slice kb kn kc)) 31)) kind nn false (.slice mb mn mc) bits ext (zAc text) (.slice kb kn kc) hk);have g1:decide ((128:Int)<=(ar:Int))=false:=by simp;omega
  have g2:decide (128<=ar)=false:=by simp;omega
  have g3:¬ (128:Int)<=(ar:Int):=by omega
  clear hk;go_enter Tryz.func37,Tryz.ntmps37
  go_upto_region 1 with fail
  refine wp_region_lit ?_;refine wpList_load_row rfl 31 _ rfl w.heap.size rfl 31 _ (0,0) _ HBl.out Tryz.underlying31 rfl (by kernel_rfl) ?_;go_wp2_with fail
  refine HK.out.mono ?_;rintro e w1 ⟨rfl,hb1⟩;have HB1:=zz (HB.out.trans (hb1.mono HB.out.size));clear hb1;go_wp2;go_ret;exact⟨rfl,HB1.out⟩
theorem zLF(w:World)(N:Nat)(f:F)(d:Nat)(v:Value)(ar:Nat)(hT:zAU w N f d v)(hd:ar+d<=128):
  Calls Tryz.prog 151 #[v,.int .i64 (ar:Int)] w fun e w'=>e=.returned (.bool false)/\Below w.heap.size w w':=by
 obtain⟨kind,nn,mb,mn,mc,bits,ext,text,kb,kn,kc,rfl⟩:=hT.cells;have hb:Below w.heap.size w (w.alloc (.cells (zAa kind nn false (.slice mb mn mc) bits ext (zAc text) (.slice kb kn kc)) 31)):=(zK _ _).alloc (zQ _) _;have hB:=Blk.new w (zAa kind nn false (.slice mb mn mc) bits ext (zAc text) (.slice kb kn kc)) 31;have HB:=zz hb;have HBl:=zz hB;clear hb hB;rcases hT.kind with ⟨_,k7,k8,k9⟩|⟨h0,hk⟩
 ·clear hT;have HK:=zz (zBB (w.alloc (.cells (zAa kind nn false (.slice mb mn mc) bits ext (zAc text) (.slice kb kn kc)) 31)) kind nn false (.slice mb mn mc) bits ext (zAc text) (.slice kb kn kc) k7 k8 k9);clear k7 k8 k9;go_enter Tryz.func151,Tryz.ntmps151
  go_upto_region 1 with fail
  refine wp_region_lit ?_;refine wpList_load_row rfl 31 _ rfl w.heap.size rfl 31 _ (0,0) _ HBl.out Tryz.underlying31 rfl (by kernel_rfl) ?_;go_wp2_with fail
  refine HK.out.mono ?_;rintro e w1 ⟨rfl,hb1⟩;have HB1:=zz (HB.out.trans (hb1.mono HB.out.size));clear hb1;go_wp2;go_ret;exact⟨rfl,HB1.out⟩
 ·clear hT;have HK:=zz (zBh (w.alloc (.cells (zAa kind nn false (.slice mb mn mc) bits ext (zAc text) (.slice kb kn kc)) 31)) kind nn false (.slice mb mn mc) bits ext (zAc text) (.slice kb kn kc) hk);have g1:decide ((128:Int)<=(ar:Int))=false:=by simp;omega
  have g2:decide (128<=ar)=false:=by simp;omega
  have g3:¬ (128:Int)<=(ar:Int):=by omega
  clear hk;go_enter Tryz.func151,Tryz.ntmps151
  go_upto_region 1 with fail
  refine wp_region_lit ?_;refine wpList_load_row rfl 31 _ rfl w.heap.size rfl 31 _ (0,0) _ HBl.out Tryz.underlying31 rfl (by kernel_rfl) ?_;go_wp2_with fail
  refine HK.out.mono ?_;rintro e w1 ⟨rfl,hb1⟩;have HB1:=zz (HB.out.trans (hb1.mono HB.out.size));clear hb1;go_wp2;go_ret;exact⟨rfl,HB1.out⟩
theorem zGX(w:World)(hG:zAK w)(hC:zHe w)(N:Nat)(f:F)(d:Nat)(v:Value)(hN:N<=w.heap.size)(hT:zAU w N f d v)(hd:d<=128):
  Calls Tryz.prog 34 #[v,.func (.func 35) #[] #[]] w fun e w'=>e=.returned (.tuple #[.string ⟨#[]⟩,.bool false])/\Below w.heap.size w w':=
 zD7 35 (fun _ _=>by simp[callFunc,go_sem,Tryz.func35];rfl) w (fun f d v ar w' hb hT _=>zIS w' (hG.below hb hG.size) (hC.below hb hC.size) w.heap.size f d v ar hb.size hT) N f d v hN hT hd
theorem zHj(w:World)(N:Nat)(f:F)(d:Nat)(v:Value)(hN:N<=w.heap.size)(hT:zAU w N f d v)(hd:d<=128):
  Calls Tryz.prog 34 #[v,.func (.func 37) #[] #[]] w fun e w'=>e=.returned (.tuple #[.string ⟨#[]⟩,.bool false])/\Below w.heap.size w w':=
 zD7 37 (fun _ _=>by simp[callFunc,go_sem,Tryz.func37];rfl) w (fun f d v ar w' _ hT hd=>zIO w' w.heap.size f d v ar hT hd) N f d v hN hT hd
theorem zJ8(w:World)(hG:zAK w)(hC:zHe w)(N:Nat)(f:F)(d:Nat)(v:Value)(hN:N<=w.heap.size)(hT:zAU w N f d v)(hd:d<=128):
  Calls Tryz.prog 34 #[v,.func (.func 150) #[] #[]] w fun e w'=>e=.returned (.tuple #[.string ⟨#[]⟩,.bool false])/\Below w.heap.size w w':=
 zD7 150 (fun _ _=>by simp[callFunc,go_sem,Tryz.func150];rfl) w (fun f d v ar w' hb hT _=>zMr w' (hG.below hb hG.size) (hC.below hb hC.size) w.heap.size f d v ar hb.size hT) N f d v hN hT hd
theorem zLq(w:World)(N:Nat)(f:F)(d:Nat)(v:Value)(hN:N<=w.heap.size)(hT:zAU w N f d v)(hd:d<=128):
  Calls Tryz.prog 34 #[v,.func (.func 151) #[] #[]] w fun e w'=>e=.returned (.tuple #[.string ⟨#[]⟩,.bool false])/\Below w.heap.size w w':=
 zD7 151 (fun _ _=>by simp[callFunc,go_sem,Tryz.func151];rfl) w (fun f d v ar w' _ hT hd=>zLF w' w.heap.size f d v ar hT hd) N f d v hN hT hd
def srL(r:Nat):List Nat->List Nat
 | []=>[]
 | x :: t=>(x / 2 ^ r+(t.headD 0*2 ^ (32 - r)) % 4294967296) :: srL r t
theorem zAW(r:Nat)(l:List Nat):(srL r l).length=l.length:=by
 induction l with
 | nil=>rfl
 | cons x t ih=>simp[srL,ih]
theorem zGD(r y:Nat)(hr:r<=32):(y*2 ^ (32 - r)) % 4294967296=(y % 2 ^ r)*2 ^ (32 - r):=by
 have h1:(4294967296:Nat)=2 ^ r*2 ^ (32 - r):=by rw[<-Nat.pow_add,show r+(32 - r)=32 by omega]
 rw[h1,Nat.mul_mod_mul_right]
theorem zOP(r:Nat)(l:List Nat)(hr:r<=32):2 ^ r*val (srL r l)+l.headD 0 % 2 ^ r=val l:=by
 induction l with
 | nil=>simp[srL,val]
 | cons x t ih=>
  rw[srL,val,val,zGD r _ hr,<-ih,List.headD_cons];have h1:(4294967296:Nat)=2 ^ r*2 ^ (32 - r):=by rw[<-Nat.pow_add,show r+(32 - r)=32 by omega]
  have h2:=Nat.div_add_mod x (2 ^ r);rw[h1];generalize x / 2 ^ r=q at *;generalize x % 2 ^ r=m at *;generalize t.headD 0 % 2 ^ r=y at *;generalize val (srL r t)=S at *;generalize 2 ^ r=R at *;generalize 2 ^ (32 - r)=T at *
  grind
theorem zN3(r:Nat)(l:List Nat)(hr:r<=32):val (srL r l)=val l / 2 ^ r:=by
 have h:=zOP r l hr;have h2:=Nat.mod_lt (l.headD 0) (Nat.two_pow_pos r);rw[<-h,Nat.mul_add_div (Nat.two_pow_pos r),Nat.div_eq_of_lt h2,Nat.add_zero]
theorem zNs(r x:Nat)(hr:r<=32)(hx:x<4294967296):x / 2 ^ r<2 ^ (32 - r):=by
 apply Nat.div_lt_of_lt_mul;rw[<-Nat.pow_add,show r+(32 - r)=32 by omega];exact hx
theorem zQo(r x y:Nat)(hr:r<=32)(hx:x<4294967296):x / 2 ^ r+(y*2 ^ (32 - r)) % 4294967296<4294967296:=by
 rw[zGD r y hr];have h1:(4294967296:Nat)=2 ^ r*2 ^ (32 - r):=by rw[<-Nat.pow_add,show r+(32 - r)=32 by omega]
 have h2:=zNs r x hr hx;have h3:=Nat.mod_lt y (Nat.two_pow_pos r)
 have h4:(y % 2 ^ r)*2 ^ (32 - r)+2 ^ (32 - r)<=2 ^ r*2 ^ (32 - r):=by
  rw[<-Nat.succ_mul];exact Nat.mul_le_mul_right _ h3
 rw[<-h1] at h4;omega
theorem zOJ(r:Nat)(l:List Nat)(hr:r<=32)(hf:Fit l):Fit (srL r l):=by
 induction l with
 | nil=>intro x hx;simp[srL] at hx
 | cons x t ih=>
  intro y hy;simp only[srL,List.mem_cons] at hy;rcases hy with rfl|hy
  ·exact zQo r x _ hr (hf x (by simp))
  ·exact ih (fun z hz=>hf z (by simp[hz])) y hy
theorem zLz(r:Nat)(l:List Nat)(k:Nat)(h:k<l.length):(srL r l).getD k 0=l.getD k 0 / 2 ^ r+(l.getD (k+1) 0*2 ^ (32 - r)) % 4294967296:=by
 induction l generalizing k with
 | nil=>simp at h
 | cons x t ih=>
  cases k with
  | zero=>cases t <;> simp[srL]
  | succ k=>rw[srL,List.getD_cons_succ,ih k (by simpa using h),List.getD_cons_succ,List.getD_cons_succ]
theorem zFq(S o:List Nat)(i y:Nat)(h:i<o.length)(hS:S.length=o.length):(S.take i ++ o.drop i).set i y=S.take i ++ y :: o.drop (i+1):=by
 rw[List.set_append_right _ _ (by simp;omega),List.length_take,Nat.min_eq_left (by omega),Nat.sub_self,List.drop_eq_getElem_cons h,zq]
theorem zCU(S o:List Nat)(i:Nat)(h:i<o.length)(hS:S.length=o.length):S.take i ++ S.getD i 0 :: o.drop (i+1)=S.take (i+1) ++ o.drop (i+1):=by
 rw[List.take_succ_eq_append_getElem (by omega),List.append_assoc,zw,zZ (by omega)];rfl
theorem zNd(A B:List Nat)(x i:Nat)(h:A.length=i):(A ++ x :: B).getD i 0=x:=by
 rw[zw,List.getElem?_append_right (by omega),h,Nat.sub_self];rfl
theorem zLY(A o:List Nat)(x i:Nat)(h:A.length=i):(A ++ x :: o.drop (i+1)).getD (i+1) 0=o.getD (i+1) 0:=by
 rw[zw,List.getElem?_append_right (by omega),h,show i+1 - i=0+1 by omega,zx,List.getElem?_drop,Nat.add_zero,<-zw]
theorem zOw(w:World)(v:Value)(l:List Nat)(r:Nat)(h:zAf w v l)(hl:l.length<=8600000000)(hr:r<32):
  Calls Tryz.prog 233 #[v,.int .i64 (r:Int)] w fun e w'=>Below w.heap.size w w'/\∃ v' more,e=.returned (.tuple #[v',.bool more,.bool true])/\zAf w' v' (zAb (val l / 2 ^ r)):=by
 have HC1:=zz (zAC w v l h);rw[zAv h.fit] at HC1;have hm1:(zAb (val l)).length<=8600000000:=by rw[<-zAv h.fit,zAG];have:=zBT l;omega
 have g0:¬ (r:Int)<0:=by omega
 have q3:(r:Int).tdiv 32=0:=by rw[Int.tdiv_eq_ediv_of_nonneg (by omega)];omega
 have q4:(r:Int) / 32=0:=by omega
 clear h hl;generalize val l=x at *;by_cases hx:x=0
 ·subst hx;rw[Nat.zero_div,zAn] at *;go_enter Tryz.func233,Tryz.ntmps233
  go_wp2_with fail
  refine HC1.out.mono ?_;rintro e w1 ⟨rfl,u1,rfl,hu1⟩;obtain⟨b1,c1,rfl⟩:=hu1.slice;clear hu1;go_wp2;refine bodyPost_ret (v:=.tuple #[.slice none 0 0,.bool false,.bool true]) (by simp[results,Tryz.results233,go_sem]) rfl ⟨zK _ _,_,_,rfl,zAf.nil _⟩
 ·have hp:=zAk hx;go_enter Tryz.func233,Tryz.ntmps233
  go_wp2_with fail
  refine HC1.out.mono ?_;rintro e w ⟨rfl,u1,rfl,hu1⟩;obtain⟨hf,⟨_,hy⟩|⟨bk1,of1,c1,rfl,h1,h2,h3,h4⟩⟩:=hu1
  ·rw[hy] at hp;simp at hp
  obtain⟨m,hm⟩:∃ m,m=(zAb x).length:=⟨_,rfl⟩;have HM:=zz hm;have HH4:=zz h4;rw[<-hm] at hp hm1 h1 ⊢;clear h4 hf HC1 hm;have q0:¬ (m:Int)<=0:=by omega
  have q5:IntKind.i64.wrap (m:Int)=(m:Int):=zY _ (by omega);have q8:(r:Int).tmod 32=(r:Int):=by rw[Int.tmod_eq_emod_of_nonneg (by omega)];omega
  have q9:(r:Int) % 32=(r:Int):=by omega
  have hmk:=zA2 w m (by omega);have hB:=Blk.new w (zAi (List.replicate m 0)) 139;have hb:Below w.heap.size w (w.alloc (.cells (zAi (List.replicate m 0)) 139)):=(zK _ _).alloc (zQ _) _;go_upto_region 7 with fail
  refine wp_loop_rounds 1 ?_;rw[rounds_succ];go_upto_region 12 with fail
  clear hmk;generalize w.alloc (.cells (zAi (List.replicate m 0)) 139)=w3 at hB hb ⊢;have hc0:¬ c1=0:=by omega
  refine wp_region_lit ?_;iterate 15 go_step
  refine wpList_copy_splice rfl (.tmp 44) (.tmp 48) 26 26 rfl 139 Tryz.underlying26 (by kernel_rfl) (some ⟨w.heap.size,0,none⟩) (some ⟨bk1,of1,none⟩) m m m c1 rfl rfl w.heap.size 0 ((List.replicate m 0).map zAP) 139 hB ((zAb x).map zAP) (by rw[List.length_map,HM.out.symm];exact (Nat.min_eq_left (zQ _)).symm) ?_ (by rw[List.length_map,<-HM.out,List.length_map,List.length_replicate];omega) (zDp _) w.heap.size w hb (zQ _) ?_
  ·intro _;refine⟨rfl,_,rfl,fun j u hj=>?_⟩;rw[List.getElem?_map] at hj
   have hjl:j<(zAb x).length:=by
    rcases Nat.lt_or_ge j (zAb x).length with h|h
    ·exact h
    ·rw[List.getElem?_eq_none h] at hj;cases hj
   rw[zZ hjl] at hj;rw[zJE,hb.cell (p:=⟨bk1,of1+j,none⟩) h3,HH4.out j hjl,zw,zZ hjl];exact hj
  ·intro w4 hB4 hb4;obtain⟨o,ho⟩:∃ o,o=zAb x:=⟨_,rfl⟩
   have hB5:Blk w4 w.heap.size (zAi o) 139:=by
    have:=hB4.out
    have e:splice ((List.replicate m 0).map zAP) 0 ((zAb x).map zAP)=o.map zAP:=by
     rw[ho,splice,<-List.map_drop,List.drop_of_length_le (by rw[List.length_replicate,List.length_map,HM.out];omega)];simp
    rw[e] at this;exact this
   have HOL:Hid (o.length=m):=zz (by rw[ho,HM.out]);have HOF:Hid (Fit o):=zz (by rw[ho];exact zAB x);have HOV:Hid (val o=x):=zz (by rw[ho,zAe]);have HB5:=zz hB5;have HX5:=zz hb4;clear hB hb hB4 hb4 ho hB5 HH4 HM;go_upto_region 14 with fail
   by_cases hr0:r=0
   ·subst hr0;have hlim:=Blk.limbs HB5.out (n:=m) HOF.out HOL.out.symm (by omega);have HCT:=zz (zAC _ _ _ hlim);rw[zAv HOF.out,HOV.out,show x=x / 2 ^ 0 by simp] at HCT;clear hlim HB5;go_wp2_with fail
    refine HCT.out.mono ?_;rintro e w5 ⟨rfl,v3,rfl,h3⟩;have H3:=zz h3;clear h3;go_wp2;refine bodyPost_ret (v:=.tuple #[v3,.bool false,.bool true]) (by simp[results,Tryz.results233,go_sem]) rfl ⟨HX5.out,_,_,rfl,H3.out⟩
   ·have hr1:(0:Int)<(r:Int):=by omega
    obtain⟨t,ht⟩:∃ t,t=32 - r:=⟨_,rfl⟩;have wt:IntKind.i64.wrap (32 - (r:Int))=(t:Int):=by rw[zY _ (by omega)];omega
    have ht1:t<=32:=by omega
    have HT:=zz ht;have qm:min r 32=r:=by omega
    have cc:=HB5.out.cell 0;rw[zAD o 0 (by have:=HOL.out;omega)] at cc;clear ht;generalize (o.getD 0 0:Nat)=X0 at cc;have g00:(0:Int)<(m:Int):=by omega
    go_upto_region 16 with fail
    generalize ((X0:Int)*2 ^ t % 4294967296 != 0)=more;clear cc g00;go_upto_region 17 with fail
    go_loopw [10,66] (fun _ iv wr=>∃ i:Nat,i<=m/\iv=.int .i64 i/\Hid (Blk wr w.heap.size (zAi ((srL r o).take i ++ o.drop i)) 139)/\Hid (Below w.heap.size w wr)) (fun _ iv _=>m - (intOf iv).toNat)
    case atStart=>exact⟨0,by omega,rfl,zz (by rw[List.take_zero,List.drop_zero,List.nil_append];exact HB5.out),HX5⟩
    case round=>
     clear HB5 HX5;obtain⟨i,hi,rfl,HB,HX⟩:=hrel;have HSL:=zz (zAW r o);by_cases h1:i<m
     ·have g1:(i:Int)<(m:Int):=by omega
      have hio:i<o.length:=by have:=HOL.out;omega
      have hcell:wr.cell? ⟨w.heap.size,i,none⟩=some (.int .u32 ((o.getD i 0:Nat):Int)):=by
       rw[HB.out.cell,zAD _ _ (by simp[zAW];omega),zCr o i hio,zNd _ _ _ _ (by simp[zAW];omega)]
      have f0:wr.frozen? ⟨w.heap.size,i,none⟩=false:=HB.out.free i;obtain⟨A,hA⟩:∃ A,A=o.getD i 0 / 2 ^ r:=⟨_,rfl⟩;have hSk:=zLz r o i hio;rw[<-hA] at hSk;have hxf:=zAw HOF.out i hio;have qa:((o.getD i 0:Nat):Int) / 2 ^ r=(A:Int):=by rw[hA];simp
      have hA2:=zNs r (o.getD i 0) (by omega) hxf;rw[<-hA] at hA2;have hA3:A<4294967296:=by rw[hA];exact Nat.lt_of_le_of_lt (Nat.div_le_self _ _) hxf
      have hB6:=HB.out.set i (.int .u32 (A:Int));rw[zAE,zFq _ _ _ _ hio HSL.out] at hB6;have HB6:=zz hB6;have HX6:=zz (HX.out.setCell (p:=⟨w.heap.size,i,none⟩) (zQ _) (.int .u32 (A:Int)));clear hB6;have wi:IntKind.i64.wrap ((i:Int)+1)=(i:Int)+1:=zY _ (by omega);by_cases h2:i+1<m
      ·have g2:(i:Int)+1<(m:Int):=by omega
       have hyf:=zAw HOF.out (i+1) (by have:=HOL.out;omega);obtain⟨Z,hZ⟩:∃ Z,Z=o.getD (i+1) 0*2 ^ (32 - r) % 4294967296:=⟨_,rfl⟩;have hZ2:=zGD r (o.getD (i+1) 0) (by omega);rw[<-hZ] at hZ2 hSk;have qz:((o.getD (i+1) 0:Nat):Int)*2 ^ t % 4294967296=(Z:Int):=by rw[hZ,HT.out];simp
       have hZ3:Z<4294967296:=by rw[hZ];exact Nat.mod_lt _ (by decide)
       have qo:bits .or .u32 (A:Int) (Z:Int)=((A+Z:Nat):Int):=by
        rw[zM9 _ _ hA3 hZ3,hZ2,zFX _ _ (32 - r) hA2]
       obtain⟨V,hV⟩:∃ V,V=A+Z:=⟨_,rfl⟩;rw[<-hV] at qo hSk
       have hc0:(wr.setCell ⟨w.heap.size,i,none⟩ (.int .u32 (A:Int))).cell? ⟨w.heap.size,i,none⟩=some (.int .u32 (A:Int)):=by
        rw[HB6.out.cell,zAD _ _ (by simp[zAW];omega),zNd _ _ _ _ (by simp[zAW];omega)]
       have hc1:(wr.setCell ⟨w.heap.size,i,none⟩ (.int .u32 (A:Int))).cell? ⟨w.heap.size,i+1,none⟩=some (.int .u32 ((o.getD (i+1) 0:Nat):Int)):=by
        rw[HB6.out.cell,zAD _ _ (by have:=HOL.out;simp[zAW];omega),zLY _ _ _ _ (by simp[zAW];omega)]
       have f6:(wr.setCell ⟨w.heap.size,i,none⟩ (.int .u32 (A:Int))).frozen? ⟨w.heap.size,i,none⟩=false:=HB6.out.free i;have hB7:=HB6.out.set i (.int .u32 (V:Int));rw[zAE,List.set_append_right _ _ (by simp[zAW];omega),List.length_take,Nat.min_eq_left (by rw[zAW];omega),Nat.sub_self,zq,<-hSk,zCU _ _ _ hio HSL.out] at hB7;have hB8:Blk ((wr.setCell ⟨w.heap.size,i,none⟩ (.int .u32 (A:Int))).setCell ⟨w.heap.size,i,none⟩ (.int .u32 (V:Int))).drew w.heap.size (zAi ((srL r o).take (i+1) ++ o.drop (i+1))) 139:=by rw[hSk] at hB7;exact hB7.drew
       have HB8:=zz hB8;have HX8:=zz ((HX6.out.setCell (p:=⟨w.heap.size,i,none⟩) (zQ _) (.int .u32 (V:Int))).drew);generalize (o.getD i 0:Nat)=X at hcell qa;generalize (o.getD (i+1) 0:Nat)=Y at hc1 qz;clear hSk hA hA2 hA3 HB hZ hZ2 hZ3 hV hyf hB7 hB8 HX h2 hio hxf;go_upto_region 21 with fail
       clear hcell f0;generalize (wr.setCell ⟨w.heap.size,i,none⟩ (.int .u32 (A:Int)))=w6 at hc1 hc0 f6 HB8 HX8 ⊢;go_region
       go_wp2;go_roundw
       case rel=>exact⟨i+1,by omega,by simp,HB8,HX8⟩
       case measure=>simp[intOf];omega
      ·have g2:¬ (i:Int)+1<(m:Int):=by omega
       have e1:o.getD (i+1) 0=0:=by rw[zw,List.getElem?_eq_none (by have:=HOL.out;omega)];rfl
       rw[e1,Nat.zero_mul,Nat.zero_mod,Nat.add_zero] at hSk;have HB8:Hid (Blk (wr.setCell ⟨w.heap.size,i,none⟩ (.int .u32 (A:Int))) w.heap.size (zAi ((srL r o).take (i+1) ++ o.drop (i+1))) 139):=zz (by rw[<-zCU _ _ _ hio HSL.out,hSk];exact HB6.out);generalize (o.getD i 0:Nat)=X at hcell qa;clear hSk hA hA2 hA3 HB h2 hio hxf e1 HB6 HX;go_wp2;go_roundw
       case rel=>exact⟨i+1,by omega,by simp,HB8,HX6⟩
       case measure=>simp[intOf];omega
     ·obtain rfl:i=m:=by omega
      have g1:¬ (i:Int)<(i:Int):=by omega
      have hBf:=HB.out;rw[List.drop_of_length_le (by rw[HOL.out];exact zQ _),List.append_nil,List.take_of_length_le (by rw[zAW,HOL.out];exact zQ _)] at hBf;have hF:=zOJ r o (by omega) HOF.out;have hlim:=Blk.limbs hBf (n:=i) hF (by rw[zAW];exact HOL.out.symm) (by omega);have HCT:=zz (zAC _ _ _ hlim);rw[zAv hF,zN3 r o (by omega),HOV.out] at HCT;clear hBf hF hlim HB;go_wp2_with fail
      refine HCT.out.mono ?_;rintro e w5 ⟨rfl,v3,rfl,h3⟩;have H3:=zz h3;clear h3;go_wp2;refine bodyPost_ret (v:=.tuple #[v3,.bool more,.bool true]) (by simp[results,Tryz.results233,go_sem]) rfl ⟨HX.out,_,_,rfl,H3.out⟩
end Go.Proofs.YtcanfakaigpkgaaGreatDoor.D
namespace Go.Proofs.YtcanfakaigpkgaaGreatDoor.D
open Limb
structure Kn (K y0 V1 V2 Yv w' w0 w1 w2 Wv top:Nat):Prop where
 k:0<K
 y0l:y0<K
 y:Yv=y0+K*(V2+4294967296*V1)
 v1:2147483648<=V1
 v1l:V1<4294967296
 v2:V2<4294967296
 wl:w'<K
 w:Wv=w'+K*(w2+4294967296*top)
 t:top=w0*4294967296+w1
 w0l:w0<4294967296
 w1l:w1<4294967296
 w2l:w2<4294967296
 lt:Wv<4294967296*Yv
variable {K y0 V1 V2 Yv w' w0 w1 w2 Wv top:Nat}
theorem Kn.top_le(h:Kn K y0 V1 V2 Yv w' w0 w1 w2 Wv top):w0<=V1:=by
 rcases Nat.lt_or_ge V1 w0 with h1|h1
 ·exfalso
  have h2:=h.lt;rw[h.w,h.y,h.t] at h2;have h3:K*(V2+4294967296*V1+1)<=K*(4294967296*w0):=Nat.mul_le_mul_left _ (by have:=h.v2;omega);have h4:K*(w2+4294967296*(w0*4294967296+w1))=K*(w2+4294967296*w1)+4294967296*(K*(4294967296*w0)):=by grind
  have h5:=h.y0l;rw[h4] at h2;have h6:K*(V2+4294967296*V1+1)=K*(V2+4294967296*V1)+K:=by grind
  omega
 ·exact h1
theorem Kn.guess0(h:Kn K y0 V1 V2 Yv w' w0 w1 w2 Wv top):Wv<(top / V1+1)*Yv:=by
 have h1:=Nat.lt_div_mul_add (a:=top) (b:=V1) (by have:=h.v1;omega);have h2:top+1<=(top / V1+1)*V1:=by rw[Nat.add_mul,Nat.one_mul];exact h1
 generalize top / V1+1=g at *;rw[h.w,h.y];have h3:K*(4294967296*(top+1))<=K*(4294967296*(g*V1)):=Nat.mul_le_mul_left _ (Nat.mul_le_mul_left _ h2);have h4:K*(w2+1)<=K*4294967296:=Nat.mul_le_mul_left _ (by have:=h.w2l;omega);have h5:=h.wl;have h6:g*(y0+K*(V2+4294967296*V1))=g*y0+g*(K*V2)+K*(4294967296*(g*V1)):=by grind
 have h7:K*(4294967296*(top+1))=K*(4294967296*top)+K*4294967296:=by grind
 have h8:K*(w2+4294967296*top)=K*w2+K*(4294967296*top):=by grind
 have h9:K*(w2+1)=K*w2+K:=by grind
 rw[h6,h8];omega
theorem Kn.too_big(h:Kn K y0 V1 V2 Yv w' w0 w1 w2 Wv top)(g:Nat)(hg:4294967296<=g):Wv<g*Yv:=
 Nat.lt_of_lt_of_le h.lt (Nat.mul_le_mul_right _ hg)
theorem Kn.too_much(h:Kn K y0 V1 V2 Yv w' w0 w1 w2 Wv top)(g rest:Nat)(hr:g*V1+rest=top)(hc:rest*4294967296+w2<g*V2):Wv<g*Yv:=by
 rw[h.w,h.y];have h5:=h.wl;have h1:K*(rest*4294967296+w2+1)<=K*(g*V2):=Nat.mul_le_mul_left _ hc;have h6:g*(y0+K*(V2+4294967296*V1))=g*y0+K*(g*V2)+K*(4294967296*(g*V1)):=by grind
 have h7:K*(w2+4294967296*top)=K*w2+K*(4294967296*(g*V1))+K*(4294967296*rest):=by rw[<-hr];grind
 have h8:K*(rest*4294967296+w2+1)=K*(4294967296*rest)+K*w2+K:=by grind
 rw[h6,h7];omega
def zPn(g Yv Wv:Nat):Prop:=g<4294967296/\Wv<(g+1)*Yv/\g*Yv<Wv+Yv
theorem Kn.good(h:Kn K y0 V1 V2 Yv w' w0 w1 w2 Wv top)(g rest:Nat)(hr:g*V1+rest=top)(hg:g<4294967296)(hc:g*V2<=rest*4294967296+w2)(hq:Wv<(g+1)*Yv):zPn g Yv Wv:=by
 refine⟨hg,hq,?_⟩;have h1:K*(g*V2)<=K*(rest*4294967296+w2):=Nat.mul_le_mul_left _ hc;have h2:g*y0<=g*K:=Nat.mul_le_mul_left _ (Nat.le_of_lt h.y0l);have h3:(g+1)*K<=4294967296*K:=Nat.mul_le_mul_right _ hg;have h4:K*(4294967296*1)<=K*(4294967296*V1):=Nat.mul_le_mul_left _ (Nat.mul_le_mul_left _ (by have:=h.v1;omega));have h6:g*Yv=g*y0+K*(g*V2)+K*(4294967296*(g*V1)):=by rw[h.y];grind
 have h7:Wv=w'+K*w2+K*(4294967296*(g*V1))+K*(4294967296*rest):=by rw[h.w,<-hr];grind
 have h8:K*(rest*4294967296+w2)=K*(4294967296*rest)+K*w2:=by grind
 have h9:Yv=y0+K*V2+K*(4294967296*V1):=by rw[h.y];grind
 have h10:(g+1)*K=g*K+K:=by grind
 have h11:K*(4294967296*1)=4294967296*K:=by grind
 have h12:=h.k;have h13:0<=K*V2:=Nat.zero_le _;rw[h6,h7,h9];omega
theorem Kn.stop(h:Kn K y0 V1 V2 Yv w' w0 w1 w2 Wv top)(g rest:Nat)(hr:g*V1+rest=top)(hb:4294967296<=rest)(hq:Wv<(g+1)*Yv):zPn g Yv Wv:=by
 have h1:=h.top_le;have h2:=h.v1
 have hg:g<4294967296:=by
  rcases Nat.lt_or_ge g 4294967296 with h3|h3
  ·exact h3
  ·exfalso
   have h4:4294967296*V1<=g*V1:=Nat.mul_le_mul_right _ h3;have h5:=h.t;have h6:=h.w1l;omega
 refine h.good g rest hr hg ?_ hq;have h7:g*V2<=4294967295*4294967295:=Nat.mul_le_mul (by omega) (by have:=h.v2;omega);have h8:4294967296*4294967296<=rest*4294967296:=Nat.mul_le_mul_right _ hb;omega
theorem Kn.guess_lt(h:Kn K y0 V1 V2 Yv w' w0 w1 w2 Wv top):top / V1<8589934592:=by
 apply Nat.div_lt_of_lt_mul;have h1:=h.top_le;have h2:=h.v1;have h3:=h.t;have h4:=h.w1l;omega
theorem zJj{g Yv Wv Z E:Nat}(h:zPn g Yv Wv)(hz:Z+g*Yv=Wv+E*0):Wv=g*Yv+Z/\Z<Yv:=by
 have h1:=h.2.1;have h2:(g+1)*Yv=g*Yv+Yv:=by grind
 omega
theorem zI6{g Yv Wv Z Z2 E co:Nat}(h:zPn g Yv Wv)(hZ:Z<E)(hz:Z+g*Yv=Wv+E*1)(hZ2:Z2<E)(hE:Yv<=E)(hb:Z2+E*co=Z+Yv):1<=g/\Wv=(g - 1)*Yv+Z2/\Z2<Yv:=by
 have h1:=h.2.2
 have hg:1<=g:=by
  rcases Nat.eq_zero_or_pos g with h0|h0
  ·exfalso;subst h0;simp at hz;omega
  ·exact h0
 obtain⟨k,rfl⟩:∃ k,g=k+1:=⟨g - 1,by omega⟩;have h2:(k+1)*Yv=k*Yv+Yv:=by grind
 have hco:co=1:=by
  rcases (by omega:co=0 \/ co=1 \/ 2<=co) with h3|h3|h3
  ·subst h3;exfalso;omega
  ·exact h3
  ·exfalso
   have h4:E*2<=E*co:=Nat.mul_le_mul_left _ h3;omega
 subst hco;rw[Nat.add_sub_cancel];omega
theorem zL1(X Y:List Nat)(j k:Nat)(hX:Fit X)(hY:Fit Y)(hYn:k+2<=Y.length)(hXn:j+(k+2)+1<=X.length)(hv:2147483648<=Y.getD (k+1) 0)(hlt:val ((X.drop j).take (k+3))<4294967296*val (Y.take (k+2))):
  Kn (4294967296 ^ k) (val (Y.take k)) (Y.getD (k+1) 0) (Y.getD k 0) (val (Y.take (k+2))) (val ((X.drop j).take k)) (X.getD (j+(k+2)) 0) (X.getD (j+(k+1)) 0) (X.getD (j+k) 0) (val ((X.drop j).take (k+3))) (X.getD (j+(k+2)) 0*4294967296+X.getD (j+(k+1)) 0) where
 k:=Nat.pow_pos (by decide)
 y0l:=by
  have:=zBY (zBI hY k)
  rwa [List.length_take,Nat.min_eq_left (by omega)] at this
 y:=by
  rw[zAt,zAt,Nat.pow_succ];generalize 4294967296 ^ k=K
  grind
 v1:=hv
 v1l:=zAw hY _ (by omega)
 v2:=zAw hY _ (by omega)
 wl:=by
  have:=zBY (zBI (l:=X.drop j) (fun x hx=>hX x (List.mem_of_mem_drop hx)) k)
  rwa [List.length_take,List.length_drop,Nat.min_eq_left (by omega)] at this
 w:=by
  rw[show k+3=k+1+1+1 by omega,zAt,zAt,zAt,zBQ,zBQ,zBQ,Nat.pow_succ,Nat.pow_succ,Nat.pow_succ];rw[show k+1+1=k+2 by omega];clear hlt hv hXn hYn hX hY;generalize 4294967296 ^ k=K;generalize X.getD (j+(k+2)) 0=a;generalize X.getD (j+(k+1)) 0=b;generalize X.getD (j+k) 0=c
  grind
 t:=rfl
 w0l:=zAw hX _ (by omega)
 w1l:=zAw hX _ (by omega)
 w2l:=zAw hX _ (by omega)
 lt:=hlt
theorem zHH{R:List Nat}(h:Fit R)(d:Nat)(hd:d<4294967296):Fit (d :: R):=by
 intro y hy;rcases List.mem_cons.1 hy with rfl|h1
 ·exact hd
 ·exact h y h1
structure zDZ (A Yv n lx:Nat) (X R:List Nat) (t:Nat):Prop where
 len:X.length=lx
 lenR:R.length+t+n=lx
 fit:Fit X
 fitR:Fit R
 eq:A=val X+Yv*(4294967296 ^ t*val R)
 lt:val (X.drop t)<Yv
theorem zDZ.window{A Yv n lx:Nat}{X R:List Nat}{j:Nat}(h:zDZ A Yv n lx X R (j+1))(hY:Yv<4294967296 ^ n):
  val (X.drop j)=val ((X.drop j).take (n+1))/\val ((X.drop j).take (n+1))<4294967296*Yv/\val ((X.drop j).drop (n+1))=0:=by
 have hl:=h.len;have hr:=h.lenR;have h1:=zCr X j (by omega)
 have h2:val (X.drop j)<4294967296*Yv:=by
  rw[h1,val];have:=zAw h.fit j (by omega);have:=h.lt;omega
 have h3:=zBR (X.drop j) (n+1) (by simp;omega)
 have h4:val ((X.drop j).drop (n+1))=0:=by
  rcases Nat.eq_zero_or_pos (val ((X.drop j).drop (n+1))) with h5|h5
  ·exact h5
  ·exfalso
   have h6:4294967296 ^ (n+1)*1<=4294967296 ^ (n+1)*val ((X.drop j).drop (n+1)):=Nat.mul_le_mul_left _ h5;rw[Nat.pow_succ] at h6 h3;omega
 rw[h4,Nat.mul_zero,Nat.add_zero] at h3;exact⟨h3,by rw[<-h3];exact h2,h4⟩
theorem zDZ.zero{A Yv n lx:Nat}{X R:List Nat}{j:Nat}(h:zDZ A Yv n lx X R (j+1))(hY:Yv<4294967296 ^ n)(hw:val ((X.drop j).take (n+1))<Yv):zDZ A Yv n lx X (0 :: R) j where
 len:=h.len
 lenR:=by have:=h.lenR;simp;omega
 fit:=h.fit
 fitR:=zHH h.fitR 0 (by decide)
 eq:=by
  rw[h.eq,val,Nat.pow_succ];generalize 4294967296 ^ j=K
  grind
 lt:=by rw[(h.window hY).1];exact hw
theorem zDZ.step{A Yv n lx:Nat}{X R Z:List Nat}{j d:Nat}(h:zDZ A Yv n lx X R (j+1))(hY:Yv<4294967296 ^ n)(hZ:Z.length=n+1)(hf:Fit Z)(hd:d<4294967296)(hw:val ((X.drop j).take (n+1))=d*Yv+val Z)(hz:val Z<Yv):zDZ A Yv n lx (win X Z j) (d :: R) j:=by
 have hl:=h.len;have hr:=h.lenR;obtain⟨h1,h2,h3⟩:=h.window hY
 have hwin:val (win X Z j)=val (X.take j)+4294967296 ^ j*val Z:=by
  unfold win;rw[zA3,List.length_take,Nat.min_eq_left (by omega),zA3,hZ,<-List.drop_drop,h3,Nat.mul_zero,Nat.add_zero]
 refine⟨by rw[zAV X Z j (by omega)];exact hl,by simp;omega,zKM h.fit hf j,zHH h.fitR d hd,?_,?_⟩
 ·rw[h.eq,hwin,val,zBR X j (by omega),h1,hw,Nat.pow_succ];generalize 4294967296 ^ j=K
  grind
 ·have:(win X Z j).drop j=Z ++ X.drop (j+Z.length):=by
   unfold win;rw[List.drop_append_of_le_length (by simp;omega),List.drop_of_length_le (by simp;omega),List.nil_append]
  rw[this,zA3,hZ,<-List.drop_drop,h3,Nat.mul_zero,Nat.add_zero];exact hz
theorem zDZ.done{a b u n lx:Nat}{X R:List Nat}(h:zDZ (2 ^ u*a) (2 ^ u*b) n lx X R 0):val R=a / b/\val X / 2 ^ u=a % b:=by
 have h1:=h.eq;have h2:=h.lt;rw[List.drop_zero] at h2;rw[Nat.pow_zero,Nat.one_mul] at h1;have hu:=Nat.two_pow_pos u;have h3:val X=2 ^ u*(a - b*val R):=by rw[Nat.mul_sub];rw[Nat.mul_assoc] at h1;omega
 have hle:b*val R<=a:=by
  have:2 ^ u*(b*val R)<=2 ^ u*a:=by rw[Nat.mul_assoc] at h1;omega
  exact Nat.le_of_mul_le_mul_left this hu
 rw[h3] at h2 ⊢;rw[Nat.mul_div_cancel_left _ hu];have h4:a - b*val R<b:=Nat.lt_of_mul_lt_mul_left h2;have h5:a=b*val R+(a - b*val R):=by omega
 generalize a - b*val R=r at *;constructor
 ·rw[h5,Nat.mul_add_div (by omega),Nat.div_eq_of_lt h4,Nat.add_zero]
 ·rw[h5,Nat.mul_add_mod,Nat.mod_eq_of_lt h4]
end Go.Proofs.YtcanfakaigpkgaaGreatDoor.D
namespace Go.Proofs.YtcanfakaigpkgaaGreatDoor.D
open Go Go.RowKit Limb
def zJx(W w:World)(L:List (Value × Int)):Prop:=Below W.heap.size W w/\∀ p ∈ L,zAf w p.1 [p.2.toNat]
theorem zJx.step{W w w':World}{L:List (Value × Int)}{v:Value}{x:Int}(h:zJx W w L)(hb:Below w.heap.size w w')(hv:zAf w' v [x.toNat]):zJx W w' ((v,x) :: L):=by
 refine⟨h.1.trans (hb.mono h.1.size),fun p hp=>?_⟩;rcases List.mem_cons.1 hp with rfl|hp
 ·exact hv
 ·exact (h.2 p hp).below hb
theorem zAu(n:Nat)(h0:0<n)(h:n<4294967296):zAb n=[n]:=by
 rw[zBk (by omega),Nat.mod_eq_of_lt h,Nat.div_eq_of_lt h,zAn]
theorem zPX(w:World)(hG:GW w):
  Calls Tryz.prog 211 #[.int .u32 10,.int .i64 0] w fun e w'=>Below w.heap.size w w'/\∃ v',e=.returned (.tuple #[v',.bool true])/\zAf w' v' [1]:=by
 have HL32:Hid (Calls Tryz.prog 126 #[.int .u32 10] w fun e w'=>e=.returned (.int .i64 4)/\w'=w):=zz (by
  have h:=Tryz.bits_Len32 10 w (by decide) (by decide);rw[show ((Lib.bitLen (Int.toNat 10):Nat):Int)=4 by decide +kernel] at h;exact h)
 have HCTZ:=zz (zOE w hG);have HF1:Hid (∀ w,Calls Tryz.prog 137 #[.int .u64 1] w fun e w'=>Below w.heap.size w w'/\∃ v,e=.returned v/\zAf w' v [1]):=zz (fun w=>(zAH w 1 (by decide)).mono fun e w' ⟨a,v,b,c⟩=>⟨a,v,b,by rw[zAu 1 (by decide) (by decide)] at c;exact c⟩);have HF5:Hid (∀ w,Calls Tryz.prog 137 #[.int .u64 5] w fun e w'=>Below w.heap.size w w'/\∃ v,e=.returned v/\zAf w' v [5]):=zz (fun w=>(zAH w 5 (by decide)).mono fun e w' ⟨a,v,b,c⟩=>⟨a,v,b,by rw[zAu 5 (by decide) (by decide)] at c;exact c⟩);clear hG;go_enter Tryz.func211,Tryz.ntmps211
 go_wp2_with fail
 refine HL32.out.mono ?_;rintro r w1 ⟨rfl,rfl⟩;go_wp2_with fail
 refine HCTZ.out.mono ?_;rintro r w2 ⟨rfl,rfl⟩;go_upto_region 7 with fail
 have h5:IntKind.u32.wrap 5=5:=by decide
 have HFI:Hid (∀ w (x:Int) (L:List (Value × Int)),zJx w2 w L->(x=1 \/ x=5)->Calls Tryz.prog 137 #[.int .u64 x] w fun e w'=>∃ v,e=.returned v/\zJx w2 w' ((v,x) :: L)):=zz (by
  intro w x L hL hx;rcases hx with rfl|rfl
  ·exact (HF1.out w).mono fun e w' ⟨a,v,b,c⟩=>⟨v,b,hL.step a c⟩
  ·exact (HF5.out w).mono fun e w' ⟨a,v,b,c⟩=>⟨v,b,hL.step a c⟩)
 have ha0:zJx w2 w2.drew []:=⟨Below.drew (zK _ _),fun p hp=>by cases hp⟩;clear HF1 HF5 HL32 HCTZ;go_region_with (go_at_call 137;go_must (refine (HFI.out _ _ _ (by assumption) (by decide)).mono ?_;rintro e w9 ⟨v9,rfl,ha9⟩))
 rw[show IntKind.u64.wrap 5=5 by decide] at ha9;have HL5:=zz (ha9.2 _ (List.Mem.head _));have HL1:=zz (ha9.2 _ (List.Mem.tail _ (List.Mem.head _)));have HBB:=zz ha9.1;clear ha9 ha0 HFI;go_wp2;refine wp_loop_rounds 1 ?_;rw[rounds_succ];go_wp2_with fail
 refine (zKw _ _ HL1.out).mono ?_;rintro r w7 ⟨hb7,v7,rfl,hl7⟩;have HB7:=zz (HBB.out.trans (hb7.mono HBB.out.size));have HL7:=zz hl7;clear hb7 hl7;go_wp2;exact bodyPost_ret (v:=.tuple #[v7,.bool true]) (by simp[results,Tryz.results211,go_sem]) rfl ⟨HB7.out,_,rfl,HL7.out⟩
theorem zQf(w:World)(hG:GW w):
  Calls Tryz.prog 211 #[.int .u32 10,.int .i64 1] w fun e w'=>Below w.heap.size w w'/\∃ v',e=.returned (.tuple #[v',.bool true])/\zAf w' v' [10]:=by
 have HL32:Hid (Calls Tryz.prog 126 #[.int .u32 10] w fun e w'=>e=.returned (.int .i64 4)/\w'=w):=zz (by
  have h:=Tryz.bits_Len32 10 w (by decide) (by decide);rw[show ((Lib.bitLen (Int.toNat 10):Nat):Int)=4 by decide +kernel] at h;exact h)
 have HCTZ:=zz (zOE w hG);have HF1:Hid (∀ w,Calls Tryz.prog 137 #[.int .u64 1] w fun e w'=>Below w.heap.size w w'/\∃ v,e=.returned v/\zAf w' v [1]):=zz (fun w=>(zAH w 1 (by decide)).mono fun e w' ⟨a,v,b,c⟩=>⟨a,v,b,by rw[zAu 1 (by decide) (by decide)] at c;exact c⟩);have HF5:Hid (∀ w,Calls Tryz.prog 137 #[.int .u64 5] w fun e w'=>Below w.heap.size w w'/\∃ v,e=.returned v/\zAf w' v [5]):=zz (fun w=>(zAH w 5 (by decide)).mono fun e w' ⟨a,v,b,c⟩=>⟨a,v,b,by rw[zAu 5 (by decide) (by decide)] at c;exact c⟩);clear hG;go_enter Tryz.func211,Tryz.ntmps211
 go_wp2_with fail
 refine HL32.out.mono ?_;rintro r w1 ⟨rfl,rfl⟩;go_wp2_with fail
 refine HCTZ.out.mono ?_;rintro r w2 ⟨rfl,rfl⟩;go_upto_region 7 with fail
 have h5:IntKind.u32.wrap 5=5:=by decide
 have HFI:Hid (∀ w (x:Int) (L:List (Value × Int)),zJx w2 w L->(x=1 \/ x=5)->Calls Tryz.prog 137 #[.int .u64 x] w fun e w'=>∃ v,e=.returned v/\zJx w2 w' ((v,x) :: L)):=zz (by
  intro w x L hL hx;rcases hx with rfl|rfl
  ·exact (HF1.out w).mono fun e w' ⟨a,v,b,c⟩=>⟨v,b,hL.step a c⟩
  ·exact (HF5.out w).mono fun e w' ⟨a,v,b,c⟩=>⟨v,b,hL.step a c⟩)
 have ha0:zJx w2 w2.drew []:=⟨Below.drew (zK _ _),fun p hp=>by cases hp⟩;clear HF1 HF5 HL32 HCTZ;go_region_with (go_at_call 137;go_must (refine (HFI.out _ _ _ (by assumption) (by decide)).mono ?_;rintro e w9 ⟨v9,rfl,ha9⟩))
 rw[show IntKind.u64.wrap 5=5 by decide] at ha9;have HL5:=zz (ha9.2 _ (List.Mem.head _));have HL1:=zz (ha9.2 _ (List.Mem.tail _ (List.Mem.head _)));have HBB:=zz ha9.1;clear ha9 ha0 HFI;go_wp2;refine wp_loop_rounds 2 ?_;rw[rounds_succ];go_wp2_with fail
 refine (zKK _ _ _ 1 5 HL1.out HL5.out (by decide) (by decide) (by decide)).mono ?_;rintro r w6 ⟨hb6,v6,rfl,hl6⟩;have HL6:=zz hl6;have HB6:=zz (HBB.out.trans (hb6.mono HBB.out.size));clear hb6 hl6 HBB;have HBB:=HB6;go_wp2;rw[rounds_succ];go_wp2_with fail
 refine (zNQ _ _ HL6.out).mono ?_;rintro r w7 ⟨hb7,v7,rfl,hl7⟩;have HB7:=zz (HBB.out.trans (hb7.mono HBB.out.size));have HL7:=zz hl7;clear hb7 hl7;go_wp2;exact bodyPost_ret (v:=.tuple #[v7,.bool true]) (by simp[results,Tryz.results211,go_sem]) rfl ⟨HB7.out,_,rfl,HL7.out⟩
end Go.Proofs.YtcanfakaigpkgaaGreatDoor.D
