/-
  Of the proof that the law DiagUnlike answers true at every two values: a part, without conditions of its own.
-/
import Derived.Test.YtcanfakaigpkgaaGreatDoorPart45
set_option linter.unusedVariables false
set_option linter.unusedSimpArgs false
set_option maxRecDepth 100000
set_option maxHeartbeats 8000000
namespace Go.Proofs.YtcanfakaigpkgaaGreatDoor.D
open Go Go.RowKit Go.ChangeShapes Go.WideShapes Go.ChangeAt Limb
theorem zKg(os:Os):laidMet Tryz.prog zC0 (zA6 os):=by
 have e1:(zC0.filter fun x=>(zC0.map (·.1)).contains x.1)=zC0:=List.filter_eq_self.2 fun x hx=>List.contains_iff_mem.2 (List.mem_map.2 ⟨x,hx,rfl⟩)
 have e2:(zC0.filter fun x=>!(zC0.map (·.1)).contains x.1)=[]:=List.filter_eq_nil_iff.2 fun x hx=>by rw[List.contains_iff_mem.2 (List.mem_map.2 ⟨x,hx,rfl⟩)];simp
 exact laidMet_layVars (w0:=zHx os) (zC0.map (·.1)) [] (by rw[e1];rfl) (by rw[e1];exact zQs os) (by rw[e1];exact zOQ os) (by rw[e2];exact LaidIn.none)
theorem zMz(os:Os)(args:Array Value):laidMetH Tryz.prog zEI ((zA6 os).forCall (fun _ _=>0) ⟨#[],args,[]⟩).memory:=
 (laidMetH_of_parts (zKg os) (zOL os)).of_heap (by simp[World.memory,World.forCall,Input.heap])
theorem zG3{H:Type}{a b:TypeId}{d e:DataW H}(h:(DataW.weightsEach Tryz.prog [a,b] [d,e]).all (·<=reachBytes)=true):(∀ x ∈ DataW.weights Tryz.prog a d,x<=reachBytes)/\∀ x ∈ DataW.weights Tryz.prog b e,x<=reachBytes:=by
 simp only[DataW.weightsEach,List.append_nil,List.all_append,Bool.and_eq_true,List.all_eq_true,decide_eq_true_eq] at h;exact h
theorem zM7(H:Type)(enc:TypeId × Value->H)(W:World)(base:Nat)(args:Array Value)(ds gs:List (DataW H))(before:List MemPlace)
  (hval:∀ (j:Nat) t v,Tryz.f3.params[j]?=some t->args[j]?=some v->Value.okWide Tryz.prog W .any base t v)
  (hW:DataW.Whole enc Tryz.prog Tryz.f3.params.toList Rows.diagUnlikeSpec.vars false W args.toList ds gs before)
  (hwt:(DataW.weightsEach Tryz.prog (Tryz.f3.params.toList ++ (OpenSpec.ofChange Rows.diagUnlikeSpec).bare.plain.varTypes Tryz.prog) (ds ++ gs)).all (·<=reachBytes)=true)
  (hL:laidMetH Tryz.prog zEI W) (hS:21<W.heap.size) :
  Calls Tryz.prog 3 args W fun e W'=>∃ v,e=.returned v/\Rows.diagUnlikeSpec.post enc Tryz.prog Tryz.f3 false true false false W args v W':=by
 have hW':=hW;obtain⟨p,q,hA0,hV,rfl,hfz,hnd⟩:=hW;have hA:DataW.TrodAll enc Tryz.prog W 0 (fun _=>true) true Tryz.f3.params.toList args.toList ds p:=hA0;rw[Tryz.params3] at hA hval hwt;obtain⟨v0,vs0,d0,ds0,p0,q0,hargs,rfl,rfl,h0,r0⟩:=trodAll_cons hA;obtain⟨v1,vs1,d1,ds1,p1,q1,rfl,rfl,rfl,h1,r1⟩:=trodAll_cons r0;obtain⟨rfl,rfl,rfl⟩:=trodAll_nil r1;obtain rfl:args=#[v0,v1]:=by cases args;simp_all
 obtain⟨rfl,rfl⟩:=trodVars_none hV;obtain⟨w0,w1⟩:=zG3 (a:=31) (b:=31) (d:=d0) (e:=d1) hwt;obtain⟨c0,rfl,-⟩:=okWide_struct Tryz.underlying31 (hval 0 31 v0 rfl rfl);obtain⟨c1,rfl,-⟩:=okWide_struct Tryz.underlying31 (hval 1 31 v1 rfl rfl);obtain⟨f0,hf0⟩:=h0;obtain⟨f1,hf1⟩:=h1;obtain⟨f,hT,hfw⟩:=zHI f0 c0.toList d0 p0 hf0 w0;obtain⟨g,hU,hgw⟩:=zHI f1 c1.toList d1 p1 hf1 w1;obtain⟨hG,hE,e0,hSe⟩:=zOz hL hS;refine (zG4 W hG hE f g (.agg c0) (.agg c1) hT hU hfw hgw (fun w' hb=>zJJ e0 w' (hG.step hb).y.v.g (hSe.step hb hS))).mono fun e W' ⟨he,hb⟩=>?_
 subst he;refine⟨_,rfl,_,_,_,[],_,[],hW',?_,zIJ ?_ hA0 hb,?_,hb.frame _,fun h=>by cases h⟩
 ·exact trodAll_cons_mk (shut_bool Tryz.underlying4 _) trodAll_mk0
 ·intro t ht;rw[Tryz.params3] at ht;have hm:t=31:=by simpa using ht
  exact .inl hm
 ·rfl
abbrev zV:Value:=.agg #[.int .i8 0,.int .u64 0,.bool false,.slice none 0 0,.int .u64 0,.int .i8 0,.string ⟨#[]⟩,.slice none 0 0]
theorem zQx(os:Os){H:Type}(enc:TypeId × Value->H):∃ ds places,DataW.whole enc Tryz.prog ((zA6 os).forCall (fun _ _=>0) ⟨#[],#[zV,zV],[]⟩).memory Tryz.f3.params.toList Rows.diagUnlikeSpec.vars false ((#[zV,zV]:Array Value)).toList 40=some (ds,[],places):=
 ⟨[.agg [.lit (.int .i8 0),.lit (.int .u64 0),.agg [.lit (.bool false),.nil],.lit (.int .u64 0),.lit (.int .i8 0),.lit (.string []),.nil],.agg [.lit (.int .i8 0),.lit (.int .u64 0),.agg [.lit (.bool false),.nil],.lit (.int .u64 0),.lit (.int .i8 0),.lit (.string []),.nil]],[],by kernel_rfl⟩
theorem zKs{W:World}(h:W.ShapedOpen Tryz.checked.prog):21<W.heap.size:=by
 have h1:(((begin Tryz.prog (fun _ _=>0) default).world.heap[21]?).bind Obj.row?).isSome=true:=by kernel_rfl
 obtain⟨⟨zero,t⟩,h0⟩:=Option.isSome_iff_exists.1 h1;obtain⟨cs,hc,_⟩:=h.1 21 zero t (by show 21<Tryz.prog.globals.size;rw[g21];omega) h0;exact (Array.getElem?_eq_some_iff.1 hc).1
theorem zN2(os:Os):((zA6 os).forCall (fun _ _=>0) ⟨#[],#[zV,zV],[]⟩).Shaped Tryz.prog:=
 World.shaped_of_ZipB (by kernel_rfl) (by kernel_rfl)
end Go.Proofs.YtcanfakaigpkgaaGreatDoor.D
