/- Part 37. -/
import Derived.Stop.Joined
import Derived.Test.YtpiabknabfbfhaaGreatDoorRows
import Derived.JoinedOf
import Derived.KernelRfl
import Derived.Test.YtpiabknabfbfhaaGreatDoorFairly36
set_option linter.all false
set_option maxRecDepth 100000
set_option maxHeartbeats 8000000
namespace Go.Proofs.YtpiabknabfbfhaaGreatDoor
open Go Go.Qw Go.Conc Go.ChangeShapes Go.WideShapes Go.ChangeAt Go.RowKit
theorem abb {a b:Int}{W:World}(ha:(Lit.int .i64 a).wf=true)(hb:(Lit.int .i64 b).wf=true)(hs:W.ShapedOpen Tryz.prog)(hl:laidMetH Tryz.prog uh W):
 ∃N last o w' t',runNT Tryz.prog (N+1) (Conc.solo (Go.Conc.G (Frame.enter Tryz.prog 4 #[iV a,iV b] .normal) []) W) #[]=(.ended o w',t')/\runN Tryz.prog N (Conc.solo (Go.Conc.G (Frame.enter Tryz.prog 4 #[iV a,iV b] .normal) []) W)=.next last/\step Tryz.prog last=.ended o w'/\
  Conc.Good Tryz.prog (λv w'=>v=.bool true/\Below W.heap.size W w') last o w' t':=by
 obtain⟨k0,k1⟩:=ah5 hs hl
 have bound:∀{x:Int},(Lit.int .i64 x).wf=true->-9223372036854775808<=x/\x<=9223372036854775807:=λh=>by simpa[Lit.wf,IntKind.min,IntKind.max,IntKind.signed,IntKind.bits]using h
 refine ank (λk=>k<2) (by kernel_rfl) Tryz.func4 Tryz.results4 λφ=>?_;have h0:((⟨λb=>W.heap[b]?⟩:Hp).only λk=>k<2).f 0=some (.cells #[rT 45] 143 (0,0)):=Hp.G2 k0 (by decide);have h1:((⟨λb=>W.heap[b]?⟩:Hp).only λk=>k<2).f 1=some (.cells Ef.toArray 396 (0,0)):=Hp.G2 k1 (by decide);refine(aa9 (bound ha) (bound hb) ⟨h0,h1,rfl⟩).mono λe τ ⟨q1,q2,q3⟩=>⟨q1,λb hb=>?_⟩;have eQ:b<2:=hb
 match b,eQ with
 |0,_=>rw[q2,h0,k0]
 |1,_=>rw[q3,h1,k1];rfl
theorem aba (os:Os)(started:os.Started)(H:Type)(enc:TypeId×Value->H):
 ReturnsInLeavingWide {} Tryz.checked os 4 .any (λw args=>(Rows.fairlySpec.pre enc Tryz.prog Tryz.f4 [] false w args/\laidMetH Tryz.prog uh w)/\sizedMet enc Tryz.prog Tryz.f4 (OpenSpec.ofChange Rows.fairlySpec) false w args)
  (Rows.fairlySpec.post enc Tryz.prog Tryz.f4 false true false false):=by
 refine ail (C:=Tryz.checked) (X:=λw _=>laidMetH Tryz.prog uh w) (λ_ _ _ hh h=>h.of_heap hh) own started Tryz.func4
  (ChangeSpec.witness_shaped (enc:=enc) (C:=Tryz.checked) (os:=os) (X:=λw _=>laidMetH Tryz.prog uh w) false (DD os) #[.int .i64 0,.int .i64 0] 4 (ah2 os)
   (ah3 os _) (by kernel_rfl) (by kernel_rfl) (by kernel_rfl) (ah1 os _)) ?_
 intro W base args ds gs before xo RF hW _ hL;have dk:∀(j:Nat) t v,Tryz.f4.params[j]? =some t->args[j]? =some v->Value.okWide Tryz.prog W .any base t v:=RF;have sr:=hW;obtain⟨p,q,FB,hV,rfl,_,_⟩:=hW;have hA:DataW.TrodAll enc Tryz.prog W 0 (λ_=>true) true Tryz.f4.params.toList args.toList ds p:=FB;rw[Tryz.params4]at hA dk;obtain⟨v0,v1,d0,d1,p0,p1,rfl,rfl,rfl,h0,h1⟩:=trodAll_two hA;obtain⟨rfl,rfl⟩:=trodVars_none hV;obtain⟨a,rfl,rfl,rfl,wa⟩:=open_int Tryz.underlying3 (dk 0 3 v0 rfl rfl) h0;obtain⟨b,rfl,rfl,rfl,wb⟩:=open_int Tryz.underlying3 (dk 1 3 v1 rfl rfl) h1;clear FB RF;obtain⟨M,last,o,w',t',r1,r2,r3,r4⟩:=abb wa wb xo hL;refine⟨M,last,o,w',t',r1,r2,r3,r4.mono λv hF=>?_⟩;obtain⟨rfl,adL⟩:=hF;simp only[List.append_nil]at sr;have eN:DataW.TrodAll enc Tryz.prog w' W.heap.size (λ_=>false) false [4] [.bool true] [.lit (.bool true)] []:=trodAll_mk1 (shut_bool Tryz.underlying4 true);have adC:DataW.TrodAll enc Tryz.prog w' 0 (λb=>decide (b<W.heap.size)) true [3,3] [.int .i64 a,.int .i64 b] [.lit (.int .i64 a),.lit (.int .i64 b)] []:=trodAll_mk2 (shut_int Tryz.underlying3 wa) (shut_int Tryz.underlying3 wb);exact⟨_,_,_,[],[],[],sr,eN,adC,rfl,adL.frame _,λh=>by cases h⟩
end Go.Proofs.YtpiabknabfbfhaaGreatDoor
namespace Go.Proofs.YtpiabknabfbfhaaGreatDoor
open Go
theorem Xm:(Rows.fairlyRow.wf (OpenSpec.ofChange Rows.fairlySpec))=true:=by kernel_rfl
theorem Xn:(laidOutB Tryz.prog)=true:=by kernel_rfl
theorem XA:(mapsRowed Tryz.prog)=true:=by kernel_rfl
theorem XL:(Tryz.f4.params.all (Tryz.prog.readableRec ·))=true:=by kernel_rfl
theorem XP:(namedTie Tryz.prog Rows.fairlyRow.named Rows.fairlySpec.vars)=true:=by kernel_rfl
theorem XQ:((Rows.fairlyRow.stops==[]))=true:=by kernel_rfl
theorem XR:((Tryz.prog.stops==[]))=true:=by kernel_rfl
theorem XS:((Rows.fairlyRow.knobs==[]))=true:=by kernel_rfl
theorem XT:((Tryz.prog.stopKnobs==[]))=true:=by kernel_rfl
theorem XU:((Rows.fairlyRow.inPlace==Tryz.prog.inPlace 4))=true:=by kernel_rfl
theorem Xo:((Rows.fairlyRow.unfollowed==Tryz.prog.unfollowed 4))=true:=by kernel_rfl
theorem Xr:((Rows.fairlyRow.recurses==Tryz.prog.recurses 4))=true:=by kernel_rfl
theorem Xs:((Rows.fairlyRow.named==Tryz.prog.varsNamed 4))=true:=by kernel_rfl
theorem Xt:((Rows.fairlyRow.maps==(Tryz.f4.params.toList++Rows.fairlySpec.plain.varTypes Tryz.prog).any (Tryz.prog.mapsRec ·)))=true:=by kernel_rfl
theorem Xu:((Rows.fairlyRow.ifaces==(Tryz.f4.params.toList++Rows.fairlySpec.plain.varTypes Tryz.prog).any (Tryz.prog.ifacesRec ·)))=true:=by kernel_rfl
theorem Xv:((Rows.fairlyRow.mapsOut==Tryz.prog.mapsAmong Tryz.f4.resultTypes.toList))=true:=by kernel_rfl
theorem Xw:((Rows.fairlyRow.loops==(Tryz.f4.params.toList++Rows.fairlySpec.plain.varTypes Tryz.prog).any (Tryz.prog.loopsFrom ·)))=true:=by kernel_rfl
theorem Xx:((Rows.fairlyRow.wideKeys==(Tryz.f4.params.toList++Rows.fairlySpec.plain.varTypes Tryz.prog++Tryz.f4.resultTypes.toList).any (Tryz.prog.wideKeysFrom ·)))=true:=by kernel_rfl
theorem Xy:(Rows.fairlySpec.vars.all (Tryz.prog.varReadable ·))=true:=by kernel_rfl
theorem Xz:(Tryz.f4.resultTypes.all (λt=>Tryz.prog.readableRec t&&decide (t<Tryz.prog.types.size)))=true:=by kernel_rfl
theorem XB:((Rows.fairlyRow.ifacesOut==Tryz.f4.resultTypes.toList.any (Tryz.prog.ifacesRec ·)))=true:=by kernel_rfl
theorem XC:((Rows.fairlyRow.loopsOut==Tryz.f4.resultTypes.toList.any (Tryz.prog.loopsFrom ·)))=true:=by kernel_rfl
theorem XD:((Rows.fairlyRow.plainKeys==Tryz.prog.plainKeys))=true:=by kernel_rfl
theorem XE:(Rows.fairlyRow.shortTexts.isNone)=true:=by kernel_rfl
theorem XF:(Tryz.prog.stopsHeard)=true:=by kernel_rfl
theorem XG:(Tryz.prog.mayEnter)=true:=by kernel_rfl
theorem XH:((Rows.fairlyRow.lifted==Tryz.prog.liftsFinal))=true:=by kernel_rfl
theorem XI:((Tryz.prog.make==some Rows.fairlyRow.make))=true:=by kernel_rfl
theorem XJ:((Rows.fairlyRow.kinds==(if Rows.fairlyRow.domain.isEmpty then []else Tryz.f4.params.toList.map λt=>match Tryz.prog.underlying t with|some (.int k)=>some k|_=>none)))=true:=by kernel_rfl
theorem XK:((Rows.fairlyRow.pinned==Rows.fairlyRow.pinnedBy))=true:=by kernel_rfl
theorem XM:((Rows.fairlyRow.veiled==(Tryz.f4.params.toList++Rows.fairlySpec.plain.varTypes Tryz.prog++Tryz.f4.resultTypes.toList).any (Tryz.prog.veiledRec ·)))=true:=by kernel_rfl
theorem XO:(Rows.fairlyRow.veiledFits Tryz.prog Tryz.f4.params.toList (Tryz.f4.params.toList++Rows.fairlySpec.plain.varTypes Tryz.prog++Tryz.f4.resultTypes.toList))=true:=by kernel_rfl
theorem gH {a b:Bool}(h:a=true)(k:b=true):(a&&b)=true:=by rw[h,k];rfl
theorem Xh:joinedFacts Tryz.prog 4 Tryz.f4 Rows.fairlySpec Rows.fairlyRow=true:=
 gH (gH (gH (gH (gH (gH (gH (gH (gH (gH (gH (gH (gH (gH (gH (gH (gH (gH (gH (gH (gH (gH (gH (gH (gH (gH (gH (gH (gH (gH (gH Xm Xn) XA) XL) XP) XQ) XR) XS) XT) XU) Xo) Xr) Xs) Xt) Xu) Xv) Xw) Xx) Xy) Xz) XB) XC) XD) XE) XF) XG) XH) XI) XJ) XK) XM) XO
theorem Xi:Tryz.prog.funcNamed "queuewire/queuewirekeep.Fairly" =some 4:=by kernel_rfl
theorem Xg:Tryz.f4.isInstance Tryz.prog Rows.fairlyRow.origin Rows.fairlyRow.targs:=of_decide_eq_true (by kernel_rfl)
theorem Xj:Tryz.f4.isWrapper Tryz.prog Rows.fairlyRow.wrapper Rows.fairlyRow.mainSum:=by unfold Func.isWrapper;first|(rw[if_pos (by decide+kernel)];kernel_rfl)|(rw[if_neg (by decide+kernel)];exact⟨rfl,rfl⟩)
end Go.Proofs.YtpiabknabfbfhaaGreatDoor
