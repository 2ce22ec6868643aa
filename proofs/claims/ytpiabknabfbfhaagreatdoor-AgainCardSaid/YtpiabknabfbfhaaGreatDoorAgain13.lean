/- 13 -/
import Derived.Stop.Joined
import Derived.Test.YtpiabknabfbfhaaGreatDoorRows
import Derived.JoinedOf
import Derived.KernelRfl
import Derived.Test.YtpiabknabfbfhaaGreatDoorAgain12
set_option linter.all false
set_option maxRecDepth 100000
set_option maxHeartbeats 8000000
namespace Go.Proofs.YtpiabknabfbfhaaGreatDoor
open Go Go.Qw Go.Conc Go.ChangeShapes Go.WideShapes Go.ChangeAt Go.RowKit
theorem XC {a b c:Int}{W:World}(ha:(Lit.int .i64 a).wf=true)(hb:(Lit.int .i64 b).wf=true)(hc:(Lit.int .i64 c).wf=true)(hs:W.ShapedOpen Tryz.prog)(hl:laidMetH Tryz.prog u9 W):
 ∃N last o w' t',runNT Tryz.prog (N+1) (Conc.solo (Go.Conc.G (Frame.enter Tryz.prog 5 #[iV a,iV b,iV c] .normal) []) W) #[]=(.ended o w',t')/\runN Tryz.prog N (Conc.solo (Go.Conc.G (Frame.enter Tryz.prog 5 #[iV a,iV b,iV c] .normal) []) W)=.next last/\step Tryz.prog last=.ended o w'/\
  Conc.Good Tryz.prog (λv w'=>v=.bool true/\Below W.heap.size W w') last o w' t':=by
 obtain⟨k0,k1⟩:=ajQ hs hl
 have bound:∀{x:Int},(Lit.int .i64 x).wf=true->-9223372036854775808<=x/\x<=9223372036854775807:=λh=>by simpa[Lit.wf,IntKind.min,IntKind.max,IntKind.signed,IntKind.bits]using h
 refine ao5 (λk=>k<2) (by kernel_rfl) Tryz.func5 Tryz.results5 λφ=>?_;have h0:((⟨λb=>W.heap[b]?⟩:Hp).only λk=>k<2).f 0=some (.cells #[rT 45] 143 (0,0)):=Hp.HT k0 (by decide);have h1:((⟨λb=>W.heap[b]?⟩:Hp).only λk=>k<2).f 1=some (.cells EY.toArray 396 (0,0)):=Hp.HT k1 (by decide);refine(Xx (bound ha) (bound hb) (bound hc) ⟨h0,h1,rfl⟩).mono λe J ⟨q1,q2,q3⟩=>⟨q1,λb hb=>?_⟩;have fO:b<2:=hb
 match b,fO with
 |0,_=>rw[q2,h0,k0]
 |1,_=>rw[q3,h1,k1];rfl
theorem XA (os:Os)(started:os.Started)(H:Type)(enc:TypeId×Value->H):
 ReturnsInLeavingWide {} Tryz.checked os 5 .any (λw args=>(Rows.againSpec.pre enc Tryz.prog Tryz.f5 [] false w args/\laidMetH Tryz.prog u9 w)/\sizedMet enc Tryz.prog Tryz.f5 (OpenSpec.ofChange Rows.againSpec) false w args)
  (Rows.againSpec.post enc Tryz.prog Tryz.f5 false true false false):=by
 refine aj5 (C:=Tryz.checked) (X:=λw _=>laidMetH Tryz.prog u9 w) (λ_ _ _ hh h=>h.of_heap hh) own started Tryz.func5
  (ChangeSpec.witness_shaped (enc:=enc) (C:=Tryz.checked) (os:=os) (X:=λw _=>laidMetH Tryz.prog u9 w) false (En os) #[.int .i64 0,.int .i64 0,.int .i64 0] 5 (ajN os)
   (ajO os _) (by kernel_rfl) (by kernel_rfl) (by kernel_rfl) (ajM os _)) ?_
 intro W base args ds gs before xX SV hW _ hL;have de:∀(j:Nat) t v,Tryz.f5.params[j]? =some t->args[j]? =some v->Value.okWide Tryz.prog W .any base t v:=SV;have tf:=hW;obtain⟨p,q,Gs,hV,rfl,_,_⟩:=hW;have hA:DataW.TrodAll enc Tryz.prog W 0 (λ_=>true) true Tryz.f5.params.toList args.toList ds p:=Gs;rw[Tryz.params5]at hA de;obtain⟨v0,v1,v2,d0,d1,d2,p0,p1,p2,rfl,rfl,rfl,h0,h1,h2⟩:=trodAll_three hA;obtain⟨rfl,rfl⟩:=trodVars_none hV;obtain⟨a,rfl,rfl,rfl,wa⟩:=open_int Tryz.underlying3 (de 0 3 v0 rfl rfl) h0;obtain⟨b,rfl,rfl,rfl,wb⟩:=open_int Tryz.underlying3 (de 1 3 v1 rfl rfl) h1;obtain⟨c,rfl,rfl,rfl,wc⟩:=open_int Tryz.underlying3 (de 2 3 v2 rfl rfl) h2;clear Gs SV;obtain⟨M,last,o,w',t',r1,r2,r3,r4⟩:=XC wa wb wc xX hL;refine⟨M,last,o,w',t',r1,r2,r3,r4.mono λv hF=>?_⟩;obtain⟨rfl,afw⟩:=hF;simp only[List.append_nil]at tf;have fp:DataW.TrodAll enc Tryz.prog w' W.heap.size (λ_=>false) false [4] [.bool true] [.lit (.bool true)] []:=trodAll_mk1 (shut_bool Tryz.underlying4 true);have afn:DataW.TrodAll enc Tryz.prog w' 0 (λb=>decide (b<W.heap.size)) true [3,3,3] [.int .i64 a,.int .i64 b,.int .i64 c] [.lit (.int .i64 a),.lit (.int .i64 b),.lit (.int .i64 c)] []:=trodAll_mk3 (shut_int Tryz.underlying3 wa) (shut_int Tryz.underlying3 wb) (shut_int Tryz.underlying3 wc);exact⟨_,_,_,[],[],[],tf,fp,afn,rfl,afw.frame _,λh=>by cases h⟩
end Go.Proofs.YtpiabknabfbfhaaGreatDoor
namespace Go.Proofs.YtpiabknabfbfhaaGreatDoor
open Go
theorem Za:(Rows.againRow.wf (OpenSpec.ofChange Rows.againSpec))=true:=by kernel_rfl
theorem Zb:(laidOutB Tryz.prog)=true:=by kernel_rfl
theorem Zm:(mapsRowed Tryz.prog)=true:=by kernel_rfl
theorem Zy:(Tryz.f5.params.all (Tryz.prog.readableRec ·))=true:=by kernel_rfl
theorem ZB:(namedTie Tryz.prog Rows.againRow.named Rows.againSpec.vars)=true:=by kernel_rfl
theorem ZC:((Rows.againRow.stops==[]))=true:=by kernel_rfl
theorem ZD:((Tryz.prog.stops==[]))=true:=by kernel_rfl
theorem ZE:((Rows.againRow.knobs==[]))=true:=by kernel_rfl
theorem ZF:((Tryz.prog.stopKnobs==[]))=true:=by kernel_rfl
theorem ZG:((Rows.againRow.inPlace==Tryz.prog.inPlace 5))=true:=by kernel_rfl
theorem Zc:((Rows.againRow.unfollowed==Tryz.prog.unfollowed 5))=true:=by kernel_rfl
theorem Zd:((Rows.againRow.recurses==Tryz.prog.recurses 5))=true:=by kernel_rfl
theorem Ze:((Rows.againRow.named==Tryz.prog.varsNamed 5))=true:=by kernel_rfl
theorem Zf:((Rows.againRow.maps==(Tryz.f5.params.toList++Rows.againSpec.plain.varTypes Tryz.prog).any (Tryz.prog.mapsRec ·)))=true:=by kernel_rfl
theorem Zg:((Rows.againRow.ifaces==(Tryz.f5.params.toList++Rows.againSpec.plain.varTypes Tryz.prog).any (Tryz.prog.ifacesRec ·)))=true:=by kernel_rfl
theorem Zh:((Rows.againRow.mapsOut==Tryz.prog.mapsAmong Tryz.f5.resultTypes.toList))=true:=by kernel_rfl
theorem Zi:((Rows.againRow.loops==(Tryz.f5.params.toList++Rows.againSpec.plain.varTypes Tryz.prog).any (Tryz.prog.loopsFrom ·)))=true:=by kernel_rfl
theorem Zj:((Rows.againRow.wideKeys==(Tryz.f5.params.toList++Rows.againSpec.plain.varTypes Tryz.prog++Tryz.f5.resultTypes.toList).any (Tryz.prog.wideKeysFrom ·)))=true:=by kernel_rfl
theorem Zk:(Rows.againSpec.vars.all (Tryz.prog.varReadable ·))=true:=by kernel_rfl
theorem Zl:(Tryz.f5.resultTypes.all (λt=>Tryz.prog.readableRec t&&decide (t<Tryz.prog.types.size)))=true:=by kernel_rfl
theorem Zo:((Rows.againRow.ifacesOut==Tryz.f5.resultTypes.toList.any (Tryz.prog.ifacesRec ·)))=true:=by kernel_rfl
theorem Zp:((Rows.againRow.loopsOut==Tryz.f5.resultTypes.toList.any (Tryz.prog.loopsFrom ·)))=true:=by kernel_rfl
theorem Zq:((Rows.againRow.plainKeys==Tryz.prog.plainKeys))=true:=by kernel_rfl
theorem Zr:(Rows.againRow.shortTexts.isNone)=true:=by kernel_rfl
theorem Zs:(Tryz.prog.stopsHeard)=true:=by kernel_rfl
theorem Zt:(Tryz.prog.mayEnter)=true:=by kernel_rfl
theorem Zu:((Rows.againRow.lifted==Tryz.prog.liftsFinal))=true:=by kernel_rfl
theorem Zv:((Tryz.prog.make==some Rows.againRow.make))=true:=by kernel_rfl
theorem Zw:((Rows.againRow.kinds==(if Rows.againRow.domain.isEmpty then []else Tryz.f5.params.toList.map λt=>match Tryz.prog.underlying t with|some (.int k)=>some k|_=>none)))=true:=by kernel_rfl
theorem Zx:((Rows.againRow.pinned==Rows.againRow.pinnedBy))=true:=by kernel_rfl
theorem Zz:((Rows.againRow.veiled==(Tryz.f5.params.toList++Rows.againSpec.plain.varTypes Tryz.prog++Tryz.f5.resultTypes.toList).any (Tryz.prog.veiledRec ·)))=true:=by kernel_rfl
theorem ZA:(Rows.againRow.veiledFits Tryz.prog Tryz.f5.params.toList (Tryz.f5.params.toList++Rows.againSpec.plain.varTypes Tryz.prog++Tryz.f5.resultTypes.toList))=true:=by kernel_rfl
theorem gT {a b:Bool}(h:a=true)(k:b=true):(a&&b)=true:=by rw[h,k];rfl
theorem Y5:joinedFacts Tryz.prog 5 Tryz.f5 Rows.againSpec Rows.againRow=true:=
 gT (gT (gT (gT (gT (gT (gT (gT (gT (gT (gT (gT (gT (gT (gT (gT (gT (gT (gT (gT (gT (gT (gT (gT (gT (gT (gT (gT (gT (gT (gT Za Zb) Zm) Zy) ZB) ZC) ZD) ZE) ZF) ZG) Zc) Zd) Ze) Zf) Zg) Zh) Zi) Zj) Zk) Zl) Zo) Zp) Zq) Zr) Zs) Zt) Zu) Zv) Zw) Zx) Zz) ZA
theorem Y6:Tryz.prog.funcNamed "queuewire/queuewirekeep.Again" =some 5:=by kernel_rfl
theorem Y4:Tryz.f5.isInstance Tryz.prog Rows.againRow.origin Rows.againRow.targs:=of_decide_eq_true (by kernel_rfl)
theorem Y7:Tryz.f5.isWrapper Tryz.prog Rows.againRow.wrapper Rows.againRow.mainSum:=by unfold Func.isWrapper;first|(rw[if_pos (by decide+kernel)];kernel_rfl)|(rw[if_neg (by decide+kernel)];exact⟨rfl,rfl⟩)
end Go.Proofs.YtpiabknabfbfhaaGreatDoor
