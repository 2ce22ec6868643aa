/- 18 -/
import Derived.Stop.Joined
import Derived.ChangeSlices
import Derived.Carry
import Derived.Test.YtpiabknabfbfhaaGreatDoorRows
import Derived.JoinedOf
import Derived.KernelRfl
import Derived.Test.YtpiabknabfbfhaaGreatDoorKept17
set_option linter.all false
set_option maxRecDepth 100000
set_option maxHeartbeats 8000000
namespace Go.Proofs.YtpiabknabfbfhaaGreatDoor
open Go Go.Qw Go.Conc Go.ChangeShapes Go.WideShapes Go.ChangeAt Go.RowKit Go.Lib
theorem Pr {W:World}{a:Addr}{v:Value}(h:W.cell? a=some v):a.spot=none/\∃cs e z,W.heap[a.block]? =some (.cells cs e z)/\cs[a.off]? =some v:=by
 unfold World.cell? at h;split at h
 ·rename_i c e z hb;split at h
  ·cases h
  ·rename_i hs;exact⟨by simpa using hs,c,e,z,hb,h⟩
 ·cases h
theorem alZ {W:World}{ab:Nat}{o:Obj}(h2:¬ab<2)(hb:W.heap[ab]? =some o):
 ((⟨λb=>W.heap[b]?⟩:Hp).only λk=>k<2\/k=ab)=((⟨λb=>W.heap[b]?⟩:Hp).only λk=>k<2).set ab o:=Hp.ext' λx=>by
 by_cases e:x=ab
 ·subst e;rw[Hp.bD,Hp.EN (U:=⟨λb=>W.heap[b]?⟩) (D:=λk=>k<2\/k=x) hb (.inr rfl)]
 ·rw[Hp.aM _ e];simp[Hp.only,e]
theorem aiN {base:Option Addr}{len cap:Nat}{l:List Int}{W:World}(lH:len<=l.length)(hn:len<=9223372036854775807)(hlw:∀n∈l,(Lit.int .i64 n).wf=true)
 (mI:0<len->∃ad,base=some ad) (hc:∀j ad,j<len->base=some ad->W.cell? (ad.add j)=some (.int .i64 (l.getD j 0))) (hs:W.ShapedOpen Tryz.prog) (hl:laidMetH Tryz.prog uR W):
 ∃N last o w' t',runNT Tryz.prog (N+1) (Conc.solo (Go.Conc.G (Frame.enter Tryz.prog 3 #[.slice base len cap] .normal) []) W) #[]=(.ended o w',t')/\runN Tryz.prog N (Conc.solo (Go.Conc.G (Frame.enter Tryz.prog 3 #[.slice base len cap] .normal) []) W)=.next last/\step Tryz.prog last=.ended o w'/\
  Conc.Good Tryz.prog (λv w'=>v=.bool true/\Below W.heap.size W w') last o w' t':=by
 obtain⟨k0,k1⟩:=ai9 hs hl;have h0:((⟨λb=>W.heap[b]?⟩:Hp).only λk=>k<2).f 0=some (.cells #[rT 45] 143 (0,0)):=Hp.EN k0 (by decide);have h1:((⟨λb=>W.heap[b]?⟩:Hp).only λk=>k<2).f 1=some (.cells BR.toArray 396 (0,0)):=Hp.EN k1 (by decide);by_cases hp:0<len
 ·obtain⟨ad,rfl⟩:=mI hp;have c0:=hc 0 ad hp rfl;obtain⟨s0,cs,e,z,hb,hz⟩:=Pr c0;obtain⟨ab,off,spot⟩:=ad;obtain rfl:spot=none:=s0
  have h2:¬ab<2:=λh=>by
   have uH:cs[off]? =some (.int .i64 (l.getD 0 0)):=hz;have cH:W.heap[ab]? =some (.cells cs e z):=hb;rcases(show ab=0\/ab=1 by omega)with rfl|rfl
   ·rw[k0]at cH;injection cH with cH;injection cH with cH _ _;rw[<-cH]at uH
    cases off with
    |zero=>cases uH
    |succ o=>simp at uH
   ·rw[k1]at cH;injection cH with cH;injection cH with cH _ _;rw[<-cH,List.getElem?_toArray]at uH;have hm:=List.mem_of_getElem? uH;obtain⟨x,_,hx⟩:=List.mem_map.1 (show _∈propertiesTab.map λz=>Value.int .u8 z from hm)
    cases hx
  have cH:W.heap[ab]? =some (.cells cs e z):=hb;refine UQ (λk=>k<2\/k=ab) (by kernel_rfl) Tryz.func3 Tryz.results3 λφ=>?_;rw[alZ h2 cH];have bd:(l.take len).length=len:=by rw[List.length_take];omega
  have hk:=aiK (W:=W) (φ:=φ) (l:=l.take len) (cs:=cs.toList) (ez:=e) (fz:=z) (ab:=ab) (off:=off) (cap:=cap) (U:=(⟨λb=>W.heap[b]?⟩:Hp).only λk=>k<2) (L1:=BR) (λx hx=>by
   have:=hlw x (List.mem_of_mem_take hx)
   simpa[Lit.wf,IntKind.min,IntKind.max,IntKind.signed,IntKind.bits]using this) ⟨h0,h1,rfl⟩ (by simp[Hp.only,h2]) (λi hi=>by
   have Bi:i<len:=by omega
   have:=hc i ⟨ab,off,none⟩ Bi rfl
   rw[show(⟨ab,off,none⟩:Addr).add i=⟨ab,off+i,none⟩by simp[Addr.add]]at this
   obtain⟨_,cs',e',z',dA,D8⟩:=Pr this
   have dA:W.heap[ab]? =some (.cells cs' e' z'):=dA
   rw[cH]at dA
   injection dA with dA
   injection dA with dA _ _
   subst dA
   have D8:cs[off+i]? =some (.int .i64 (l.getD i 0)):=D8
   rw[Array.getElem?_toList,D8,List.getElem_take]
   have:l.getD i 0=l[i]:=by simp[List.getD,List.getElem?_eq_getElem (show i<l.length by omega)]
   rw[this]) (by omega)
  rw[bd,Array.toArray_toList]at hk;refine hk.mono λe J ⟨q1,q2,q3,q4⟩=>⟨q1,λb hb=>?_⟩;rcases hb with dA|rfl
  ·match b,dA with
   |0,_=>rw[q2,h0,k0]
   |1,_=>rw[q3,h1,k1];rfl
  ·rw[q4,cH]
 ·obtain rfl:len=0:=by omega
  refine UQ (λk=>k<2) (by kernel_rfl) Tryz.func3 Tryz.results3 λφ=>?_;refine(aiL ⟨h0,h1,rfl⟩).mono λe J ⟨q1,q2,q3⟩=>⟨q1,λb hb=>?_⟩;have dA:b<2:=hb
  match b,dA with
  |0,_=>rw[q2,h0,k0]
  |1,_=>rw[q3,h1,k1];rfl
theorem VF:Tryz.prog.underlying 22=some (.slice 3):=by kernel_rfl
theorem aiM (os:Os)(started:os.Started)(H:Type)(enc:TypeId×Value->H):
 ReturnsInLeavingWide {} Tryz.checked os 3 .any (λw args=>(Rows.keptSpec.pre enc Tryz.prog Tryz.f3 [] false w args/\laidMetH Tryz.prog uR w)/\sizedMet enc Tryz.prog Tryz.f3 (OpenSpec.ofChange Rows.keptSpec) false w args)
  (Rows.keptSpec.post enc Tryz.prog Tryz.f3 false true false false):=by
 refine ajo (C:=Tryz.checked) (X:=λw _=>laidMetH Tryz.prog uR w) (λ_ _ _ hh h=>h.of_heap hh) own started Tryz.func3
  (ChangeSpec.witness_shaped (enc:=enc) (C:=Tryz.checked) (os:=os) (X:=λw _=>laidMetH Tryz.prog uR w) false (Ee os) #[.slice none 0 0] 3 (ai6 os)
   (ai7 os _) (by kernel_rfl) (by kernel_rfl) (by kernel_rfl) (ai5 os _)) ?_
 intro W base args ds gs before xP Sp hW _ hL;have dt:∀(j:Nat) t v,Tryz.f3.params[j]? =some t->args[j]? =some v->Value.okWide Tryz.prog W .any base t v:=Sp;have rN:=hW;obtain⟨p,q,Gi,hV,rfl,_,_⟩:=hW;have hA:DataW.TrodAll enc Tryz.prog W 0 (λ_=>true) true Tryz.f3.params.toList args.toList ds p:=Gi;rw[Tryz.params3]at hA dt;obtain⟨v0,d0,rfl,rfl,h0⟩:=trodAll_one hA;obtain⟨rfl,rfl⟩:=trodVars_none hV;obtain⟨a0,len,cap,rfl⟩:=okWide_slice VF (dt 0 22 v0 rfl rfl);have h0k:=h0;obtain⟨fuel,hf⟩:=h0;clear Gi Sp;simp only[List.append_nil]at rN;have bd:∀x∈p,x.block<W.heap.size:=λx hx=>by simpa using rN.lt x hx
 have Km:∀(W':World),Below W.heap.size W W'->DataW.Trod enc Tryz.prog W' 0 (λb=>decide (b<W.heap.size)) true 22 (.slice a0 len cap) d0 p:=
  λW' hn=>Below.trod (by kernel_rfl) (by kernel_rfl) (of_decide_eq_true (by kernel_rfl)) h0k hn bd
 have close:∀(zs:List Int),len<=zs.length->len<=9223372036854775807->(∀n∈zs,(Lit.int .i64 n).wf=true)->(0<len->∃ad,a0=some ad)->
  (∀j ad,j<len->a0=some ad->W.cell? (ad.add j)=some (.int .i64 (zs.getD j 0)))->
  ∃M last o w' t',runNT Tryz.checked.prog (M+1) (Conc.solo (G (Frame.enter Tryz.checked.prog 3 #[.slice a0 len cap] .normal) []) W) #[]=(.ended o w',t')/\
   runN Tryz.checked.prog M (Conc.solo (G (Frame.enter Tryz.checked.prog 3 #[.slice a0 len cap] .normal) []) W)=.next last/\step Tryz.checked.prog last=.ended o w'/\
   Conc.Good Tryz.checked.prog (λv W'=>Rows.keptSpec.post enc Tryz.checked.prog Tryz.f3 false true false false W #[.slice a0 len cap] v W') last o w' t':=by
  intro zs hz hn hw mI GC;obtain⟨M,last,o,w',t',r1,r2,r3,r4⟩:=aiN (cap:=cap) hz hn hw mI GC xP hL;refine⟨M,last,o,w',t',r1,r2,r3,r4.mono λv hF=>?_⟩;obtain⟨rfl,Rt⟩:=hF;have eE:DataW.TrodAll enc Tryz.prog w' W.heap.size (λ_=>false) false [4] [.bool true] [.lit (.bool true)] []:=trodAll_mk1 (shut_bool Tryz.underlying4 true);exact⟨_,_,_,[],p,[],rN,eE,trodAll_mk1 (Km _ Rt),rfl,Rt.frame _,λh=>by cases h⟩
 rcases open_ints VF Tryz.underlying3 (by kernel_rfl) hf with⟨kT,hx⟩|⟨a,atr,ar0,zs,kT,_,hl,hm,hz,hx,kE,hwz⟩
 ·simp[Value.cells]at kT;obtain⟨rfl,rfl,rfl⟩:=kT;exact close [] (by simp) (by omega) (by simp) (λh=>absurd h (by omega)) (λj ad hj=>absurd hj (by omega))
 ·simp[Value.cells]at kT;obtain⟨rfl,rfl,rfl⟩:=kT;simp only[if_true]at hz;exact close zs (by omega) (by simp only[maxLen]at hm;omega) hwz (λ_=>⟨a,rfl⟩) (λj ad hj e=>by cases e;exact kE j (by omega))
end Go.Proofs.YtpiabknabfbfhaaGreatDoor
namespace Go.Proofs.YtpiabknabfbfhaaGreatDoor
open Go
theorem Yt:(Rows.keptRow.wf (OpenSpec.ofChange Rows.keptSpec))=true:=by kernel_rfl
theorem Yu:(laidOutB Tryz.prog)=true:=by kernel_rfl
theorem YF:(mapsRowed Tryz.prog)=true:=by kernel_rfl
theorem YQ:(Tryz.f3.params.all (Tryz.prog.readableRec ·))=true:=by kernel_rfl
theorem YT:(namedTie Tryz.prog Rows.keptRow.named Rows.keptSpec.vars)=true:=by kernel_rfl
theorem YU:((Rows.keptRow.stops==[]))=true:=by kernel_rfl
theorem YV:((Tryz.prog.stops==[]))=true:=by kernel_rfl
theorem YW:((Rows.keptRow.knobs==[]))=true:=by kernel_rfl
theorem YX:((Tryz.prog.stopKnobs==[]))=true:=by kernel_rfl
theorem YY:((Rows.keptRow.inPlace==Tryz.prog.inPlace 3))=true:=by kernel_rfl
theorem Yv:((Rows.keptRow.unfollowed==Tryz.prog.unfollowed 3))=true:=by kernel_rfl
theorem Yw:((Rows.keptRow.recurses==Tryz.prog.recurses 3))=true:=by kernel_rfl
theorem Yx:((Rows.keptRow.named==Tryz.prog.varsNamed 3))=true:=by kernel_rfl
theorem Yy:((Rows.keptRow.maps==(Tryz.f3.params.toList++Rows.keptSpec.plain.varTypes Tryz.prog).any (Tryz.prog.mapsRec ·)))=true:=by kernel_rfl
theorem Yz:((Rows.keptRow.ifaces==(Tryz.f3.params.toList++Rows.keptSpec.plain.varTypes Tryz.prog).any (Tryz.prog.ifacesRec ·)))=true:=by kernel_rfl
theorem YA:((Rows.keptRow.mapsOut==Tryz.prog.mapsAmong Tryz.f3.resultTypes.toList))=true:=by kernel_rfl
theorem YB:((Rows.keptRow.loops==(Tryz.f3.params.toList++Rows.keptSpec.plain.varTypes Tryz.prog).any (Tryz.prog.loopsFrom ·)))=true:=by kernel_rfl
theorem YC:((Rows.keptRow.wideKeys==(Tryz.f3.params.toList++Rows.keptSpec.plain.varTypes Tryz.prog++Tryz.f3.resultTypes.toList).any (Tryz.prog.wideKeysFrom ·)))=true:=by kernel_rfl
theorem YD:(Rows.keptSpec.vars.all (Tryz.prog.varReadable ·))=true:=by kernel_rfl
theorem YE:(Tryz.f3.resultTypes.all (λt=>Tryz.prog.readableRec t&&decide (t<Tryz.prog.types.size)))=true:=by kernel_rfl
theorem YG:((Rows.keptRow.ifacesOut==Tryz.f3.resultTypes.toList.any (Tryz.prog.ifacesRec ·)))=true:=by kernel_rfl
theorem YH:((Rows.keptRow.loopsOut==Tryz.f3.resultTypes.toList.any (Tryz.prog.loopsFrom ·)))=true:=by kernel_rfl
theorem YI:((Rows.keptRow.plainKeys==Tryz.prog.plainKeys))=true:=by kernel_rfl
theorem YJ:(Rows.keptRow.shortTexts.isNone)=true:=by kernel_rfl
theorem YK:(Tryz.prog.stopsHeard)=true:=by kernel_rfl
theorem YL:(Tryz.prog.mayEnter)=true:=by kernel_rfl
theorem YM:((Rows.keptRow.lifted==Tryz.prog.liftsFinal))=true:=by kernel_rfl
theorem YN:((Tryz.prog.make==some Rows.keptRow.make))=true:=by kernel_rfl
theorem YO:((Rows.keptRow.kinds==(if Rows.keptRow.domain.isEmpty then []else Tryz.f3.params.toList.map λt=>match Tryz.prog.underlying t with|some (.int k)=>some k|_=>none)))=true:=by kernel_rfl
theorem YP:((Rows.keptRow.pinned==Rows.keptRow.pinnedBy))=true:=by kernel_rfl
theorem YR:((Rows.keptRow.veiled==(Tryz.f3.params.toList++Rows.keptSpec.plain.varTypes Tryz.prog++Tryz.f3.resultTypes.toList).any (Tryz.prog.veiledRec ·)))=true:=by kernel_rfl
theorem YS:(Rows.keptRow.veiledFits Tryz.prog Tryz.f3.params.toList (Tryz.f3.params.toList++Rows.keptSpec.plain.varTypes Tryz.prog++Tryz.f3.resultTypes.toList))=true:=by kernel_rfl
theorem gX {a b:Bool}(h:a=true)(k:b=true):(a&&b)=true:=by rw[h,k];rfl
theorem Yn:joinedFacts Tryz.prog 3 Tryz.f3 Rows.keptSpec Rows.keptRow=true:=
 gX (gX (gX (gX (gX (gX (gX (gX (gX (gX (gX (gX (gX (gX (gX (gX (gX (gX (gX (gX (gX (gX (gX (gX (gX (gX (gX (gX (gX (gX (gX Yt Yu) YF) YQ) YT) YU) YV) YW) YX) YY) Yv) Yw) Yx) Yy) Yz) YA) YB) YC) YD) YE) YG) YH) YI) YJ) YK) YL) YM) YN) YO) YP) YR) YS
theorem Yo:Tryz.prog.funcNamed "queuewire/queuewirekeep.Kept" =some 3:=by kernel_rfl
theorem Ym:Tryz.f3.isInstance Tryz.prog Rows.keptRow.origin Rows.keptRow.targs:=of_decide_eq_true (by kernel_rfl)
theorem Yp:Tryz.f3.isWrapper Tryz.prog Rows.keptRow.wrapper Rows.keptRow.mainSum:=by unfold Func.isWrapper;first|(rw[if_pos (by decide+kernel)];kernel_rfl)|(rw[if_neg (by decide+kernel)];exact⟨rfl,rfl⟩)
end Go.Proofs.YtpiabknabfbfhaaGreatDoor
