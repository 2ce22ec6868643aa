/- 39 -/
import Derived.Deep.Strs
import Derived.Test.YtpiabknabfbfhaaGreatDoorRows
import Derived.JoinedOf
import Derived.KernelRfl
import Derived.Test.YtpiabknabfbfhaaGreatDoorFramed37
import Derived.Test.YtpiabknabfbfhaaGreatDoorFramed38
set_option linter.all false
set_option maxRecDepth 100000
set_option maxHeartbeats 8000000
namespace Go.Proofs.YtpiabknabfbfhaaGreatDoor
open Go Go.Qw Go.Conc Go.ChangeShapes Go.WideShapes Go.ChangeAt Go.RowKit Go.Lib Go.Deep
theorem EZ (s:ByteArray):B s.data.toList=s:=by obtain⟨d⟩:=s;rfl
theorem aoZ {W:World}{a0:Option Addr}{len:Nat}{Sx:Nat->ByteArray}(hs:W.ShapedOpen Tryz.prog)(hl:laidMetH Tryz.prog s5 W)
 (hp:0<len) (kX:0<len->∃ad,a0=some ad) (hc:∀j ad,j<len->a0=some ad->W.cell? (ad.add j)=some (.string (Sx j))):
 ∃ab off cs e z,a0=some ⟨ab,off,none⟩/\¬ab<2/\W.heap[ab]? =some (.cells cs e z)/\∀i (h:i<((List.range len).map λi=>(Sx i).data.toList).length),cs.toList[off+i]? =some (sV ((List.range len).map λi=>(Sx i).data.toList)[i]):=by
 obtain⟨k0,k1⟩:=So hs hl;obtain⟨ad,rfl⟩:=kX hp;have c0:=hc 0 ad hp rfl;obtain⟨s0,cs,e,z,hb,hz⟩:=OJ c0;obtain⟨ab,off,spot⟩:=ad;obtain rfl:spot=none:=s0;have cD:W.heap[ab]? =some (.cells cs e z):=hb;refine⟨ab,off,cs,e,z,rfl,λh=>?_,cD,λi hi=>?_⟩
 ·have xy:cs[off]? =some (.string (Sx 0)):=hz;rcases(show ab=0\/ab=1 by omega)with rfl|rfl
  ·rw[k0]at cD;injection cD with cD;injection cD with cD _ _;rw[<-cD]at xy
   cases off with
   |zero=>cases xy
   |succ o=>simp at xy
  ·rw[k1]at cD;injection cD with cD;injection cD with cD _ _;rw[<-cD,List.getElem?_toArray]at xy;have hm:=List.mem_of_getElem? xy;obtain⟨x,_,hx⟩:=List.mem_map.1 (show _∈propertiesTab.map λz=>Value.int .u8 z from hm)
   cases hx
 ·have AN:i<len:=by simpa using hi
  have:=hc i ⟨ab,off,none⟩ AN rfl;rw[show(⟨ab,off,none⟩:Addr).add i=⟨ab,off+i,none⟩by simp[Addr.add]]at this;obtain⟨_,cs',e',z',dh,DF⟩:=OJ this;have dh:W.heap[ab]? =some (.cells cs' e' z'):=dh;rw[cD]at dh;injection dh with dh;injection dh with dh _ _;subst dh;have DF:cs[off+i]? =some (.string (Sx i)):=DF;rw[Array.getElem?_toList,DF];simp[EZ]
theorem ab7 {base:Option Addr}{len cap:Nat}{Sx:Nat->ByteArray}{W:World}(hn:len<=9223372036854775807)
 (kX:0<len->∃ad,base=some ad) (hc:∀j ad,j<len->base=some ad->W.cell? (ad.add j)=some (.string (Sx j))) (hs:W.ShapedOpen Tryz.prog) (hl:laidMetH Tryz.prog s5 W):
 ∃N last o w' t',runNT Tryz.prog (N+1) (Conc.solo (Go.Conc.G (Frame.enter Tryz.prog 6 #[.slice base len cap] .normal) []) W) #[]=(.ended o w',t')/\runN Tryz.prog N (Conc.solo (Go.Conc.G (Frame.enter Tryz.prog 6 #[.slice base len cap] .normal) []) W)=.next last/\step Tryz.prog last=.ended o w'/\
  Conc.Good Tryz.prog (λv w'=>v=.bool true/\Below W.heap.size W w') last o w' t':=by
 obtain⟨k0,k1⟩:=So hs hl;have h0:((⟨λb=>W.heap[b]?⟩:Hp).only λk=>k<2).f 0=some (.cells #[rT 45] 143 (0,0)):=Hp.Ej k0 (by decide);have h1:((⟨λb=>W.heap[b]?⟩:Hp).only λk=>k<2).f 1=some (.cells Bn.toArray 396 (0,0)):=Hp.Ej k1 (by decide);by_cases hp:0<len
 ·obtain⟨ab,off,cs,e,z,rfl,h2,cD,jQ⟩:=aoZ hs hl hp kX hc;refine Uc (λk=>k<2\/k=ab) (by kernel_rfl) Tryz.func6 Tryz.results6 λφ=>?_;rw[ala h2 cD];have hk:=ab2 (W:=W) (φ:=φ) (l:=(List.range len).map λi=>(Sx i).data.toList) (cs:=cs.toList) (ez:=e) (fz:=z) (ab:=ab) (off:=off) (cap:=cap) (U:=(⟨λb=>W.heap[b]?⟩:Hp).only λk=>k<2) (L1:=Bn) ⟨h0,h1,rfl⟩ (by simp[Hp.only,h2]) jQ (by simpa using hn);rw[List.length_map,List.length_range,Array.toArray_toList]at hk;refine hk.mono λe R ⟨q1,q2,q3,q4⟩=>⟨q1,λb hb=>?_⟩;rcases hb with dh|rfl
  ·match b,dh with
   |0,_=>rw[q2,h0,k0]
   |1,_=>rw[q3,h1,k1];rfl
  ·rw[q4,cD]
 ·obtain rfl:len=0:=by omega
  refine Uc (λk=>k<2) (by kernel_rfl) Tryz.func6 Tryz.results6 λφ=>?_;refine(ab3 ⟨h0,h1,rfl⟩).mono λe R ⟨q1,q2,q3⟩=>⟨q1,λb hb=>?_⟩;have dh:b<2:=hb
  match b,dh with
  |0,_=>rw[q2,h0,k0]
  |1,_=>rw[q3,h1,k1];rfl
theorem U3:Tryz.prog.underlying 49=some (.slice 9):=by kernel_rfl
theorem u9:Tryz.prog.underlying 9=some .string:=by kernel_rfl
theorem ab6 (os:Os)(started:os.Started)(H:Type)(enc:TypeId×Value->H):
 ReturnsInLeavingWide {} Tryz.checked os 6 .any (λw args=>(Rows.framedSpec.pre enc Tryz.prog Tryz.f6 [] false w args/\laidMetH Tryz.prog s5 w)/\sizedMet enc Tryz.prog Tryz.f6 (OpenSpec.ofChange Rows.framedSpec) false w args)
  (Rows.framedSpec.post enc Tryz.prog Tryz.f6 false true false false):=by
 refine aiD (C:=Tryz.checked) (X:=λw _=>laidMetH Tryz.prog s5 w) (λ_ _ _ hh h=>h.of_heap hh) own started Tryz.func6
  (ChangeSpec.witness_shaped (enc:=enc) (C:=Tryz.checked) (os:=os) (X:=λw _=>laidMetH Tryz.prog s5 w) false (DL os) #[.slice none 0 0] 6 (aim os)
   (ain os _) (by kernel_rfl) (by kernel_rfl) (by kernel_rfl) (ail os _)) ?_
 intro W base args ds gs before xt RH hW _ hL;have dr:∀(j:Nat) t v,Tryz.f6.params[j]? =some t->args[j]? =some v->Value.okWide Tryz.prog W .any base t v:=RH;have rA:=hW;obtain⟨p,q,FF,hV,rfl,_,_⟩:=hW;have hA:DataW.TrodAll enc Tryz.prog W 0 (λ_=>true) true Tryz.f6.params.toList args.toList ds p:=FF;rw[Tryz.params6]at hA dr;obtain⟨v0,d0,rfl,rfl,h0⟩:=trodAll_one hA;obtain⟨rfl,rfl⟩:=trodVars_none hV;obtain⟨a0,len,cap,rfl⟩:=okWide_slice U3 (dr 0 49 v0 rfl rfl);have h0k:=h0;obtain⟨fuel,hf⟩:=h0;clear FF RH;simp only[List.append_nil]at rA;have aZ:∀x∈p,x.block<W.heap.size:=λx hx=>by simpa using rA.lt x hx
 have JR:∀(W':World),Below W.heap.size W W'->DataW.Trod enc Tryz.prog W' 0 (λb=>decide (b<W.heap.size)) true 49 (.slice a0 len cap) d0 p:=
  λW' hn=>Below.trod (by kernel_rfl) (by kernel_rfl) (of_decide_eq_true (by kernel_rfl)) h0k hn aZ
 have close:∀(Sx:Nat->ByteArray),len<=9223372036854775807->(0<len->∃ad,a0=some ad)->
  (∀j ad,j<len->a0=some ad->W.cell? (ad.add j)=some (.string (Sx j)))->
  ∃M last o w' t',runNT Tryz.checked.prog (M+1) (Conc.solo (G (Frame.enter Tryz.checked.prog 6 #[.slice a0 len cap] .normal) []) W) #[]=(.ended o w',t')/\
   runN Tryz.checked.prog M (Conc.solo (G (Frame.enter Tryz.checked.prog 6 #[.slice a0 len cap] .normal) []) W)=.next last/\step Tryz.checked.prog last=.ended o w'/\
   Conc.Good Tryz.checked.prog (λv W'=>Rows.framedSpec.post enc Tryz.checked.prog Tryz.f6 false true false false W #[.slice a0 len cap] v W') last o w' t':=by
  intro Sx hn kX FX;obtain⟨M,last,o,w',t',r1,r2,r3,r4⟩:=ab7 (cap:=cap) hn kX FX xt hL;refine⟨M,last,o,w',t',r1,r2,r3,r4.mono λv hF=>?_⟩;obtain⟨rfl,QG⟩:=hF;have fC:DataW.TrodAll enc Tryz.prog w' W.heap.size (λ_=>false) false [4] [.bool true] [.lit (.bool true)] []:=trodAll_mk1 (shut_bool Tryz.underlying4 true);exact⟨_,_,_,[],p,[],rA,fC,trodAll_mk1 (JR _ QG),rfl,QG.frame _,λh=>by cases h⟩
 rcases open_strs U3 u9 (by kernel_rfl) hf with⟨jQ,hx⟩|⟨a,asz,arc,m,Sx,jQ,_,hl,hm,hz,hx,j9⟩
 ·simp[Value.cells]at jQ;obtain⟨rfl,rfl,rfl⟩:=jQ;exact close (λ_=>default) (by omega) (λh=>absurd h (by omega)) (λj ad hj=>absurd hj (by omega))
 ·simp[Value.cells]at jQ;obtain⟨rfl,rfl,rfl⟩:=jQ;simp only[if_true]at hz;exact close Sx (by simp only[maxLen]at hm;omega) (λ_=>⟨a,rfl⟩) (λj ad hj e=>by cases e;exact(j9 j (by omega)).1)
end Go.Proofs.YtpiabknabfbfhaaGreatDoor
namespace Go.Proofs.YtpiabknabfbfhaaGreatDoor
open Go
theorem XM:(Rows.framedRow.wf (OpenSpec.ofChange Rows.framedSpec))=true:=by kernel_rfl
theorem XO:(laidOutB Tryz.prog)=true:=by kernel_rfl
theorem XZ:(mapsRowed Tryz.prog)=true:=by kernel_rfl
theorem Ye:(Tryz.f6.params.all (Tryz.prog.readableRec ·))=true:=by kernel_rfl
theorem Yh:(namedTie Tryz.prog Rows.framedRow.named Rows.framedSpec.vars)=true:=by kernel_rfl
theorem Yi:((Rows.framedRow.stops==[]))=true:=by kernel_rfl
theorem Yj:((Tryz.prog.stops==[]))=true:=by kernel_rfl
theorem Yk:((Rows.framedRow.knobs==[]))=true:=by kernel_rfl
theorem Yl:((Tryz.prog.stopKnobs==[]))=true:=by kernel_rfl
theorem Ym:((Rows.framedRow.inPlace==Tryz.prog.inPlace 6))=true:=by kernel_rfl
theorem XP:((Rows.framedRow.unfollowed==Tryz.prog.unfollowed 6))=true:=by kernel_rfl
theorem XQ:((Rows.framedRow.recurses==Tryz.prog.recurses 6))=true:=by kernel_rfl
theorem XR:((Rows.framedRow.named==Tryz.prog.varsNamed 6))=true:=by kernel_rfl
theorem XS:((Rows.framedRow.maps==(Tryz.f6.params.toList++Rows.framedSpec.plain.varTypes Tryz.prog).any (Tryz.prog.mapsRec ·)))=true:=by kernel_rfl
theorem XT:((Rows.framedRow.ifaces==(Tryz.f6.params.toList++Rows.framedSpec.plain.varTypes Tryz.prog).any (Tryz.prog.ifacesRec ·)))=true:=by kernel_rfl
theorem XU:((Rows.framedRow.mapsOut==Tryz.prog.mapsAmong Tryz.f6.resultTypes.toList))=true:=by kernel_rfl
theorem XV:((Rows.framedRow.loops==(Tryz.f6.params.toList++Rows.framedSpec.plain.varTypes Tryz.prog).any (Tryz.prog.loopsFrom ·)))=true:=by kernel_rfl
theorem XW:((Rows.framedRow.wideKeys==(Tryz.f6.params.toList++Rows.framedSpec.plain.varTypes Tryz.prog++Tryz.f6.resultTypes.toList).any (Tryz.prog.wideKeysFrom ·)))=true:=by kernel_rfl
theorem XX:(Rows.framedSpec.vars.all (Tryz.prog.varReadable ·))=true:=by kernel_rfl
theorem XY:(Tryz.f6.resultTypes.all (λt=>Tryz.prog.readableRec t&&decide (t<Tryz.prog.types.size)))=true:=by kernel_rfl
theorem X3:((Rows.framedRow.ifacesOut==Tryz.f6.resultTypes.toList.any (Tryz.prog.ifacesRec ·)))=true:=by kernel_rfl
theorem X4:((Rows.framedRow.loopsOut==Tryz.f6.resultTypes.toList.any (Tryz.prog.loopsFrom ·)))=true:=by kernel_rfl
theorem X5:((Rows.framedRow.plainKeys==Tryz.prog.plainKeys))=true:=by kernel_rfl
theorem X6:(Rows.framedRow.shortTexts.isNone)=true:=by kernel_rfl
theorem X7:(Tryz.prog.stopsHeard)=true:=by kernel_rfl
theorem X8:(Tryz.prog.mayEnter)=true:=by kernel_rfl
theorem X9:((Rows.framedRow.lifted==Tryz.prog.liftsFinal))=true:=by kernel_rfl
theorem Ya:((Tryz.prog.make==some Rows.framedRow.make))=true:=by kernel_rfl
theorem Yb:((Rows.framedRow.kinds==(if Rows.framedRow.domain.isEmpty then []else Tryz.f6.params.toList.map λt=>match Tryz.prog.underlying t with|some (.int k)=>some k|_=>none)))=true:=by kernel_rfl
theorem Yd:((Rows.framedRow.pinned==Rows.framedRow.pinnedBy))=true:=by kernel_rfl
theorem Yf:((Rows.framedRow.veiled==(Tryz.f6.params.toList++Rows.framedSpec.plain.varTypes Tryz.prog++Tryz.f6.resultTypes.toList).any (Tryz.prog.veiledRec ·)))=true:=by kernel_rfl
theorem Yg:(Rows.framedRow.veiledFits Tryz.prog Tryz.f6.params.toList (Tryz.f6.params.toList++Rows.framedSpec.plain.varTypes Tryz.prog++Tryz.f6.resultTypes.toList))=true:=by kernel_rfl
theorem gJ {a b:Bool}(h:a=true)(k:b=true):(a&&b)=true:=by rw[h,k];rfl
theorem XH:joinedFacts Tryz.prog 6 Tryz.f6 Rows.framedSpec Rows.framedRow=true:=
 gJ (gJ (gJ (gJ (gJ (gJ (gJ (gJ (gJ (gJ (gJ (gJ (gJ (gJ (gJ (gJ (gJ (gJ (gJ (gJ (gJ (gJ (gJ (gJ (gJ (gJ (gJ (gJ (gJ (gJ (gJ XM XO) XZ) Ye) Yh) Yi) Yj) Yk) Yl) Ym) XP) XQ) XR) XS) XT) XU) XV) XW) XX) XY) X3) X4) X5) X6) X7) X8) X9) Ya) Yb) Yd) Yf) Yg
theorem XI:Tryz.prog.funcNamed "queuewire/queuewirekeep.Framed" =some 6:=by kernel_rfl
theorem XG:Tryz.f6.isInstance Tryz.prog Rows.framedRow.origin Rows.framedRow.targs:=of_decide_eq_true (by kernel_rfl)
theorem XJ:Tryz.f6.isWrapper Tryz.prog Rows.framedRow.wrapper Rows.framedRow.mainSum:=by unfold Func.isWrapper;first|(rw[if_pos (by decide+kernel)];kernel_rfl)|(rw[if_neg (by decide+kernel)];exact⟨rfl,rfl⟩)
end Go.Proofs.YtpiabknabfbfhaaGreatDoor
